/- Texts of ours, one behind the other: a walk that the kernel reckons, and contracts of functions. No condition. -/
import Derived.Laws.Externs
import Derived.Test.YtikngjpbkcbogaaGreatM5
namespace Sx
set_option linter.unusedVariables false
set_option maxRecDepth 100000
open Go Cv Go.Proofs
def zBr (s:List UInt8):Prop:=
 ∃(i0:Nat×Nat),(↑i0.snd:Int)=0∧sb s=sb s∧i0.fst=0∧∃(I:Nat×Nat→Prop),∃(μ:Nat×Nat→Nat),I i0∧∀(i:Nat×Nat),I i→cnd (i.fst.blt (sb s).size) (∃(i0:Bool),∃(I_1:Bool→Prop),cnd (decide ((↑(Utf8.decode (sb s) i.fst).fst:Int)≥65)) (cnd (decide ((↑(Utf8.decode (sb s) i.fst).fst:Int)≤90)) (∃(i':Bool),i'=!true∧I_1 i'∧Sx.AObj.iter (sb s) (i.fst+(Utf8.decode (sb s) i.fst).snd)=Sx.AObj.iter (sb s) (i.fst+(Utf8.decode (sb s) i.fst).snd)) (cnd (decide ((↑(Utf8.decode (sb s) i.fst).fst:Int)≥913)) (cnd (decide ((↑(Utf8.decode (sb s) i.fst).fst:Int)≤937)) (∃(i':Bool),i'=!(↑(Utf8.decode (sb s) i.fst).fst:Int) !=930∧I_1 i'∧Sx.AObj.iter (sb s) (i.fst+(Utf8.decode (sb s) i.fst).snd)=Sx.AObj.iter (sb s) (i.fst+(Utf8.decode (sb s) i.fst).snd)) (∃(i':Bool),i'=!false∧I_1 i'∧Sx.AObj.iter (sb s) (i.fst+(Utf8.decode (sb s) i.fst).snd)=Sx.AObj.iter (sb s) (i.fst+(Utf8.decode (sb s) i.fst).snd))) (∃(i':Bool),i'=!false∧I_1 i'∧Sx.AObj.iter (sb s) (i.fst+(Utf8.decode (sb s) i.fst).snd)=Sx.AObj.iter (sb s) (i.fst+(Utf8.decode (sb s) i.fst).snd)))) (cnd (decide ((↑(Utf8.decode (sb s) i.fst).fst:Int)≥913)) (cnd (decide ((↑(Utf8.decode (sb s) i.fst).fst:Int)≤937)) (∃(i':Bool),i'=!(↑(Utf8.decode (sb s) i.fst).fst:Int) !=930∧I_1 i'∧Sx.AObj.iter (sb s) (i.fst+(Utf8.decode (sb s) i.fst).snd)=Sx.AObj.iter (sb s) (i.fst+(Utf8.decode (sb s) i.fst).snd)) (∃(i':Bool),i'=!false∧I_1 i'∧Sx.AObj.iter (sb s) (i.fst+(Utf8.decode (sb s) i.fst).snd)=Sx.AObj.iter (sb s) (i.fst+(Utf8.decode (sb s) i.fst).snd))) (∃(i':Bool),i'=!false∧I_1 i'∧Sx.AObj.iter (sb s) (i.fst+(Utf8.decode (sb s) i.fst).snd)=Sx.AObj.iter (sb s) (i.fst+(Utf8.decode (sb s) i.fst).snd)))∧∀(i_1:Bool),I_1 i_1→cnd i_1 (∃(o:Unit),qU s=false∧True) (∃(i':Nat×Nat),(↑i'.snd:Int)=IntKind.i64.wrap ((↑i.snd:Int)+1)∧sb s=sb s∧i'.fst=i.fst+(Utf8.decode (sb s) i.fst).snd∧I i'∧μ i'<μ i∧True)) (cnd (decide ((↑i.snd:Int)≥1)) (∃(o:Unit),qU s=decide ((↑i.snd:Int)≤4)∧True) (∃(o:Unit),qU s=false∧True))
theorem zTb (hG:GOk Tryz.prog ([])) (h:∀(s:List UInt8),r3prodC.cnd s→zBr s):r3prodC.ok Tryz.prog 93:=okw mixed hG 0 (fun _=>zZa) (fun s=>zXw s) [] Tryz.func93 h
@[reducible] def zM (p:Prd):AObj:=Sx.AObj.cells [V.d (D.v (Value.string (sb p.code))),V.own (0:Nat),V.d (D.v (.int .i64 p.tick)),V.d (D.v (.int .i64 p.low)),V.d (D.v (.int .i64 p.high)),V.d (D.v (.int .i64 p.wide)),V.d (D.v (.int .i64 p.rule)),V.d (D.v (.int .i64 p.top)),V.d (D.v (.int .i64 p.least)),V.d (D.v (.int .i64 p.part)),V.own ((0:Nat)+(1:Nat))] (25:Nat)
@[reducible] def cV (p:Prd) (i:Nat) (o:Unit) (I:Nat→Prop) (μ:Nat→Nat) (I_1:Bool→Prop):Prop:=∀(i_1:Bool),I_1 i_1→cnd i_1 (∃(o:Unit),p.check=1∧True) (∃(i':Nat),(↑i':Int)=IntKind.i64.wrap ((↑i:Int)+1)∧I i'∧μ i'<μ i∧zM p=zM p∧AObj.fro 1 (iE p.settle)=AObj.fro 1 (iE p.settle)∧AObj.fro 1 (iE p.months)=AObj.fro 1 (iE p.months))
def rE (p:Prd):Prop:=
 ∃(i:List UInt8),sb i=sb p.code∧i.length≤1099511627776∧∀(o:Unit),True→cnd (!qU i) (∃(o:Unit),p.check=12∧True) (∃(i0:Bool),∃(I:Bool→Prop),cnd (decide ((↑(iE p.months).length:Int)<2)) (∃(i':Bool),i'=true∧I i'∧zM p=zM p∧AObj.fro 1 (iE p.settle)=AObj.fro 1 (iE p.settle)∧AObj.fro 1 (iE p.months)=AObj.fro 1 (iE p.months)) (∃(i':Bool),i'=decide ((↑(iE p.months).length:Int)>6)∧I i'∧zM p=zM p∧AObj.fro 1 (iE p.settle)=AObj.fro 1 (iE p.settle)∧AObj.fro 1 (iE p.months)=AObj.fro 1 (iE p.months))∧∀(i:Bool),I i→cnd i (∃(o:Unit),p.check=1∧True) (∃(i0:Nat),(↑i0:Int)=0∧∃(I:Nat→Prop),∃(μ:Nat→Nat),I i0∧∀(i:Nat),I i→cnd (decide ((↑i:Int)<(↑(iE p.months).length:Int))) (∃(i0:Bool),∃(I_1:Bool→Prop),((0≤(↑i:Int)∧(↑i:Int)<(↑(iE p.months).length:Int))∧∃(n:Int),zJ (iE p.months) (↑i:Int).toNat 0 1=some [D.v (.int .i64 n)]∧cnd (decide (n<0)) (∃(i':Bool),i'=true∧I_1 i'∧zM p=zM p∧AObj.fro 1 (iE p.settle)=AObj.fro 1 (iE p.settle)∧AObj.fro 1 (iE p.months)=AObj.fro 1 (iE p.months)) ((0≤(↑i:Int)∧(↑i:Int)<(↑(iE p.months).length:Int))∧∃(n:Int),zJ (iE p.months) (↑i:Int).toNat 0 1=some [D.v (.int .i64 n)]∧cnd (decide (n>1199)) (∃(i':Bool),i'=true∧I_1 i'∧zM p=zM p∧AObj.fro 1 (iE p.settle)=AObj.fro 1 (iE p.settle)∧AObj.fro 1 (iE p.months)=AObj.fro 1 (iE p.months)) (cnd (decide ((↑i:Int)>0)) ((0≤IntKind.i64.wrap ((↑i:Int)-1)∧IntKind.i64.wrap ((↑i:Int)-1)<(↑(iE p.months).length:Int))∧∃(n:Int),zJ (iE p.months) (IntKind.i64.wrap ((↑i:Int)-1)).toNat 0 1=some [D.v (.int .i64 n)]∧(0≤(↑i:Int)∧(↑i:Int)<(↑(iE p.months).length:Int))∧∃(n_1:Int),zJ (iE p.months) (↑i:Int).toNat 0 1=some [D.v (.int .i64 n_1)]∧∃(i':Bool),i'=decide (n≥n_1)∧I_1 i'∧zM p=zM p∧AObj.fro 1 (iE p.settle)=AObj.fro 1 (iE p.settle)∧AObj.fro 1 (iE p.months)=AObj.fro 1 (iE p.months)) (∃(i':Bool),i'=false∧I_1 i'∧zM p=zM p∧AObj.fro 1 (iE p.settle)=AObj.fro 1 (iE p.settle)∧AObj.fro 1 (iE p.months)=AObj.fro 1 (iE p.months)))))∧cV p i o I μ I_1) (∃(i0:Bool),∃(I:Bool→Prop),cnd (decide (p.tick<1)) (∃(i':Bool),i'=true∧I i'∧zM p=zM p∧AObj.fro 1 (iE p.settle)=AObj.fro 1 (iE p.settle)∧AObj.fro 1 (iE p.months)=AObj.fro 1 (iE p.months)) (cnd (decide (p.tick>1000)) (∃(i':Bool),i'=true∧I i'∧zM p=zM p∧AObj.fro 1 (iE p.settle)=AObj.fro 1 (iE p.settle)∧AObj.fro 1 (iE p.months)=AObj.fro 1 (iE p.months)) (IntKind.i64=IntKind.i64∧p.tick≠0∧cnd (p.low.tmod p.tick !=0) (∃(i':Bool),i'=true∧I i'∧zM p=zM p∧AObj.fro 1 (iE p.settle)=AObj.fro 1 (iE p.settle)∧AObj.fro 1 (iE p.months)=AObj.fro 1 (iE p.months)) (IntKind.i64=IntKind.i64∧p.tick≠0∧cnd (p.high.tmod p.tick !=0) (∃(i':Bool),i'=true∧I i'∧zM p=zM p∧AObj.fro 1 (iE p.settle)=AObj.fro 1 (iE p.settle)∧AObj.fro 1 (iE p.months)=AObj.fro 1 (iE p.months)) (IntKind.i64=IntKind.i64∧p.tick≠0∧∃(i':Bool),i'=(p.wide.tmod p.tick !=0)∧I i'∧zM p=zM p∧AObj.fro 1 (iE p.settle)=AObj.fro 1 (iE p.settle)∧AObj.fro 1 (iE p.months)=AObj.fro 1 (iE p.months)))))∧∀(i:Bool),I i→cnd i (∃(o:Unit),p.check=22∧True) (∃(i0:Nat),(↑i0:Int)=0∧∃(I:Nat→Prop),∃(μ:Nat→Nat),I i0∧∀(i:Nat),I i→cnd (decide ((↑i:Int)<(↑(iE p.settle).length:Int))) ((0≤(↑i:Int)∧(↑i:Int)<(↑(iE p.settle).length:Int))∧∃(n:Int),zJ (iE p.settle) (↑i:Int).toNat 0 1=some [D.v (.int .i64 n)]∧IntKind.i64=IntKind.i64∧p.tick≠0∧cnd (n.tmod p.tick !=0) (∃(o:Unit),p.check=22∧True) (∃(i':Nat),(↑i':Int)=IntKind.i64.wrap ((↑i:Int)+1)∧I i'∧μ i'<μ i∧zM p=zM p∧AObj.fro 1 (iE p.settle)=AObj.fro 1 (iE p.settle)∧AObj.fro 1 (iE p.months)=AObj.fro 1 (iE p.months))) (∃(i0:Bool),∃(I:Bool→Prop),cnd (decide (p.low<(-1000000))) (∃(i':Bool),i'=true∧I i'∧zM p=zM p∧AObj.fro 1 (iE p.settle)=AObj.fro 1 (iE p.settle)∧AObj.fro 1 (iE p.months)=AObj.fro 1 (iE p.months)) (cnd (decide (p.low≥p.high)) (∃(i':Bool),i'=true∧I i'∧zM p=zM p∧AObj.fro 1 (iE p.settle)=AObj.fro 1 (iE p.settle)∧AObj.fro 1 (iE p.months)=AObj.fro 1 (iE p.months)) (cnd (decide (p.high>1000000)) (∃(i':Bool),i'=true∧I i'∧zM p=zM p∧AObj.fro 1 (iE p.settle)=AObj.fro 1 (iE p.settle)∧AObj.fro 1 (iE p.months)=AObj.fro 1 (iE p.months)) (cnd (decide (p.wide<0)) (∃(i':Bool),i'=true∧I i'∧zM p=zM p∧AObj.fro 1 (iE p.settle)=AObj.fro 1 (iE p.settle)∧AObj.fro 1 (iE p.months)=AObj.fro 1 (iE p.months)) (∃(i':Bool),i'=decide (p.wide>IntKind.i64.wrap (p.high-p.low))∧I i'∧zM p=zM p∧AObj.fro 1 (iE p.settle)=AObj.fro 1 (iE p.settle)∧AObj.fro 1 (iE p.months)=AObj.fro 1 (iE p.months)))))∧∀(i:Bool),I i→cnd i (∃(o:Unit),p.check=23∧True) (cnd ((↑(iE p.settle).length:Int) !=(↑(iE p.months).length:Int)) (∃(o:Unit),p.check=1∧True) (∃(i0:Nat),(↑i0:Int)=0∧∃(I:Nat→Prop),∃(μ:Nat→Nat),I i0∧∀(i:Nat),I i→cnd (decide ((↑i:Int)<(↑(iE p.settle).length:Int))) (∃(i0:Bool),∃(I_1:Bool→Prop),((0≤(↑i:Int)∧(↑i:Int)<(↑(iE p.settle).length:Int))∧∃(n:Int),zJ (iE p.settle) (↑i:Int).toNat 0 1=some [D.v (.int .i64 n)]∧cnd (decide (n<p.low)) (∃(i':Bool),i'=true∧I_1 i'∧zM p=zM p∧AObj.fro 1 (iE p.settle)=AObj.fro 1 (iE p.settle)∧AObj.fro 1 (iE p.months)=AObj.fro 1 (iE p.months)) ((0≤(↑i:Int)∧(↑i:Int)<(↑(iE p.settle).length:Int))∧∃(n:Int),zJ (iE p.settle) (↑i:Int).toNat 0 1=some [D.v (.int .i64 n)]∧∃(i':Bool),i'=decide (n>p.high)∧I_1 i'∧zM p=zM p∧AObj.fro 1 (iE p.settle)=AObj.fro 1 (iE p.settle)∧AObj.fro 1 (iE p.months)=AObj.fro 1 (iE p.months)))∧cV p i o I μ I_1) (∃(i0:Bool),∃(I:Bool→Prop),cnd (decide (p.rule<1)) (∃(i':Bool),i'=true∧I i'∧zM p=zM p∧AObj.fro 1 (iE p.settle)=AObj.fro 1 (iE p.settle)∧AObj.fro 1 (iE p.months)=AObj.fro 1 (iE p.months)) (∃(i':Bool),i'=decide (p.rule>3)∧I i'∧zM p=zM p∧AObj.fro 1 (iE p.settle)=AObj.fro 1 (iE p.settle)∧AObj.fro 1 (iE p.months)=AObj.fro 1 (iE p.months))∧∀(i:Bool),I i→cnd i (∃(o:Unit),p.check=31∧True) (∃(i0:Bool),∃(I:Bool→Prop),cnd (decide (p.top<0)) (∃(i':Bool),i'=true∧I i'∧zM p=zM p∧AObj.fro 1 (iE p.settle)=AObj.fro 1 (iE p.settle)∧AObj.fro 1 (iE p.months)=AObj.fro 1 (iE p.months)) (cnd (decide (p.top>1000000)) (∃(i':Bool),i'=true∧I i'∧zM p=zM p∧AObj.fro 1 (iE p.settle)=AObj.fro 1 (iE p.settle)∧AObj.fro 1 (iE p.months)=AObj.fro 1 (iE p.months)) (cnd (decide (p.least<1)) (∃(i':Bool),i'=true∧I i'∧zM p=zM p∧AObj.fro 1 (iE p.settle)=AObj.fro 1 (iE p.settle)∧AObj.fro 1 (iE p.months)=AObj.fro 1 (iE p.months)) (cnd (decide (p.least>1000)) (∃(i':Bool),i'=true∧I i'∧zM p=zM p∧AObj.fro 1 (iE p.settle)=AObj.fro 1 (iE p.settle)∧AObj.fro 1 (iE p.months)=AObj.fro 1 (iE p.months)) (cnd (decide (p.part<0)) (∃(i':Bool),i'=true∧I i'∧zM p=zM p∧AObj.fro 1 (iE p.settle)=AObj.fro 1 (iE p.settle)∧AObj.fro 1 (iE p.months)=AObj.fro 1 (iE p.months)) (∃(i':Bool),i'=decide (p.part>100)∧I i'∧zM p=zM p∧AObj.fro 1 (iE p.settle)=AObj.fro 1 (iE p.settle)∧AObj.fro 1 (iE p.months)=AObj.fro 1 (iE p.months))))))∧∀(i:Bool),I i→cnd i (∃(o:Unit),p.check=24∧True) (∃(o:Unit),p.check=0∧True))))))))))
theorem zNr (hG:GOk Tryz.prog ([(93,r3prodC)])) (h:∀(p:Prd),r5checkC.cnd p→rE p):r5checkC.ok Tryz.prog 58:=okw mixed hG 0 (fun _=>zWa) (fun _=>zSc) [] Tryz.func58 h
def rJ (p:Prd):Prop:=
 ∃(i:Prd),sb i.code=sb p.code∧iE i.months=iE p.months∧i.tick=p.tick∧i.low=p.low∧i.high=p.high∧i.wide=p.wide∧i.rule=p.rule∧i.top=p.top∧i.least=p.least∧i.part=p.part∧iE i.settle=iE p.settle∧(i.code.length≤1099511627776∧i.months.length≤1099511627776∧i.settle.length≤1099511627776)∧∀(o:Unit),True→cnd (i.check !=0) (∃(o:Unit),(↑p.count:Int)=0∧True) (IntKind.i64=IntKind.i64∧(2:Int)≠(0:Int)∧∃(o:Unit),(↑p.count:Int)=IntKind.i64.wrap ((↑(iE p.months).length:Int)+IntKind.i64.wrap ((IntKind.i64.wrap ((↑(iE p.months).length:Int)*IntKind.i64.wrap ((↑(iE p.months).length:Int)-1))).tdiv 2))∧True)
theorem zQc (hG:GOk Tryz.prog ([(58,r5checkC)])) (h:∀(p:Prd),r5countC.cnd p→rJ p):r5countC.ok Tryz.prog 26:=okw mixed hG 0 (fun _=>[]) (fun _=>[]) [] Tryz.func26 h
@[reducible] def dQ (i:hU):AObj:=Sx.AObj.cells [V.d (D.v (Value.string (sb i.p.code))),V.own (0:Nat),V.d (D.v (.int .i64 i.p.tick)),V.d (D.v (.int .i64 i.p.low)),V.d (D.v (.int .i64 i.p.high)),V.d (D.v (.int .i64 i.p.wide)),V.d (D.v (.int .i64 i.p.rule)),V.d (D.v (.int .i64 i.p.top)),V.d (D.v (.int .i64 i.p.least)),V.d (D.v (.int .i64 i.p.part)),V.own ((0:Nat)+(1:Nat))] (25:Nat)
def zBg (i:hU):Prop:=
 ∃(i_1:Prd),sb i_1.code=sb i.p.code∧iE i_1.months=iE i.p.months∧i_1.tick=i.p.tick∧i_1.low=i.p.low∧i_1.high=i.p.high∧i_1.wide=i.p.wide∧i_1.rule=i.p.rule∧i_1.top=i.p.top∧i_1.least=i.p.least∧i_1.part=i.p.part∧iE i_1.settle=iE i.p.settle∧(i_1.code.length≤1099511627776∧i_1.months.length≤1099511627776∧i_1.settle.length≤1099511627776)∧∀(o:Unit),True→cnd (i_1.check !=0) (∃(o:Unit),(i.p.legs i.n).fst=0∧(i.p.legs i.n).snd.fst=0∧(i.p.legs i.n).snd.snd=false∧True) (cnd (decide (i.n<0)) (∃(o:Unit),(i.p.legs i.n).fst=0∧(i.p.legs i.n).snd.fst=0∧(i.p.legs i.n).snd.snd=false∧True) (cnd (decide (i.n<(↑(iE i.p.months).length:Int))) (∃(o:Unit),(i.p.legs i.n).fst=i.n∧(i.p.legs i.n).snd.fst=i.n∧(i.p.legs i.n).snd.snd=false∧True) (∃(i0:Nat),(↑(zX i.p.months.length i0):Int)=(↑(iE i.p.months).length:Int)∧(↑i0:Int)=0∧∃(I:Nat→Prop),∃(μ:Nat→Nat),I i0∧∀(i_2:Nat),I i_2→cnd (decide ((↑i_2:Int)<(↑(iE i.p.months).length:Int))) (∃(i0:Nat×Nat),(↑(zX i.p.months.length i0.fst+i0.snd):Int)=(↑(zX i.p.months.length i_2):Int)∧(↑i0.fst:Int)=(↑i_2:Int)∧(↑(i0.fst+1+i0.snd):Int)=IntKind.i64.wrap ((↑i_2:Int)+1)∧∃(I_1:Nat×Nat→Prop),∃(μ_1:Nat×Nat→Nat),I_1 i0∧∀(i_3:Nat×Nat),I_1 i_3→cnd (decide ((↑(i_3.fst+1+i_3.snd):Int)<(↑(iE i.p.months).length:Int))) (cnd ((↑(zX i.p.months.length i_3.fst+i_3.snd):Int)==i.n) (∃(o:Unit),(i.p.legs i.n).fst=(↑i_3.fst:Int)∧(i.p.legs i.n).snd.fst=(↑(i_3.fst+1+i_3.snd):Int)∧(i.p.legs i.n).snd.snd=true∧True) (∃(i':Nat×Nat),(↑(zX i.p.months.length i'.fst+i'.snd):Int)=IntKind.i64.wrap ((↑(zX i.p.months.length i_3.fst+i_3.snd):Int)+1)∧(↑i'.fst:Int)=(↑i_3.fst:Int)∧(↑(i'.fst+1+i'.snd):Int)=IntKind.i64.wrap ((↑(i_3.fst+1+i_3.snd):Int)+1)∧I_1 i'∧μ_1 i'<μ_1 i_3∧dQ i=dQ i∧AObj.fro 1 (iE i.p.settle)=AObj.fro 1 (iE i.p.settle)∧AObj.fro 1 (iE i.p.months)=AObj.fro 1 (iE i.p.months))) (∃(i':Nat),(↑(zX i.p.months.length i'):Int)=(↑(zX i.p.months.length i_3.fst+i_3.snd):Int)∧(↑i':Int)=IntKind.i64.wrap ((↑i_3.fst:Int)+1)∧I i'∧μ i'<μ i_2∧dQ i=dQ i∧AObj.fro 1 (iE i.p.settle)=AObj.fro 1 (iE i.p.settle)∧AObj.fro 1 (iE i.p.months)=AObj.fro 1 (iE i.p.months))) (∃(o:Unit),(i.p.legs i.n).fst=0∧(i.p.legs i.n).snd.fst=0∧(i.p.legs i.n).snd.snd=false∧True))))
theorem zVo (hG:GOk Tryz.prog ([(58,r5checkC)])) (h:∀(i:hU),r5legsC.cnd i→zBg i):r5legsC.ok Tryz.prog 27:=okw mixed hG 0 (fun _=>[]) (fun i=>zWz i) [] Tryz.func27 h
@[reducible] def uQ:AObj:=Sx.AObj.cells (Sx.V.agg [V.d (D.v (Value.string (ByteArray.mk #[]))),V.d (D.v (Value.slice none (0:Nat) (0:Nat))),V.d (D.v (.int .i64 0)),V.d (D.v (.int .i64 0)),V.d (D.v (.int .i64 0)),V.d (D.v (.int .i64 0)),V.d (D.v (.int .i64 0)),V.d (D.v (.int .i64 0)),V.d (D.v (.int .i64 0)),V.d (D.v (.int .i64 0)),V.d (D.v (Value.slice none (0:Nat) (0:Nat)))]).cl (25:Nat)
@[reducible] def uP (x:Prd):AObj:=Sx.AObj.cells [V.d (D.v (Value.string (sb x.code))),V.own (0:Nat),V.d (D.v (.int .i64 x.tick)),V.d (D.v (.int .i64 x.low)),V.d (D.v (.int .i64 x.high)),V.d (D.v (.int .i64 x.wide)),V.d (D.v (.int .i64 x.rule)),V.d (D.v (.int .i64 x.top)),V.d (D.v (.int .i64 x.least)),V.d (D.v (.int .i64 x.part)),V.own ((0:Nat)+(1:Nat))] (25:Nat)
@[reducible] def rI (x:Prd) (i:WiI) (o:Unit) (i_1:WiI) (I:Unit→Prop):Prop:=∃(i_2:WiI),i_2.n=x.top∧i_2.lo=0∧i_2.hi=9∧(((-9223372036854775808)≤i_2.n∧i_2.n≤9223372036854775807)∧(-1000000)≤i_2.lo∧i_2.lo≤i_2.hi∧i_2.hi≤1000000)∧∀(o:Unit),True→x.part=x.part∧x.least=x.least∧∃(i_3:WiI),i_3.n=x.least∧i_3.lo=0∧i_3.hi=4∧(((-9223372036854775808)≤i_3.n∧i_3.n≤9223372036854775807)∧(-1000000)≤i_3.lo∧i_3.lo≤i_3.hi∧i_3.hi≤1000000)∧∀(o:Unit),True→x.part=x.part∧∃(i_4:WiI),i_4.n=x.part∧i_4.lo=0∧i_4.hi=100∧(((-9223372036854775808)≤i_4.n∧i_4.n≤9223372036854775807)∧(-1000000)≤i_4.lo∧i_4.lo≤i_4.hi∧i_4.hi≤1000000)∧∀(o:Unit),True→∃(i':Unit),sb [(206:UInt8),(169:UInt8)]=ByteArray.mk #[(206:UInt8),(169:UInt8)]∧True∧z7 x=IntKind.i64.wrap (1+zD i_1.n i_1.lo i_1.hi)∧(-20)*z7 x=IntKind.i64.wrap ((-20)*IntKind.i64.wrap (1+zD i_1.n i_1.lo i_1.hi))∧100*z7 x=IntKind.i64.wrap (100*IntKind.i64.wrap (1+zD i_1.n i_1.lo i_1.hi))∧(0:Int)=(0:Int)∧1+zD x.rule 0 2=IntKind.i64.wrap (1+zD i.n i.lo i.hi)∧zD x.top 0 9=zD i_2.n i_2.lo i_2.hi∧1+zD x.least 0 4=IntKind.i64.wrap (1+zD i_3.n i_3.lo i_3.hi)∧zD x.part 0 100=zD i_4.n i_4.lo i_4.hi∧True∧I i'∧uQ=uQ∧uP x=uP x∧AObj.fro 1 (iE x.settle)=AObj.fro 1 (iE x.settle)∧AObj.fro 1 (iE x.months)=AObj.fro 1 (iE x.months)
@[reducible] def aM (x:Prd) (i:WiI) (o:Unit) (i_1:WiI) (I:Unit→Prop) (i_2:WiI) (i_3:WiI):Prop:=∃(i_4:WiI),i_4.n=x.part∧i_4.lo=0∧i_4.hi=100∧(((-9223372036854775808)≤i_4.n∧i_4.n≤9223372036854775807)∧(-1000000)≤i_4.lo∧i_4.lo≤i_4.hi∧i_4.hi≤1000000)∧∀(o:Unit),True→∃(i':Unit),sb [(206:UInt8),(169:UInt8)]=ByteArray.mk #[(206:UInt8),(169:UInt8)]∧True∧z7 x=IntKind.i64.wrap (1+zD i_1.n i_1.lo i_1.hi)∧(-20)*z7 x=IntKind.i64.wrap ((-20)*IntKind.i64.wrap (1+zD i_1.n i_1.lo i_1.hi))∧100*z7 x=IntKind.i64.wrap (100*IntKind.i64.wrap (1+zD i_1.n i_1.lo i_1.hi))∧(0:Int)=(0:Int)∧1+zD x.rule 0 2=IntKind.i64.wrap (1+zD i.n i.lo i.hi)∧zD x.top 0 9=zD i_2.n i_2.lo i_2.hi∧1+zD x.least 0 4=IntKind.i64.wrap (1+zD i_3.n i_3.lo i_3.hi)∧zD x.part 0 100=zD i_4.n i_4.lo i_4.hi∧True∧I i'∧uQ=uQ∧uP x=uP x∧AObj.fro 1 (iE x.settle)=AObj.fro 1 (iE x.settle)∧AObj.fro 1 (iE x.months)=AObj.fro 1 (iE x.months)
def zKp (x:Prd):Prop:=
 ∃(i:WiI),i.n=(↑(iE x.months).length:Int)∧i.lo=0∧i.hi=3∧(((-9223372036854775808)≤i.n∧i.n≤9223372036854775807)∧(-1000000)≤i.lo∧i.lo≤i.hi∧i.hi≤1000000)∧∀(o:Unit),True→∃(i_1:WiI),i_1.n=x.tick∧i_1.lo=0∧i_1.hi=9∧(((-9223372036854775808)≤i_1.n∧i_1.n≤9223372036854775807)∧(-1000000)≤i_1.lo∧i_1.lo≤i_1.hi∧i_1.hi≤1000000)∧∀(o:Unit),True→∃(i0:Unit),∃(I:Unit→Prop),((∃(i:WiI),i.n=x.rule∧i.lo=0∧i.hi=2∧(((-9223372036854775808)≤i.n∧i.n≤9223372036854775807)∧(-1000000)≤i.lo∧i.lo≤i.hi∧i.hi≤1000000)∧∀(o:Unit),True→x.part=x.part∧x.least=x.least∧x.top=x.top∧(∃(i_2:WiI),i_2.n=x.top∧i_2.lo=0∧i_2.hi=9∧(((-9223372036854775808)≤i_2.n∧i_2.n≤9223372036854775807)∧(-1000000)≤i_2.lo∧i_2.lo≤i_2.hi∧i_2.hi≤1000000)∧∀(o:Unit),True→x.part=x.part∧x.least=x.least∧(∃(i_3:WiI),i_3.n=x.least∧i_3.lo=0∧i_3.hi=4∧(((-9223372036854775808)≤i_3.n∧i_3.n≤9223372036854775807)∧(-1000000)≤i_3.lo∧i_3.lo≤i_3.hi∧i_3.hi≤1000000)∧∀(o:Unit),True→x.part=x.part∧(aM x i o i_1 I i_2 i_3)∧x.part=x.part∧aM x i o i_1 I i_2 i_3)∧x.part=x.part∧x.least=x.least∧∃(i_3:WiI),i_3.n=x.least∧i_3.lo=0∧i_3.hi=4∧(((-9223372036854775808)≤i_3.n∧i_3.n≤9223372036854775807)∧(-1000000)≤i_3.lo∧i_3.lo≤i_3.hi∧i_3.hi≤1000000)∧∀(o:Unit),True→x.part=x.part∧aM x i o i_1 I i_2 i_3)∧x.part=x.part∧x.least=x.least∧x.top=x.top∧rI x i o i_1 I)∧x.part=x.part∧x.least=x.least∧x.top=x.top∧x.rule=x.rule∧∃(i:WiI),i.n=x.rule∧i.lo=0∧i.hi=2∧(((-9223372036854775808)≤i.n∧i.n≤9223372036854775807)∧(-1000000)≤i.lo∧i.lo≤i.hi∧i.hi≤1000000)∧∀(o:Unit),True→x.part=x.part∧x.least=x.least∧x.top=x.top∧rI x i o i_1 I)∧∀(i_2:Unit),I i_2→∃(i_3:WiI),i_3.n=x.wide∧i_3.lo=0∧i_3.hi=60∧(((-9223372036854775808)≤i_3.n∧i_3.n≤9223372036854775807)∧(-1000000)≤i_3.lo∧i_3.lo≤i_3.hi∧i_3.hi≤1000000)∧∀(o:Unit),True→∃(i0:Nat),(↑i0:Int)=0∧sb [(206:UInt8),(169:UInt8)]=sb [(206:UInt8),(169:UInt8)]∧z7 x=z7 x∧(-20)*z7 x=(-20)*z7 x∧100*z7 x=100*z7 x∧z7 x*(5+zD x.wide 0 60)=IntKind.i64.wrap (IntKind.i64.wrap (1+zD i_1.n i_1.lo i_1.hi)*IntKind.i64.wrap (5+zD i_3.n i_3.lo i_3.hi))∧1+zD x.rule 0 (2:Int)=(1:Int)+zD x.rule 0 2∧zD x.top 0 9=zD x.top 0 (9:Int)∧(1:Int)+zD x.least 0 (4:Int)=(1:Int)+zD x.least 0 4∧zD x.part 0 100=zD x.part 0 100∧iE (qA i0)=[]∧iE (xP (z7 x) i0)=[]∧∃(I:Nat→Prop),∃(μ:Nat→Nat),I i0∧∀(i_4:Nat),I i_4→cnd (decide ((↑i_4:Int)<IntKind.i64.wrap (2+zD i.n i.lo i.hi))) (((iE (qA i_4)).length+1)*(8:Nat)≤(70368744177664:Nat)∧((iE (xP (z7 x) i_4)).length+1)*(8:Nat)≤(70368744177664:Nat)∧∃(i':Nat),(↑i':Int)=IntKind.i64.wrap ((↑i_4:Int)+1)∧sb [(206:UInt8),(169:UInt8)]=sb [(206:UInt8),(169:UInt8)]∧z7 x=z7 x∧(-20)*z7 x=(-20)*z7 x∧100*z7 x=100*z7 x∧z7 x*(5+zD x.wide 0 60)=z7 x*(5+zD x.wide 0 60)∧1+zD x.rule 0 (2:Int)=(1:Int)+zD x.rule 0 2∧zD x.top 0 9=zD x.top 0 (9:Int)∧(1:Int)+zD x.least 0 (4:Int)=(1:Int)+zD x.least 0 4∧zD x.part 0 100=zD x.part 0 100∧iE (qA i')=iE (qA i_4)++[[D.v (.int .i64 (IntKind.i64.wrap (IntKind.i64.wrap (10*(↑i_4:Int))+3)))]]∧iE (xP (z7 x) i')=iE (xP (z7 x) i_4)++[[D.v (.int .i64 (IntKind.i64.wrap (IntKind.i64.wrap (1+zD i_1.n i_1.lo i_1.hi)*IntKind.i64.wrap (10+(↑i_4:Int)))))]]∧I i'∧μ i'<μ i_4∧uQ=uQ∧uP x=uP x∧AObj.fro 1 (iE x.settle)=AObj.fro 1 (iE x.settle)∧AObj.fro 1 (iE x.months)=AObj.fro 1 (iE x.months)) (∃(o:Unit),sb [(206:UInt8),(169:UInt8)]=sb [(206:UInt8),(169:UInt8)]∧iE (qA (kN x).toNat)=iE (qA i_4)∧z7 x=z7 x∧(-20)*z7 x=(-20)*z7 x∧100*z7 x=100*z7 x∧z7 x*(5+zD x.wide 0 60)=z7 x*(5+zD x.wide 0 60)∧1+zD x.rule 0 (2:Int)=(1:Int)+zD x.rule 0 2∧zD x.top 0 9=zD x.top 0 (9:Int)∧(1:Int)+zD x.least 0 (4:Int)=(1:Int)+zD x.least 0 4∧zD x.part 0 100=zD x.part 0 100∧iE (xP (z7 x) (kN x).toNat)=iE (xP (z7 x) i_4)∧True)
theorem zWs (hG:GOk Tryz.prog ([(13,withinC)])) (h:∀(x:Prd),kprodC.cnd x→zKp x):kprodC.ok Tryz.prog 8:=okw mixed hG 0 (fun x=>z3k x) (fun x=>z5n x) [] Tryz.func8 h
set_option linter.unusedSimpArgs false
open Go Cv Go.Proofs
theorem zXr (s:List UInt8) (h:r3prodC.cnd s):zBr s:=by
 have h:s.length≤1099511627776:=h
 have hr:=zAr s
 unfold zBr
 refine⟨(0,0),rfl,rfl,rfl,fun x=>x.1≤s.length∧x.2+(wE s x.1).length=(jK s).length∧(jK s).all jG=((wE s x.1).all fun y=>jG y.2),fun x=>s.length-x.1,⟨by omega,by rw[jK,List.length_map];simp,by rw[jK,List.all_map];rfl⟩,?_⟩
 rintro⟨p,n⟩ ⟨h1,h2,h3⟩
 dsimp only at h1 h2 h3 ⊢
 refine Cv.cnd.mk (fun hp=> ?_) (fun hp=> ?_)
 ·have hp:p<s.length:=by simpa[Nat.blt_eq]using hp
  have hw:=u7 s hp
  rw[j1 hp,List.length_cons]at h2
  rw[j1 hp,List.all_cons]at h3
  generalize hc:(Utf8.decode (sb s) p).1=c at h2 h3 ⊢
  generalize hww:(Utf8.decode (sb s) p).2=w at h2 h3 hw ⊢
  dsimp only at h3
  have g0:∀b:Bool,(b=true→jG c=true)→(b=false→jG c=false)→b=jG c:=fun b e1 e2=>by cases b<;>simp_all
  refine⟨true,fun b=>b= !jG c,?_,fun b hb=> ?_⟩
  ·refine zS (fun c1=>zS (fun c2=>⟨_,rfl,?_,by(repeat'(first|exact trivial|exact rfl|apply And.intro))⟩) (fun c2=>zS (fun c3=>zS (fun c4=>⟨_,rfl,?_,by(repeat'(first|exact trivial|exact rfl|apply And.intro))⟩) (fun c4=>⟨_,rfl,?_,by(repeat'(first|exact trivial|exact rfl|apply And.intro))⟩)) (fun c3=>⟨_,rfl,?_,by(repeat'(first|exact trivial|exact rfl|apply And.intro))⟩))) (fun c1=>zS (fun c3=>zS (fun c4=>⟨_,rfl,?_,by(repeat'(first|exact trivial|exact rfl|apply And.intro))⟩) (fun c4=>⟨_,rfl,?_,by(repeat'(first|exact trivial|exact rfl|apply And.intro))⟩)) (fun c3=>⟨_,rfl,?_,by(repeat'(first|exact trivial|exact rfl|apply And.intro))⟩))
   all_goals congr 1
   all_goals refine g0 _ (fun e=> ?_) (fun e=> ?_)
   all_goals first|(simp[jG]at*;done)|(simp[jG]at*;omega)
  ·subst hb
   refine Cv.cnd.mk (fun e=>⟨(),?_,trivial⟩) (fun e=>⟨(p+w,n+1),?_,rfl,rfl,⟨hw.2,by(first|omega|(dsimp only;omega)),?_⟩,by(first|omega|(dsimp only;omega)),trivial⟩)
   ·have e:jG c=false:=by simpa using e
    rw[qU,h3,e];rfl
   ·rw[w64 (by omega)];rfl
   ·have e:jG c=true:=by simpa using e
    rw[h3,e];rfl
 ·have hp:s.length≤p:=by have:=zVk hp;simpa using this
  rw[vR hp]at h2 h3
  have h3:(jK s).all jG=true:=h3
  have hn:n=(jK s).length:=by simpa using h2
  have hne:(s=[])↔(jK s).length=0:=by
   constructor
   ·intro e;subst e;rfl
   ·intro e
    cases s with
    |nil=>rfl
    |cons b l=>
     rw[jK,List.length_map,j1 (by simp)]at e
     simp at e
  refine zS (fun c=>⟨(),?_,trivial⟩) (fun c=>⟨(),?_,trivial⟩)
  ·have:¬s=[]:=by rw[hne];omega
   rw[qU,h3,decide_eq_true this,hn]
   simp only[Bool.true_and]
   congr 1
   simp only[eq_iff_iff];omega
  ·have:s=[]:=by rw[hne];omega
   rw[qU,this];rfl
theorem zNp:r3prodC.ok Tryz.prog 93:=zTb gok0 zXr
theorem hZ:∀(l:List Int) (a:Int),l.foldl min a≤a∧∀x∈l,l.foldl min a≤x
 |[],a=>⟨Int.le_refl _,by simp⟩
 |b::l,a=>by
  obtain⟨h1,h2⟩:=hZ l (min a b)
  rw[List.foldl_cons]
  refine⟨by omega,fun x hx=> ?_⟩
  rcases List.mem_cons.1 hx with rfl|hx
  ·omega
  ·exact h2 x hx
theorem hY:∀(l:List Int) (a:Int),a≤l.foldl max a∧∀x∈l,x≤l.foldl max a
 |[],a=>⟨Int.le_refl _,by simp⟩
 |b::l,a=>by
  obtain⟨h1,h2⟩:=hY l (max a b)
  rw[List.foldl_cons]
  refine⟨by omega,fun x hx=> ?_⟩
  rcases List.mem_cons.1 hx with rfl|hx
  ·omega
  ·exact h2 x hx
theorem cA:∀(l:List Int) (a:Int),l.foldl min a=a∨l.foldl min a∈l
 |[],a=> .inl rfl
 |b::l,a=>by
  rw[List.foldl_cons]
  rcases cA l (min a b)with h|h
  ·rcases Int.le_total a b with e|e
   ·left;rw[h];omega
   ·right;rw[h,show min a b=b by omega];exact List.mem_cons_self
  ·exact .inr (List.mem_cons_of_mem _ h)
theorem dZ:∀(l:List Int) (a:Int),l.foldl max a=a∨l.foldl max a∈l
 |[],a=> .inl rfl
 |b::l,a=>by
  rw[List.foldl_cons]
  rcases dZ l (max a b)with h|h
  ·rcases Int.le_total a b with e|e
   ·right;rw[h,show max a b=b by omega];exact List.mem_cons_self
   ·left;rw[h];omega
  ·exact .inr (List.mem_cons_of_mem _ h)
theorem zXd {l:List Int} {x:Int} (h:x∈l):gH l≤x:=by
 cases l with
 |nil=>cases h
 |cons a l=>
  rw[gH,List.tail_cons,List.headD_cons]
  rcases List.mem_cons.1 h with rfl|h
  ·exact(hZ l x).1
  ·exact(hZ l a).2 x h
theorem z0u {l:List Int} {x:Int} (h:x∈l):x≤g8 l:=by
 cases l with
 |nil=>cases h
 |cons a l=>
  rw[g8,List.tail_cons,List.headD_cons]
  rcases List.mem_cons.1 h with rfl|h
  ·exact(hY l x).1
  ·exact(hY l a).2 x h
theorem zEx {l:List Int} (h:l≠[]):gH l∈l:=by
 cases l with
 |nil=>exact absurd rfl h
 |cons a l=>
  rw[gH,List.tail_cons,List.headD_cons]
  rcases cA l a with h|h
  ·rw[h];exact List.mem_cons_self
  ·exact List.mem_cons_of_mem _ h
theorem zDs {l:List Int} (h:l≠[]):g8 l∈l:=by
 cases l with
 |nil=>exact absurd rfl h
 |cons a l=>
  rw[g8,List.tail_cons,List.headD_cons]
  rcases dZ l a with h|h
  ·rw[h];exact List.mem_cons_self
  ·exact List.mem_cons_of_mem _ h
theorem zTa (p:Prd) (h:r5checkC.cnd p):rE p:=by
 obtain⟨h1,h2,h3⟩:p.small:=h
 unfold rE cV
 simp only[yT]
 refine⟨p.code,rfl,h1,fun _ _=>Cv.cnd.mk (fun c1=>⟨(),by rw[Prd.check,if_pos c1],trivial⟩) fun c1=> ?_⟩
 have c1:qU p.code=true:=by simpa using c1
 have e1:p.check=if !yQ p.months then 1 else if !xH p then 22 else if xI p then 23 else if yS p then 1 else if xO p then 31 else if xB p then 24 else 0:=by
  rw[Prd.check,if_neg (by simp[c1])]
 refine⟨true,fun b=>b=(decide (p.months.length<2)||decide (p.months.length>6)),zS (fun c=>⟨true,rfl,?_,by(repeat'(first|exact trivial|exact rfl|apply And.intro))⟩) (fun c=>⟨_,rfl,?_,by(repeat'(first|exact trivial|exact rfl|apply And.intro))⟩),fun b hb=> ?_⟩
 ·rw[decide_eq_true (show p.months.length<2 by omega)];rfl
 ·rw[decide_eq_false (show ¬p.months.length<2 by omega),Bool.false_or]
  congr 1;simp only[eq_iff_iff];omega
 subst hb
 refine Cv.cnd.mk (fun c2=> ?_) (fun c2=> ?_)
 ·have:yQ p.months=false:=by
   simp only[Bool.or_eq_true,decide_eq_true_eq]at c2
   rw[yQ]
   rcases c2 with c2|c2
   ·rw[decide_eq_false (show ¬2≤p.months.length by omega)];simp
   ·rw[decide_eq_false (show ¬p.months.length≤6 by omega)];simp
  exact⟨(),by rw[e1,if_pos (by rw[this];rfl)],trivial⟩
 have c2:2≤p.months.length∧p.months.length≤6:=by
  simp only[Bool.or_eq_false_iff,decide_eq_false_iff_not]at c2;omega
 have em:yQ p.months=(List.range p.months.length).all (xL p.months):=by
  rw[yQ,decide_eq_true c2.1,decide_eq_true c2.2];simp
 refine⟨0,rfl,fun j=>j≤p.months.length∧∀k<j,xL p.months k=true,fun j=>p.months.length-j,⟨by omega,fun k hk=>by omega⟩,?_⟩
 rintro j ⟨g1,g2⟩
 refine zS (fun hj=> ?_) (fun hj=> ?_)
 ·obtain⟨m,hm⟩:=z9 (l:=p.months) (i:=j) (by omega)
  have hmj:p.months.getD j 0=m:=zP hm
  refine⟨true,fun b=>b= !xL p.months j,⟨⟨by omega,by omega⟩,m,elI hm,zS (fun c=>⟨true,rfl,?_,by(repeat'(first|exact trivial|exact rfl|apply And.intro))⟩) (fun c=>⟨⟨by omega,by omega⟩,m,elI hm,zS (fun d=>⟨true,rfl,?_,by(repeat'(first|exact trivial|exact rfl|apply And.intro))⟩) (fun d=>zS (fun e=> ?_) (fun e=>⟨false,rfl,?_,by(repeat'(first|exact trivial|exact rfl|apply And.intro))⟩))⟩)⟩,fun b hb=> ?_⟩
  ·rw[xL,hmj,decide_eq_false (show ¬0≤m by omega)];rfl
  ·rw[xL,hmj,decide_eq_false (show ¬m≤1199 by omega)];simp
  ·obtain⟨m',hm'⟩:=z9 (l:=p.months) (i:=j-1) (by omega)
   rw[w64 (by omega),show((j:Int)-1).toNat=j-1 by omega]
   refine⟨⟨by omega,by omega⟩,m',elI hm',⟨by omega,by omega⟩,m,elI hm,_,rfl,?_,by(repeat'(first|exact trivial|exact rfl|apply And.intro))⟩
   rw[xL,hmj,zP hm',decide_eq_true (show 0≤m by omega),decide_eq_true (show m≤1199 by omega),decide_eq_false (show ¬j=0 by omega)]
   simp only[Bool.true_and,Bool.false_or]
   by_cases hlt:m'<m
   ·rw[decide_eq_true hlt,decide_eq_false (by omega)];rfl
   ·rw[decide_eq_false hlt,decide_eq_true (by omega)];rfl
  ·rw[xL,hmj,decide_eq_true (show 0≤m by omega),decide_eq_true (show m≤1199 by omega),decide_eq_true (show j=0 by omega)];rfl
  ·subst hb
   refine Cv.cnd.mk (fun c=>⟨(),?_,trivial⟩) (fun c=>⟨j+1,by rw[w64 (by omega)];rfl,⟨by omega,fun k hk=> ?_⟩,by(first|omega|(dsimp only;omega)),by(repeat'(first|exact trivial|exact rfl|apply And.intro))⟩)
   ·have c:xL p.months j=false:=by simpa using c
    rw[e1,if_pos (by rw[em,lA (k:=j) (by omega) c];rfl)]
   ·have c:xL p.months j=true:=by simpa using c
    rcases Nat.lt_or_ge k j with h|h
    ·exact g2 k h
    ·obtain rfl:k=j:=by omega
     exact c
 have em:yQ p.months=true:=by rw[em];exact zFk fun k hk=>g2 k (by omega)
 have e2:p.check=if !xH p then 22 else if xI p then 23 else if yS p then 1 else if xO p then 31 else if xB p then 24 else 0:=by
  rw[e1,if_neg (by simp[em])]
 have et:xH p=((decide (1≤p.tick) && decide (p.tick≤1000) && !xJ p.tick p.low && !xJ p.tick p.high && !xJ p.tick p.wide) && !p.settle.any (xJ p.tick)):=rfl
 refine⟨true,fun b=>b= !(decide (1≤p.tick) && decide (p.tick≤1000) && !xJ p.tick p.low && !xJ p.tick p.high && !xJ p.tick p.wide),zS (fun d1=>⟨true,rfl,?_,by(repeat'(first|exact trivial|exact rfl|apply And.intro))⟩) (fun d1=>zS (fun d2=>⟨true,rfl,?_,by(repeat'(first|exact trivial|exact rfl|apply And.intro))⟩) (fun d2=>⟨trivial,by omega,Cv.cnd.mk (fun d3=>⟨true,rfl,?_,by(repeat'(first|exact trivial|exact rfl|apply And.intro))⟩) (fun d3=>⟨trivial,by omega,Cv.cnd.mk (fun d4=>⟨true,rfl,?_,by(repeat'(first|exact trivial|exact rfl|apply And.intro))⟩) (fun d4=>⟨trivial,by omega,_,rfl,?_,by(repeat'(first|exact trivial|exact rfl|apply And.intro))⟩)⟩)⟩)),fun b hb=> ?_⟩
 ·rw[decide_eq_false (show ¬1≤p.tick by omega)];rfl
 ·rw[decide_eq_false (show ¬p.tick≤1000 by omega)];simp
 ·have d3:xJ p.tick p.low=true:=d3
  rw[d3];simp
 ·have d4:xJ p.tick p.high=true:=d4
  rw[d4];simp
 ·have d3:xJ p.tick p.low=false:=d3
  have d4:xJ p.tick p.high=false:=d4
  rw[d3,d4,decide_eq_true (show 1≤p.tick by omega),decide_eq_true (show p.tick≤1000 by omega)]
  show xJ p.tick p.wide=_
  simp
 subst hb
 refine Cv.cnd.mk (fun c3=> ?_) (fun c3=> ?_)
 ·have c3:(decide (1≤p.tick) && decide (p.tick≤1000) && !xJ p.tick p.low && !xJ p.tick p.high && !xJ p.tick p.wide)=false:=by
   rw[Bool.not_eq_true']at c3
   exact c3
  exact⟨(),by rw[e2,if_pos (by rw[et,c3];rfl)],trivial⟩
 have c3:(decide (1≤p.tick) && decide (p.tick≤1000) && !xJ p.tick p.low && !xJ p.tick p.high && !xJ p.tick p.wide)=true:=by simpa using c3
 have ht1:1≤p.tick:=by
  simp only[Bool.and_eq_true,decide_eq_true_eq]at c3;exact c3.1.1.1.1
 rw[c3,Bool.true_and]at et
 refine⟨0,rfl,fun j=>j≤p.settle.length∧∀k<j,∀x,p.settle[k]? =some x→xJ p.tick x=false,fun j=>p.settle.length-j,⟨by omega,fun k hk=>by omega⟩,?_⟩
 rintro j ⟨g1,g2⟩
 refine zS (fun hj=> ?_) (fun hj=> ?_)
 ·obtain⟨m,hm⟩:=z9 (l:=p.settle) (i:=j) (by omega)
  refine⟨⟨by omega,by omega⟩,m,elI hm,trivial,by omega,Cv.cnd.mk (fun c=>⟨(),?_,trivial⟩) (fun c=>⟨j+1,by rw[w64 (by omega)];rfl,⟨by omega,fun k hk x hx=> ?_⟩,by(first|omega|(dsimp only;omega)),by(repeat'(first|exact trivial|exact rfl|apply And.intro))⟩)⟩
  ·have c:xJ p.tick m=true:=c
   have:p.settle.any (xJ p.tick)=true:=by rw[List.any_eq_true];exact⟨m,List.mem_of_getElem? hm,c⟩
   rw[e2,if_pos (by rw[et,this];rfl)]
  ·rcases Nat.lt_or_ge k j with h|h
   ·exact g2 k h x hx
   ·obtain rfl:k=j:=by omega
    rw[hm]at hx;cases hx;exact c
 have et:xH p=true:=by
  rw[et]
  have:p.settle.any (xJ p.tick)=false:=by
   rw[List.any_eq_false]
   intro x hx
   obtain⟨k,hk⟩:=List.getElem?_of_mem hx
   rw[g2 k (by have:=(List.getElem?_eq_some_iff.1 hk).1;omega) x hk];simp
  rw[this];rfl
 have e3:p.check=if xI p then 23 else if yS p then 1 else if xO p then 31 else if xB p then 24 else 0:=by
  rw[e2,if_neg (by simp[et])]
 refine⟨true,fun b=>b=xI p,zS (fun d1=>⟨true,rfl,?_,by(repeat'(first|exact trivial|exact rfl|apply And.intro))⟩) (fun d1=>zS (fun d2=>⟨true,rfl,?_,by(repeat'(first|exact trivial|exact rfl|apply And.intro))⟩) (fun d2=>zS (fun d3=>⟨true,rfl,?_,by(repeat'(first|exact trivial|exact rfl|apply And.intro))⟩) (fun d3=>zS (fun d4=>⟨true,rfl,?_,by(repeat'(first|exact trivial|exact rfl|apply And.intro))⟩) (fun d4=>⟨_,rfl,?_,by(repeat'(first|exact trivial|exact rfl|apply And.intro))⟩)))),fun b hb=> ?_⟩
 ·simp[xI,d1]
 ·simp[xI,d2]
 ·simp[xI,d3]
 ·simp[xI,d4]
 ·rw[w64 (by omega)];simp[xI,d1,d2,d3,d4]
 subst hb
 refine Cv.cnd.mk (fun c4=>⟨(),by rw[e3,if_pos c4],trivial⟩) (fun c4=> ?_)
 have e4:p.check=if yS p then 1 else if xO p then 31 else if xB p then 24 else 0:=by
  rw[e3,if_neg (by simp[c4])]
 refine Cv.cnd.mk (fun d6=>⟨(),?_,trivial⟩) (fun d6=> ?_)
 ·have d6:¬(p.settle.length:Int)=p.months.length:=by simpa using d6
  rw[e4,if_pos (by simp[yS];omega)]
 have d6:p.settle.length=p.months.length:=by
  have:(p.settle.length:Int)=p.months.length:=by simpa using d6
  omega
 have hne:p.settle≠[]:=by intro e;rw[e]at d6;simp at d6;omega
 refine⟨0,rfl,fun j=>j≤p.settle.length∧∀k<j,∀x,p.settle[k]? =some x→p.low≤x∧x≤p.high,fun j=>p.settle.length-j,⟨by omega,fun k hk=>by omega⟩,?_⟩
 rintro j ⟨g3,g4⟩
 refine zS (fun hj=> ?_) (fun hj=> ?_)
 ·obtain⟨m,hm⟩:=z9 (l:=p.settle) (i:=j) (by omega)
  have hmm:=List.mem_of_getElem? hm
  refine⟨true,fun b=>b=(decide (m<p.low)||decide (m>p.high)),⟨⟨by omega,by omega⟩,m,elI hm,zS (fun c=>⟨true,rfl,?_,by(repeat'(first|exact trivial|exact rfl|apply And.intro))⟩) (fun c=>⟨⟨by omega,by omega⟩,m,elI hm,_,rfl,?_,by(repeat'(first|exact trivial|exact rfl|apply And.intro))⟩)⟩,fun b hb=> ?_⟩
  ·rw[decide_eq_true c];rfl
  ·rw[decide_eq_false c,Bool.false_or]
  ·subst hb
   refine Cv.cnd.mk (fun c=>⟨(),?_,trivial⟩) (fun c=>⟨j+1,by rw[w64 (by omega)];rfl,⟨by omega,fun k hk x hx=> ?_⟩,by(first|omega|(dsimp only;omega)),by(repeat'(first|exact trivial|exact rfl|apply And.intro))⟩)
   ·have l1:=zXd hmm
    have l2:=z0u hmm
    rw[e4,if_pos (by
     simp only[Bool.or_eq_true,decide_eq_true_eq]at c
     simp only[yS,Bool.or_eq_true,decide_eq_true_eq]
     rcases c with c|c
     ·left;right;omega
     ·right;omega)]
   ·rcases Nat.lt_or_ge k j with h|h
    ·exact g4 k h x hx
    ·obtain rfl:k=j:=by omega
     rw[hm]at hx;cases hx
     simp only[Bool.or_eq_false_iff,decide_eq_false_iff_not]at c
     omega
 have hset:yS p=false:=by
  have all:∀x∈p.settle,p.low≤x∧x≤p.high:=fun x hx=>by
   obtain⟨k,hk⟩:=List.getElem?_of_mem hx
   exact g4 k (by have:=(List.getElem?_eq_some_iff.1 hk).1;omega) x hk
  have a1:=all _ (zEx hne)
  have a2:=all _ (zDs hne)
  simp only[yS,Bool.or_eq_false_iff,decide_eq_false_iff_not]
  omega
 have e5:p.check=if xO p then 31 else if xB p then 24 else 0:=by
  rw[e4,if_neg (by simp[hset])]
 refine⟨true,fun b=>b=xO p,zS (fun d1=>⟨true,rfl,?_,by(repeat'(first|exact trivial|exact rfl|apply And.intro))⟩) (fun d1=>⟨_,rfl,?_,by(repeat'(first|exact trivial|exact rfl|apply And.intro))⟩),fun b hb=> ?_⟩
 ·simp[xO,d1]
 ·simp[xO,d1]
 subst hb
 refine Cv.cnd.mk (fun c6=>⟨(),by rw[e5,if_pos c6],trivial⟩) (fun c6=> ?_)
 have e6:p.check=if xB p then 24 else 0:=by rw[e5,if_neg (by simp[c6])]
 refine⟨true,fun b=>b=xB p,zS (fun d1=>⟨true,rfl,?_,by(repeat'(first|exact trivial|exact rfl|apply And.intro))⟩) (fun d1=>zS (fun d2=>⟨true,rfl,?_,by(repeat'(first|exact trivial|exact rfl|apply And.intro))⟩) (fun d2=>zS (fun d3=>⟨true,rfl,?_,by(repeat'(first|exact trivial|exact rfl|apply And.intro))⟩) (fun d3=>zS (fun d4=>⟨true,rfl,?_,by(repeat'(first|exact trivial|exact rfl|apply And.intro))⟩) (fun d4=>zS (fun d5=>⟨true,rfl,?_,by(repeat'(first|exact trivial|exact rfl|apply And.intro))⟩) (fun d5=>⟨_,rfl,?_,by(repeat'(first|exact trivial|exact rfl|apply And.intro))⟩))))),fun b hb=> ?_⟩
 ·simp[xB,d1]
 ·simp[xB,d2]
 ·simp[xB,d3]
 ·simp[xB,d4]
 ·simp[xB,d5]
 ·simp[xB,d1,d2,d3,d4,d5]
 subst hb
 exact Cv.cnd.mk (fun c7=>⟨(),by rw[e6,if_pos c7],trivial⟩) (fun c7=>⟨(),by rw[e6,if_neg (by simp[c7])],trivial⟩)
theorem pV:r5checkC.ok Tryz.prog 58:=zNr (gokc zNp gok0) zTa
theorem dM {p:Prd} (h:p.check=0):p.count=p.months.length+p.months.length*(p.months.length-1) / 2:=by rw[Prd.count,if_pos h]
theorem sJ {p:Prd} (h:p.check≠0):p.count=0:=by rw[Prd.count,if_neg h]
theorem zRt (p:Prd) (h:r5countC.cnd p):rJ p:=by
 have hs:p.small:=h
 unfold rJ
 simp only[yT]
 refine⟨p,rfl,rfl,rfl,rfl,rfl,rfl,rfl,rfl,rfl,rfl,rfl,hs,fun _ _=>Cv.cnd.mk (fun c=>⟨(),?_,trivial⟩) (fun c=>⟨trivial,by decide,(),?_,trivial⟩)⟩
 ·rw[sJ (by simpa using c)];rfl
 ·have c:p.check=0:=by simpa using c
  have m6:=(xZ c).m6
  have m2:=(xZ c).m2
  rw[dM c]
  generalize p.months.length=n at*
  have:n=2∨n=3∨n=4∨n=5∨n=6:=by omega
  rcases this with rfl|rfl|rfl|rfl|rfl<;>decide
theorem zKm:r5countC.ok Tryz.prog 26:=zQc (gokc pV gok0) zRt
theorem zTj:∀n≤6,∀a<n,∀b<n-1-a,xW n (zX n a+b) n 0=((a:Int),((a+1+b:Nat):Int),true)∧zX n a+b<n+n*(n-1) / 2∧n≤zX n a+b:=by decide
theorem zNx:∀n≤6,zX n n=n+n*(n-1) / 2:=by decide
theorem zZi {p:Prd} (h:p.check=0) {a b:Nat} (ha:a<p.months.length) (hb:b<p.months.length-1-a):p.legs ((zX p.months.length a+b:Nat):Int)=((a:Int),((a+1+b:Nat):Int),true):=by
 obtain⟨h1,h2,h3⟩:=zTj _ (xZ h).m6 a ha b hb
 rw[Prd.legs,if_neg (by rw[dM h];omega),if_neg (by omega),Int.toNat_natCast]
 exact h1
theorem zZk (i:hU) (h:r5legsC.cnd i):zBg i:=by
 have hs:i.p.small:=h
 unfold zBg
 simp only[yT]
 refine⟨i.p,rfl,rfl,rfl,rfl,rfl,rfl,rfl,rfl,rfl,rfl,rfl,hs,fun _ _=>Cv.cnd.mk (fun c=> ?_) (fun c=>zS (fun c1=> ?_) (fun c1=>zS (fun c2=> ?_) (fun c2=> ?_)))⟩
 ·rw[Prd.legs,if_pos (by rw[sJ (by simpa using c)];omega)];(repeat'(first|exact rfl|exact trivial|assumption|apply And.intro|refine fun(_:Unit) (_:True)=>?_|refine Exists.intro () ?_|omega|(dsimp only;omega)))
 ·rw[Prd.legs,if_pos (.inl c1)];(repeat'(first|exact rfl|exact trivial|assumption|apply And.intro|refine fun(_:Unit) (_:True)=>?_|refine Exists.intro () ?_|omega|(dsimp only;omega)))
 ·have c:i.p.check=0:=by simpa using c
  rw[Prd.legs,if_neg (by rw[dM c];omega),if_pos c2];(repeat'(first|exact rfl|exact trivial|assumption|apply And.intro|refine fun(_:Unit) (_:True)=>?_|refine Exists.intro () ?_|omega|(dsimp only;omega)))
 ·have c:i.p.check=0:=by simpa using c
  have m6:=(xZ c).m6
  obtain⟨k,hk⟩:∃k:Nat,i.n=k:=⟨i.n.toNat,by omega⟩
  have sp:=fun(a b:Nat) ha hb=>zZi (p:=i.p) c (a:=a) (b:=b) ha hb
  have fe:=zNx _ m6
  have out:i.p.count≤k→i.p.legs (k:Int)=(0,0,false):=fun e=>by rw[Prd.legs,if_pos (by omega)]
  rw[dM c,← fe]at out
  rw[hk]at c2 ⊢
  generalize hn:i.p.months.length=n at*
  refine⟨0,rfl,rfl,fun m=>m≤n∧zX n m≤k,fun m=>n-m,⟨by omega,by show n≤k;omega⟩,?_⟩
  rintro m ⟨g1,g2⟩
  have hf:=pU m6 g1
  refine zS (fun c4=> ?_) (fun c4=> ?_)
  ·refine⟨(m,0),rfl,rfl,by rw[w64 (by omega)];simp,fun x=>x.1=m∧x.2≤n-1-m∧zX n m+x.2≤k,fun x=>n-1-m-x.2,⟨rfl,by(first|omega|(dsimp only;omega)),by(first|omega|(dsimp only;omega))⟩,?_⟩
   rintro⟨a,b⟩ ⟨g3,g4,g5⟩
   dsimp only at g3 g4 g5 ⊢
   subst g3
   refine zS (fun c5=>Cv.cnd.mk (fun e=> ?_) (fun e=> ?_)) (fun c5=> ?_)
   ·have e:((zX n a+b:Nat):Int)=(k:Int):=by simpa using e
    have:=sp a b (by omega) (by omega)
    rw[e]at this
    rw[this];(repeat'(first|exact rfl|exact trivial|assumption|apply And.intro|refine fun(_:Unit) (_:True)=>?_|refine Exists.intro () ?_|omega|(dsimp only;omega)))
   ·have e:¬((zX n a+b:Nat):Int)=(k:Int):=by simpa using e
    refine⟨(a,b+1),?_,rfl,?_,⟨rfl,by(first|omega|(dsimp only;omega)),by(first|omega|(dsimp only;omega))⟩,by(first|omega|(dsimp only;omega)),by(repeat'(first|exact trivial|exact rfl|apply And.intro))⟩
    ·rw[w64 (by omega)];dsimp only;omega
    ·rw[w64 (by omega)];dsimp only;omega
   ·refine⟨a+1,?_,by rw[w64 (by omega)];rfl,⟨by omega,?_⟩,by(first|omega|(dsimp only;omega)),by(repeat'(first|exact trivial|exact rfl|apply And.intro))⟩
    ·rw[zX];omega
    ·rw[zX];omega
  ·obtain rfl:m=n:=by omega
   rw[out g2];(repeat'(first|exact rfl|exact trivial|assumption|apply And.intro|refine fun(_:Unit) (_:True)=>?_|refine Exists.intro () ?_|omega|(dsimp only;omega)))
theorem zQf:r5legsC.ok Tryz.prog 27:=zVo (gokc pV gok0) zZk
theorem zEu (x:Prd):1≤z7 x∧z7 x≤10:=by
 have:=yR (n:=x.tick) (lo:=0) (hi:=9) (by omega)
 rw[z7];omega
theorem zRo (x:Prd):2≤kN x∧kN x≤5:=by
 have:=yR (n:=(x.months.length:Int)) (lo:=0) (hi:=3) (by omega)
 rw[kN];omega
theorem zDl {a b m n:Int} (ha:0≤a∧a≤m) (hb:0≤b∧b≤n):0≤a*b∧a*b≤m*n:=by
 refine⟨Int.mul_nonneg ha.1 hb.1,?_⟩
 exact Int.le_trans (Int.mul_le_mul_of_nonneg_right ha.2 hb.1) (Int.mul_le_mul_of_nonneg_left hb.2 (by omega))
theorem zBe (j:Nat):iE (qA (j+1))=iE (qA j)++[[D.v (.int .i64 (10*(j:Int)+3))]]:=by
 rw[qA,List.range_succ,List.map_append,iE,List.map_append];rfl
theorem zDd (t:Int) (j:Nat):iE (xP t (j+1))=iE (xP t j)++[[D.v (.int .i64 (t*(10+(j:Int))))]]:=by
 rw[xP,List.range_succ,List.map_append,iE,List.map_append];rfl
theorem fU (j:Nat):(qA j).length=j:=by simp[qA]
theorem uB (t:Int) (j:Nat):(xP t j).length=j:=by simp[xP]
theorem z6o (x:Prd) (h:kprodC.cnd x):zKp x:=by
 obtain⟨h1,h2,h3,h4,h5,h6,h7⟩:x.raw:=h
 have hw: -1000000≤(0:Int):=by decide
 have bt:=yR (n:=x.tick) (lo:=0) (hi:=9) (by omega)
 have bw:=yR (n:=x.wide) (lo:=0) (hi:=60) (by omega)
 have br:=yR (n:=x.rule) (lo:=0) (hi:=2) (by omega)
 have bl:=yR (n:=x.least) (lo:=0) (hi:=4) (by omega)
 have bn:=yR (n:=(x.months.length:Int)) (lo:=0) (hi:=3) (by omega)
 have kt:=zEu x
 have kn:=zRo x
 have w1:IntKind.i64.wrap (1+zD x.tick 0 9)=z7 x:=w64 (by omega)
 have w2:IntKind.i64.wrap (-20*IntKind.i64.wrap (1+zD x.tick 0 9))= -20*z7 x:=by rw[w1];exact w64 (by omega)
 have w3:IntKind.i64.wrap (100*IntKind.i64.wrap (1+zD x.tick 0 9))=100*z7 x:=by rw[w1];exact w64 (by omega)
 have w4:IntKind.i64.wrap (1+zD x.rule 0 2)=1+zD x.rule 0 2:=w64 (by omega)
 have w5:IntKind.i64.wrap (1+zD x.least 0 4)=1+zD x.least 0 4:=w64 (by omega)
 have w6:IntKind.i64.wrap (2+zD x.months.length 0 3)=kN x:=w64 (by omega)
 have mb:=zDl (a:=z7 x) (b:=5+zD x.wide 0 60) (m:=10) (n:=65) (by omega) (by omega)
 have w7:IntKind.i64.wrap (IntKind.i64.wrap (1+zD x.tick 0 9)*IntKind.i64.wrap (5+zD x.wide 0 60))=z7 x*(5+zD x.wide 0 60):=by
  rw[w1,w64 (x:=5+zD x.wide 0 60) (by omega)];exact w64 (by omega)
 unfold zKp rI aM
 simp only[yT]
 refine⟨⟨x.months.length,0,3⟩,rfl,rfl,rfl,⟨⟨by dsimp only;omega,by dsimp only;omega⟩,by dsimp only;omega,by dsimp only;omega,by dsimp only;omega⟩,fun _ _=>⟨⟨x.tick,0,9⟩,rfl,rfl,rfl,⟨h1,by dsimp only;omega,by dsimp only;omega,by dsimp only;omega⟩,fun _ _=> ?_⟩⟩
 dsimp only
 refine⟨(),fun _=>True,?_,fun _ _=> ?_⟩
 ·repeat'(first|exact trivial|exact rfl|exact w1.symm|exact w2.symm|exact w3.symm|exact w4.symm|exact w5.symm|apply And.intro|refine⟨⟨x.rule,0,2⟩,rfl,rfl,rfl,⟨h3,by dsimp only;omega,by dsimp only;omega,by dsimp only;omega⟩,fun _ _=> ?_⟩|refine⟨⟨x.top,0,9⟩,rfl,rfl,rfl,⟨h4,by dsimp only;omega,by dsimp only;omega,by dsimp only;omega⟩,fun _ _=> ?_⟩|refine⟨⟨x.least,0,4⟩,rfl,rfl,rfl,⟨h5,by dsimp only;omega,by dsimp only;omega,by dsimp only;omega⟩,fun _ _=> ?_⟩|refine⟨⟨x.part,0,100⟩,rfl,rfl,rfl,⟨h6,by dsimp only;omega,by dsimp only;omega,by dsimp only;omega⟩,fun _ _=> ?_⟩|refine⟨(),?_⟩)
 ·refine⟨⟨x.wide,0,60⟩,rfl,rfl,rfl,⟨h2,by dsimp only;omega,by dsimp only;omega,by dsimp only;omega⟩,fun _ _=> ?_⟩
  dsimp only
  rw[w7,w6]
  refine⟨0,by(first|exact rfl|exact trivial),by(first|exact rfl|exact trivial),by(first|exact rfl|exact trivial),by(first|exact rfl|exact trivial),by(first|exact rfl|exact trivial),by(first|exact rfl|exact trivial),by(first|exact rfl|exact trivial),by(first|exact rfl|exact trivial),by(first|exact rfl|exact trivial),by(first|exact rfl|exact trivial),by(first|exact rfl|exact trivial),by(first|exact rfl|exact trivial),fun j=>j≤(kN x).toNat,fun j=>(kN x).toNat-j,by omega,?_⟩
  intro j hj
  rw[fU,uB]
  refine zS (fun c=>⟨by omega,by omega,j+1,by rw[w64 (by omega)];rfl,by(first|exact rfl|exact trivial),by(first|exact rfl|exact trivial),by(first|exact rfl|exact trivial),by(first|exact rfl|exact trivial),by(first|exact rfl|exact trivial),by(first|exact rfl|exact trivial),by(first|exact rfl|exact trivial),by(first|exact rfl|exact trivial),by(first|exact rfl|exact trivial),?_,?_,by(first|omega|(dsimp only;omega)),by(first|omega|(dsimp only;omega)),by(repeat'(first|exact trivial|exact rfl|apply And.intro))⟩) (fun c=>⟨(),?_⟩)
  ·rw[zBe,w64 (x:=10*(j:Int)) (by omega),w64 (by omega)]
  ·have mj:=zDl (a:=z7 x) (b:=10+(j:Int)) (m:=10) (n:=20) (by omega) (by omega)
   rw[zDd,w1,w64 (x:=10+(j:Int)) (by omega),w64 (by omega)]
  ·have e:(kN x).toNat=j:=by omega
   rw[e];(repeat'(first|exact trivial|exact rfl|apply And.intro))
theorem kprod_ok:kprodC.ok Tryz.prog 8:=zWs (gokc within_ok gok0) z6o
open Go Cv Go.Proofs
structure Cmd where
 kind:Int
 id:Int
 inst:Int
 side:Int
 price:Int
 qty:Int
 least:Int
 time:Int
 label:List UInt8
 deriving DecidableEq
@[reducible] def Cmd.cells (c:Cmd):List V:=[zE c.kind,zE c.id,zE c.inst,zE c.side,zE c.price,zE c.qty,zE c.least,zE c.time,sV c.label]
@[reducible] def Cmd.raw (c:Cmd):Prop:=yI c.kind∧yI c.id∧yI c.inst∧yI c.side∧yI c.price∧yI c.qty∧yI c.least∧yI c.time
structure TmI where
 p:Prd
 c:Cmd
 i:Int
structure AbI where
 x:Prd
 l:List Cmd
def Top.pr (t:Top) (s:Nat):Int:=if s=0 then t.p1 else t.p2
def Top.hs (t:Top) (s:Nat):Bool:=if s=0 then t.has1 else t.has2
structure B2 where
 a:Bool
 b:Bool
open Go Cv Go.Proofs
open Go Cv Go.Proofs
open Go Cv Go.Proofs
structure ShI where
 a:Int
 b:Int
 c:Int
def add64C:Con:=con1 ShI (fun i=>[cH i.a,cH i.b,cH i.c]) (fun _=>[]) (fun i=>0≤i.a∧0≤i.b∧0≤i.c∧i.c≤1) (fun i=> .tup [cH ((i.a+i.b+i.c) % 18446744073709551616),cH ((i.a+i.b+i.c) / 18446744073709551616)]) (fun _=>[])
theorem zPt {P : Program} {f : FuncId} {fn : Func} (hf : P.funcs[f]? = some fn) (hname : (fn.name == "runtime.NumGoroutine") = false) (hb : fn.body.isNone = true) (hn : Extern.findNext fn = none) (he : Extern.find fn = some add64Entry) : add64C.ok P f := by
 intro i hc k L E w ys R hv
 obtain⟨h1,h2,h3,h4⟩:0≤i.a∧0≤i.b∧0≤i.c∧i.c≤1:=hc
 simp only[add64C,con1,VRL,VR,DR]at hv
 obtain⟨_,_,rfl,⟨rfl,_⟩,_,_,rfl,⟨rfl,_⟩,_,_,rfl,⟨rfl,_⟩,rfl⟩:=hv
 unfold Does
 rw[run_callFunc_extern hf hname hb hn he,run_add64 i.a i.b i.c h1 h2 h3 h4]
 simp only[Result.andThen]
 refine⟨_,List.mem_singleton.2 rfl,(),trivial,E,Ev.le.refl _,?_,R⟩
 simp only[add64C,con1,VR,VRL,DR]
 exact⟨_,rfl,_,_,rfl,⟨rfl,rfl⟩,_,_,rfl,⟨rfl,rfl⟩,rfl⟩
theorem zPl:add64C.ok Tryz.prog 159:=zPt Tryz.func159 (by kernel_rfl) (by kernel_rfl) (by kernel_rfl) (by kernel_rfl)
structure M2 where
 a:Int
 b:Int
def mul64C:Con:=con1 M2 (fun i=>[cH i.a,cH i.b]) (fun _=>[]) (fun i=>0≤i.a∧i.a≤2000000000∧0≤i.b∧i.b≤2000000000) (fun i=> .tup [cH 0,cH (i.a*i.b)]) (fun _=>[])
def div64C:Con:=con1 M2 (fun i=>[cH 0,cH i.a,cH i.b]) (fun _=>[]) (fun i=>0≤i.a∧i.a≤4000000000000000000∧1≤i.b∧i.b≤2000000000) (fun i=> .tup [cH (i.a / i.b),cH (i.a % i.b)]) (fun _=>[])
def ishareC:Con:=con1 ShI (fun i=>[zE i.a,zE i.b,zE i.c]) (fun _=>[]) (fun i=>0≤i.a∧i.a≤2000000000∧0≤i.b∧i.b≤2000000000∧1≤i.c∧i.c≤2000000000) (fun i=> .tup [zE (i.a*i.b / i.c),yJ true]) (fun _=>[])
def isumC:Con:=con1 (List Int) (fun l=>[iV l]) (fun _=>[]) (fun l=>l.length≤1000∧∀x∈l,0≤x∧x≤1000000) (fun l=> .tup [zE l.sum,yJ true]) (fun _=>[])
def z6x (l:List Int):List SAnn:=[{ι:=Nat,slots:=fun j=>[(4,cH (l.take j).sum),(5,zE 0),(11,zE j)],rows:=fun _=>[]}]
structure LqI where
 l:List Int
 q:Int
def yE (l:List Int) (q:Int):Bool:=decide (l.length≤250) && decide (0≤q) && l.all (fun n=>decide (1≤n) && decide (n≤1000000)) && decide (q≤l.sum)
def rightC:Con:=con1 LqI (fun i=>[iV i.l,zE i.q]) (fun _=>[]) (fun i=>i.l.length≤1000000∧yI i.q) (fun i=>yJ (yE i.l i.q)) (fun _=>[])
def z3a (i:LqI):List SAnn:=[{ι:=Nat,slots:=fun j=>[(5,zE (i.l.take j).sum),(17,zE j)],rows:=fun _=>[]}]
def xS:List Int→Int→List Int
 |[],_=>[]
 |n::l,q=>min n q::xS l (q-min n q)
def jM (l:List Int) (q:Int):List Int:=if yE l q=true then xS l q else[]
def fifoC:Con:=con1 LqI (fun i=>[iV i.l,zE i.q]) (fun _=>[]) (fun i=>i.l.length≤1000000∧yI i.q) (fun _=> .own 0) (fun i=>[.own 2 1 (iE (jM i.l i.q))])
def z8z (i:LqI):List SAnn:=[{ι:=Nat,slots:=fun j=>[(5,.own 0),(1,zE (i.q-((xS i.l i.q).take j).sum)),(15,zE j)],rows:=fun j=>[.own 2 1 (iE ((xS i.l i.q).take j))]}]
open Go Cv Go.Proofs
def zJf (i:M2):Prop:=
 (0:Int)≤(32:Int)∧(0:Int)≤(32:Int)∧(0:Int)≤(32:Int)∧(0:Int)≤(32:Int)∧(0:Int)≤(32:Int)∧∃(o:Unit),0=IntKind.u64.wrap (IntKind.u64.wrap (IntKind.u64.wrap (uN IntKind.u64 i.a 32*uN IntKind.u64 i.b 32)+uN IntKind.u64 (IntKind.u64.wrap (IntKind.u64.wrap (uN IntKind.u64 i.a 32*c8 IntKind.u64 i.b 4294967295)+uN IntKind.u64 (IntKind.u64.wrap (c8 IntKind.u64 i.a 4294967295*c8 IntKind.u64 i.b 4294967295)) 32)) 32)+uN IntKind.u64 (IntKind.u64.wrap (c8 IntKind.u64 (IntKind.u64.wrap (IntKind.u64.wrap (uN IntKind.u64 i.a 32*c8 IntKind.u64 i.b 4294967295)+uN IntKind.u64 (IntKind.u64.wrap (c8 IntKind.u64 i.a 4294967295*c8 IntKind.u64 i.b 4294967295)) 32)) 4294967295+IntKind.u64.wrap (c8 IntKind.u64 i.a 4294967295*uN IntKind.u64 i.b 32))) 32)∧i.a*i.b=IntKind.u64.wrap (i.a*i.b)∧True
theorem z0q (hG:GOk Tryz.prog ([])) (h:∀(i:M2),mul64C.cnd i→zJf i):mul64C.ok Tryz.prog 145:=okw mixed hG 0 (fun _=>[]) (fun _=>[]) [] Tryz.func145 h
def zJu (i:M2):Prop:=
 cnd (i.b==0) False (cnd (decide (i.b≤0)) False (IntKind.u64=IntKind.u64∧i.b≠0∧IntKind.u64=IntKind.u64∧i.b≠0∧∃(o:Unit),i.a / i.b=IntKind.u64.wrap (i.a.tdiv i.b)∧i.a % i.b=i.a.tmod i.b∧True))
theorem zYy (hG:GOk Tryz.prog ([])) (h:∀(i:M2),div64C.cnd i→zJu i):div64C.ok Tryz.prog 146:=okw mixed hG 0 (fun _=>[]) (fun _=>[]) [] Tryz.func146 h
def zCm (i:ShI):Prop:=
 cnd (decide (i.a<0)) (∃(o:Unit),i.a*i.b / i.c=0∧true=false∧True) (cnd (decide (i.b<0)) (∃(o:Unit),i.a*i.b / i.c=0∧true=false∧True) (cnd (decide (i.c<1)) (∃(o:Unit),i.a*i.b / i.c=0∧true=false∧True) (∃(i_1:M2),i_1.a=IntKind.u64.wrap i.a∧i_1.b=IntKind.u64.wrap i.b∧(0≤i_1.a∧i_1.a≤(2000000000:Int)∧(0:Int)≤i_1.b∧i_1.b≤2000000000)∧∀(o:Unit),True→cnd (decide (0≥IntKind.u64.wrap i.c)) (∃(o:Unit),i.a*i.b / i.c=0∧true=false∧True) (∃(i_2:M2),(0:Int)=(0:Int)∧i_2.a=i_1.a*i_1.b∧i_2.b=IntKind.u64.wrap i.c∧(0≤i_2.a∧i_2.a≤(4000000000000000000:Int)∧(1:Int)≤i_2.b∧i_2.b≤2000000000)∧∀(o:Unit),True→cnd (decide (i_2.a / i_2.b>9223372036854775807)) (∃(o:Unit),i.a*i.b / i.c=0∧true=false∧True) (∃(o:Unit),i.a*i.b / i.c=IntKind.i64.wrap (i_2.a / i_2.b)∧true=true∧True)))))
theorem zTn (hG:GOk Tryz.prog ([(145,mul64C),(146,div64C)])) (h:∀(i:ShI),ishareC.cnd i→zCm i):ishareC.ok Tryz.prog 133:=okw mixed hG 0 (fun _=>[]) (fun _=>[]) [] Tryz.func133 h
def zWo (l:List Int):Prop:=
 ∃(i0:Nat),(List.take i0 l).sum=(0:Int)∧(0:Int)=0∧(↑i0:Int)=0∧∃(I:Nat→Prop),∃(μ:Nat→Nat),I i0∧∀(i:Nat),I i→cnd (decide ((↑i:Int)<(↑(iE l).length:Int))) ((0≤(↑i:Int)∧(↑i:Int)<(↑(iE l).length:Int))∧∃(n:Int),zJ (iE l) (↑i:Int).toNat 0 1=some [D.v (.int .i64 n)]∧∃(i_1:ShI),i_1.a=(List.take i l).sum∧i_1.b=IntKind.u64.wrap n∧i_1.c=0∧(0≤i_1.a∧0≤i_1.b∧0≤i_1.c∧i_1.c≤1)∧∀(o:Unit),True→(0:Int)≤(63:Int)∧∃(i':Nat),(List.take i' l).sum=(i_1.a+i_1.b+i_1.c) % (18446744073709551616:Int)∧(0:Int)=IntKind.i64.wrap (0+IntKind.i64.wrap (uN IntKind.i64 n 63+IntKind.i64.wrap ((i_1.a+i_1.b+i_1.c) / (18446744073709551616:Int))))∧(↑i':Int)=IntKind.i64.wrap ((↑i:Int)+1)∧I i'∧μ i'<μ i∧True) ((0:Int)≤(63:Int)∧cnd (0 !=uN IntKind.i64 (IntKind.i64.wrap (List.take i l).sum) 63) (∃(o:Unit),l.sum=0∧true=false∧True) (∃(o:Unit),l.sum=IntKind.i64.wrap (List.take i l).sum∧true=true∧True))
theorem z2y (hG:GOk Tryz.prog ([(159,add64C)])) (h:∀(l:List Int),isumC.cnd l→zWo l):isumC.ok Tryz.prog 156:=okw mixed hG 0 (fun _=>[]) (fun l=>z6x l) [] Tryz.func156 h
def zHj (i:LqI):Prop:=
 cnd (decide ((↑(iE i.l).length:Int)>250)) (∃(o:Unit),yE i.l i.q=false∧True) (cnd (decide (i.q<0)) (∃(o:Unit),yE i.l i.q=false∧True) (∃(i0:Nat),(List.take i0 i.l).sum=0∧(↑i0:Int)=0∧∃(I:Nat→Prop),∃(μ:Nat→Nat),I i0∧∀(i_1:Nat),I i_1→cnd (decide ((↑i_1:Int)<(↑(iE i.l).length:Int))) ((0≤(↑i_1:Int)∧(↑i_1:Int)<(↑(iE i.l).length:Int))∧∃(n:Int),zJ (iE i.l) (↑i_1:Int).toNat 0 1=some [D.v (.int .i64 n)]∧cnd (decide (n<1)) (∃(o:Unit),yE i.l i.q=false∧True) (cnd (decide (n>1000000)) (∃(o:Unit),yE i.l i.q=false∧True) (∃(i':Nat),(List.take i' i.l).sum=IntKind.i64.wrap ((List.take i_1 i.l).sum+n)∧(↑i':Int)=IntKind.i64.wrap ((↑i_1:Int)+1)∧I i'∧μ i'<μ i_1∧True))) (∃(o:Unit),yE i.l i.q=decide (i.q≤(List.take i_1 i.l).sum)∧True)))
theorem z1a (hG:GOk Tryz.prog ([])) (h:∀(i:LqI),rightC.cnd i→zHj i):rightC.ok Tryz.prog 131:=okw mixed hG 0 (fun _=>[]) (fun i=>z3a i) [] Tryz.func131 h
def zRl (i:LqI):Prop:=
 ∃(i_1:LqI),iE i_1.l=iE i.l∧i_1.q=i.q∧(i_1.l.length≤(1000000:Nat)∧(-9223372036854775808:Int)≤i_1.q∧i_1.q≤9223372036854775807)∧∀(o:Unit),True→cnd (!yE i_1.l i_1.q) (∃(o:Unit),iE (jM i.l i.q)=[]∧True) (∃(i0:Nat),i.q-(List.take i0 (xS i.l i.q)).sum=i.q∧(↑i0:Int)=0∧iE (List.take i0 (xS i.l i.q))=[]∧∃(I:Nat→Prop),∃(μ:Nat→Nat),I i0∧∀(i_2:Nat),I i_2→cnd (decide ((↑i_2:Int)<(↑(iE i.l).length:Int))) ((0≤(↑i_2:Int)∧(↑i_2:Int)<(↑(iE i.l).length:Int))∧∃(n:Int),zJ (iE i.l) (↑i_2:Int).toNat 0 1=some [D.v (.int .i64 n)]∧((iE (List.take i_2 (xS i.l i.q))).length+1)*(8:Nat)≤(70368744177664:Nat)∧∃(i':Nat),i.q-(List.take i' (xS i.l i.q)).sum=IntKind.i64.wrap (i.q-(List.take i_2 (xS i.l i.q)).sum-min n (i.q-(List.take i_2 (xS i.l i.q)).sum))∧(↑i':Int)=IntKind.i64.wrap ((↑i_2:Int)+1)∧iE (List.take i' (xS i.l i.q))=iE (List.take i_2 (xS i.l i.q))++[[D.v (.int .i64 (min n (i.q-(List.take i_2 (xS i.l i.q)).sum)))]]∧I i'∧μ i'<μ i_2∧True) (∃(o:Unit),iE (jM i.l i.q)=iE (List.take i_2 (xS i.l i.q))∧True))
theorem z4z (hG:GOk Tryz.prog ([(131,rightC)])) (h:∀(i:LqI),fifoC.cnd i→zRl i):fifoC.ok Tryz.prog 105:=okw mixed hG 0 (fun _=>[]) (fun i=>z8z i) [] Tryz.func105 h
open Go Cv Go.Proofs
theorem zDj {x:Int} (h0:0≤x) (h1:x<4294967296):c8 .u64 x 4294967295=x:=by
 have e:c8 .u64 x 4294967295=IntKind.u64.wrap ((BitVec.ofInt 64 x &&& BitVec.ofInt 64 4294967295).toNat:Int):=rfl
 obtain⟨n,rfl⟩:=Int.eq_ofNat_of_zero_le h0
 have hn:n<4294967296:=by omega
 rw[e,BitVec.toNat_and,BitVec.ofInt_natCast,BitVec.toNat_ofNat,show(BitVec.ofInt 64 4294967295).toNat=2 ^ 32-1 by decide,Nat.and_two_pow_sub_one_eq_mod]
 rw[show n % 2 ^ 64 % 2 ^ 32=n by omega,rN (by omega)]
theorem pN {x:Int} (h0:0≤x) (h1:x<4294967296):uN .u64 x 32=0:=by
 have:=pM .u64 x 32 (by decide)
 rw[show((32:Nat):Int)=32 by rfl]at this
 rw[this];omega
theorem zMe {a b m n:Int} (ha:0≤a∧a≤m) (hb:0≤b∧b≤n):0≤a*b∧a*b≤m*n:=
 ⟨Int.mul_nonneg ha.1 hb.1,Int.mul_le_mul ha.2 hb.2 hb.1 (by omega)⟩
theorem z6q (i:M2) (h:mul64C.cnd i):zJf i:=by
 obtain⟨h1,h2,h3,h4⟩:0≤i.a∧i.a≤2000000000∧0≤i.b∧i.b≤2000000000:=h
 have hm:=zMe ⟨h1,h2⟩ ⟨h3,h4⟩
 have hs:uN IntKind.u64 (i.a*i.b) 32=(i.a*i.b) / 4294967296:=by
  have:=pM .u64 (i.a*i.b) 32 (by decide)
  rw[show((32:Nat):Int)=32 by rfl]at this
  exact this
 unfold zJf
 refine⟨by decide,by decide,by decide,by decide,by decide,(),?_,?_,trivial⟩
 ·rw[zDj h1 (by omega),zDj h3 (by omega),pN h1 (by omega),pN h3 (by omega),rN (x:=i.a*i.b) (by omega),hs]
  simp only[Int.zero_mul,Int.mul_zero,Int.zero_add,Int.add_zero]
  rw[rN (x:=0) (by omega)]
  simp only[Int.zero_add,Int.add_zero]
  rw[rN (x:=i.a*i.b / 4294967296) (by omega),pN (x:=i.a*i.b / 4294967296) (by omega) (by omega),zDj (x:=i.a*i.b / 4294967296) (by omega) (by omega),rN (x:=i.a*i.b / 4294967296) (by omega),pN (x:=i.a*i.b / 4294967296) (by omega) (by omega)]
  rfl
 ·rw[rN (by omega)]
theorem zUk:mul64C.ok Tryz.prog 145:=z0q gok0 z6q
theorem z2k (i:M2) (h:div64C.cnd i):zJu i:=by
 obtain⟨h1,h2,h3,h4⟩:0≤i.a∧i.a≤4000000000000000000∧1≤i.b∧i.b≤2000000000:=h
 unfold zJu
 have hd:0≤i.a / i.b∧i.a / i.b≤i.a:=⟨Int.ediv_nonneg h1 (by omega),Int.ediv_le_self _ h1⟩
 refine Cv.cnd.mk (fun c=>absurd (eq_of_beq c) (by omega)) (fun _=>zS (fun c=>by omega) (fun _=>⟨rfl,by omega,rfl,by omega,(),?_,?_,trivial⟩))
 ·rw[Int.tdiv_eq_ediv_of_nonneg h1,rN (by omega)]
 ·rw[Int.tmod_eq_emod_of_nonneg h1]
theorem zSi:div64C.ok Tryz.prog 146:=zYy gok0 z2k
theorem zYg (i:ShI) (h:ishareC.cnd i):zCm i:=by
 obtain⟨h1,h2,h3,h4,h5,h6⟩:0≤i.a∧i.a≤2000000000∧0≤i.b∧i.b≤2000000000∧1≤i.c∧i.c≤2000000000:=h
 have hm:=zMe ⟨h1,h2⟩ ⟨h3,h4⟩
 have hd:0≤i.a*i.b / i.c∧i.a*i.b / i.c≤i.a*i.b:=⟨Int.ediv_nonneg hm.1 (by omega),Int.ediv_le_self _ hm.1⟩
 unfold zCm
 rw[rN (x:=i.a) (by omega),rN (x:=i.b) (by omega),rN (x:=i.c) (by omega)]
 refine zS (fun c=>by omega) (fun _=>zS (fun c=>by omega) (fun _=>zS (fun c=>by omega) (fun _=>⟨⟨i.a,i.b⟩,rfl,rfl,⟨h1,h2,h3,h4⟩,fun _ _=>zS (fun c=>by omega) (fun _=>⟨⟨i.a*i.b,i.c⟩,rfl,rfl,rfl,⟨hm.1,by dsimp only;omega,h5,h6⟩,fun _ _=>zS (fun c=>by dsimp only at c;omega) (fun _=>⟨(),?_,rfl,trivial⟩)⟩)⟩)))
 rw[w64 (by dsimp only;omega)]
theorem l5:ishareC.ok Tryz.prog 133:=zTn (gokc zUk (gokc zSi gok0)) zYg
theorem wjn {j:Nat} (h:j≤1000000):((j+1:Nat):Int)=IntKind.i64.wrap ((j:Int)+1):=by rw[w64 (by omega)];rfl
theorem qN {l:List Int} {j:Nat} {x:Int} (h:l[j]? =some x):(l.take (j+1)).sum=(l.take j).sum+x:=by
 rw[List.take_add_one,h];simp
theorem qE {l:List Int} (h:∀x∈l,0≤x∧x≤1000000):∀j:Nat,0≤(l.take j).sum∧(l.take j).sum≤1000000*j
 |0=>by simp
 |j+1=>by
  have ih:=qE h j
  cases hx:l[j]? with
  |none=>
   have:l.take (j+1)=l.take j:=by
    rw[List.take_add_one,hx];simp
   rw[this];omega
  |some x=>
   have:=h x (List.mem_of_getElem? hx)
   rw[qN hx];omega
theorem z7f (l:List Int) (h:isumC.cnd l):zWo l:=by
 obtain⟨hl,hb⟩:l.length≤1000∧∀x∈l,0≤x∧x≤1000000:=h
 unfold zWo
 simp only[yT]
 refine⟨0,by(first|exact rfl|exact trivial),by(first|exact rfl|exact trivial),by(first|exact rfl|exact trivial),fun j=>j≤l.length,fun j=>l.length-j,Nat.zero_le _,fun j hj=>zS (fun c=> ?_) (fun c=> ?_)⟩
 ·have hj':j<l.length:=by omega
  obtain⟨x,hx⟩:=z9 (l:=l) (i:=j) hj'
  have bx:=hb x (List.mem_of_getElem? hx)
  have bs:=qE hb j
  refine⟨⟨by omega,by omega⟩,x,elI hx,⟨(l.take j).sum,x,0⟩,rfl,by rw[rN (by omega)],rfl,⟨bs.1,bx.1,by dsimp only;omega,by dsimp only;omega⟩,fun _ _=>⟨by decide,j+1,?_,?_,wjn (by omega),hj',by dsimp only;omega,trivial⟩⟩
  ·rw[qN hx];dsimp only;omega
  ·have e:uN IntKind.i64 x 63=x / 9223372036854775808:=by
    have:=pM .i64 x 63 (by decide)
    rw[show((63:Nat):Int)=63 by rfl]at this
    exact this
   dsimp only
   rw[e,show x / 9223372036854775808=0 by omega,show((l.take j).sum+x+0) / 18446744073709551616=0 by omega]
   rfl
 ·have hj':j=l.length:=by omega
  subst hj'
  have bs:=qE hb l.length
  rw[List.take_length]at bs
  have e:uN IntKind.i64 l.sum 63=l.sum / 9223372036854775808:=by
   have:=pM .i64 l.sum 63 (by decide)
   rw[show((63:Nat):Int)=63 by rfl]at this
   exact this
  rw[List.take_length,w64 (x:=l.sum) (by omega),e,show l.sum / 9223372036854775808=0 by omega]
  exact⟨by decide,Cv.cnd.mk (fun c=>absurd c (by decide)) (fun _=>⟨(),by(first|exact rfl|exact trivial),by(first|exact rfl|exact trivial),trivial⟩)⟩
theorem zYi:isumC.ok Tryz.prog 156:=z2y (gokc zPl gok0) z7f
theorem z5x (i:LqI) (h:rightC.cnd i):zHj i:=by
 obtain⟨hl,hq⟩:i.l.length≤1000000∧yI i.q:=h
 unfold zHj
 simp only[yT]
 refine zS (fun c=>⟨(),?_,trivial⟩) (fun c1=>zS (fun c=>⟨(),?_,trivial⟩) (fun c2=> ?_))
 ·rw[yE,decide_eq_false (by omega:¬i.l.length≤250)];rfl
 ·rw[yE,decide_eq_false (by omega:¬0≤i.q)];simp
 refine⟨0,by(first|exact rfl|exact trivial),by(first|exact rfl|exact trivial),fun j=>j≤i.l.length∧∀k<j,∀x,i.l[k]? =some x→1≤x∧x≤1000000,fun j=>i.l.length-j,⟨Nat.zero_le _,fun k hk=>absurd hk (Nat.not_lt_zero k)⟩,fun j hj=>zS (fun c=> ?_) (fun c=> ?_)⟩
 ·obtain⟨hj0,hjb⟩:=hj
  have hj':j<i.l.length:=by omega
  obtain⟨x,hx⟩:=z9 (l:=i.l) (i:=j) hj'
  have bad (hn:¬(1≤x∧x≤1000000)):yE i.l i.q=false:=by
   have:(i.l.all fun n=>decide (1≤n) && decide (n≤1000000))=false:=by
    rw[List.all_eq_false]
    exact⟨x,List.mem_of_getElem? hx,by simpa using hn⟩
   rw[yE,this];simp
  have bs:0≤(i.l.take j).sum∧(i.l.take j).sum≤1000000*j:=by
   have:=qE (l:=i.l.take j) (fun y hy=>by
    obtain⟨k,hk⟩:=List.mem_iff_getElem?.1 hy
    have hkj:k<j:=by
     have:=(List.getElem?_eq_some_iff.1 hk).1
     rw[List.length_take]at this;omega
    rw[List.getElem?_take_of_lt hkj]at hk
    have:=hjb k hkj y hk;omega) j
   rwa [List.take_take,Nat.min_self]at this
  refine⟨⟨by omega,by omega⟩,x,elI hx,zS (fun d=>⟨(),bad (by omega),trivial⟩) (fun d=>zS (fun e=>⟨(),bad (by omega),trivial⟩) (fun e=>⟨j+1,?_,wjn (by omega),⟨hj',fun k hk y hy=> ?_⟩,by dsimp only;omega,trivial⟩))⟩
  ·rw[qN hx,w64 (by omega)]
  ·by_cases hkj:k=j
   ·rw[hkj,hx]at hy;cases hy;omega
   ·exact hjb k (by omega) y hy
 ·obtain⟨hj0,hjb⟩:=hj
  have hj':j=i.l.length:=by omega
  subst hj'
  have:(i.l.all fun n=>decide (1≤n) && decide (n≤1000000))=true:=by
   rw[List.all_eq_true]
   intro y hy
   obtain⟨k,hk⟩:=List.mem_iff_getElem?.1 hy
   have:=hjb k ((List.getElem?_eq_some_iff.1 hk).1) y hk
   simpa using this
  refine⟨(),?_,trivial⟩
  rw[yE,this,decide_eq_true (by omega:i.l.length≤250),decide_eq_true (by omega:0≤i.q),List.take_length]
  rfl
theorem bP:rightC.ok Tryz.prog 131:=z1a gok0 z5x
theorem x9 {l:List Int} {q:Int} (h:yE l q=true):l.length≤250∧0≤q∧(∀x∈l,1≤x∧x≤1000000)∧q≤l.sum:=by
 simp only[yE,Bool.and_eq_true,decide_eq_true_eq,List.all_eq_true]at h
 exact⟨h.1.1.1,h.1.1.2,h.1.2,h.2⟩
theorem pK {l:List Int} {q:Int} (h:yE l q=true):q≤250000000:=by
 obtain⟨h1,h2,h3,h4⟩:=x9 h
 have:=qE (l:=l) (fun x hx=>by have:=h3 x hx;omega) l.length
 rw[List.take_length]at this
 omega
theorem fK:∀(l:List Int) (q:Int),(xS l q).length=l.length
 |[],_=>rfl
 |n::l,q=>by rw[xS,List.length_cons,List.length_cons,fK l]
theorem rA:∀(l:List Int) (q:Int) (j:Nat) (n:Int),l[j]? =some n→(xS l q)[j]? =some (min n (q-((xS l q).take j).sum))
 |[],_,_,_,h=>by simp at h
 |m::l,q,0,n,h=>by simp at h;subst h;simp[xS]
 |m::l,q,j+1,n,h=>by
  rw[List.getElem?_cons_succ]at h
  rw[xS,List.getElem?_cons_succ,rA l _ j n h,List.take_succ_cons,List.sum_cons]
  congr 2;omega
theorem mX:∀(l:List Int) (q:Int) (j:Nat),0≤q→(∀x∈l,0≤x)→0≤q-((xS l q).take j).sum∧q-((xS l q).take j).sum≤q
 |[],q,j,h,_=>by simp[xS,h]
 |m::l,q,0,h,_=>by simp[h]
 |m::l,q,j+1,h,hb=>by
  have hm:=hb m List.mem_cons_self
  have:=mX l (q-min m q) j (by omega) (fun x hx=>hb x (List.mem_cons_of_mem _ hx))
  rw[xS,List.take_succ_cons,List.sum_cons]
  omega
theorem z8h (i:LqI) (h:fifoC.cnd i):zRl i:=by
 obtain⟨hl,hq⟩:i.l.length≤1000000∧yI i.q:=h
 unfold zRl
 refine⟨i,rfl,rfl,⟨hl,hq⟩,fun _ _=>Cv.cnd.mk (fun c=> ?_) (fun c=> ?_)⟩
 ·have c:yE i.l i.q=false:=by simpa using c
  refine⟨(),?_,trivial⟩
  rw[jM,if_neg (by rw[c];decide)];rfl
 have c:yE i.l i.q=true:=by simpa using c
 obtain⟨h1,h2,h3,h4⟩:=x9 c
 have hq2:=pK c
 have h3':∀x∈i.l,0≤x:=fun x hx=>by have:=h3 x hx;omega
 simp only[yT]
 refine⟨0,by simp,rfl,rfl,fun j=>j≤i.l.length,fun j=>i.l.length-j,Nat.zero_le _,fun j hj=>zS (fun d=> ?_) (fun d=> ?_)⟩
 ·have hj':j<i.l.length:=by omega
  obtain⟨x,hx⟩:=z9 (l:=i.l) (i:=j) hj'
  have bx:=h3 x (List.mem_of_getElem? hx)
  have g:=rA i.l i.q j x hx
  have r:=mX i.l i.q j h2 h3'
  refine⟨⟨by omega,by omega⟩,x,elI hx,by rw[List.length_take];omega,j+1,?_,wjn (by omega),?_,hj',by dsimp only;omega,trivial⟩
  ·rw[qN g,w64 (by omega)];omega
  ·rw[List.take_add_one,g];simp[iE]
 ·have hj':j=i.l.length:=by omega
  subst hj'
  refine⟨(),?_,trivial⟩
  rw[jM,if_pos c,List.take_of_length_le (by rw[fK];omega)]
theorem zMi:fifoC.ok Tryz.prog 105:=z4z (gokc bP gok0) z8h
open Go Cv Go.Proofs
structure Ent where
 slot:Int
 id:Int
 qty:Int
 top:Bool
 deriving DecidableEq
def z7z:Ent:=⟨0,0,0,false⟩
def fG (e:Ent):List D:=[.v (.int .i64 e.slot),.v (.int .i64 e.id),.v (.int .i64 e.qty),.v (.bool e.top)]
@[reducible] def z9h (e:Ent):V:= .agg [zE e.slot,zE e.id,zE e.qty,yJ e.top]
def Slot.ent (s:Slot):Ent:=⟨s.n,s.id,s.qty,s.top⟩
def Arena.slotAt (a:Arena) (k:Nat):Slot:=a.slots.getD k slot0
def Arena.getF (a:Arena) (n:Int):Ent×Bool:=if a.usedAt n=true then((a.slotAt n.toNat).ent,true)else(z7z,false)
def agetC:Con:=con1 ArN (fun i=>[.nm 0 0,zE i.n]) (fun i=>[qM i.a]) (fun i=>i.a.slots.length≤1000000) (fun i=> .tup [z9h (i.a.getF i.n).1,yJ (i.a.getF i.n).2]) (fun i=>[qM i.a])
def zEa (sl:List Slot):Int→List Nat→Prop
 |at_,[]=>at_= -1
 |at_,k::l=>at_=k∧k<sl.length∧zEa sl (sl.getD k slot0).back l
structure ArL where
 a:Arena
 n:Int
 l:List Nat
def g9 (l:List Nat) (j:Nat):Int:=match l[j]? with
 |some k=>k
 |none=> -1
def Arena.ents (a:Arena) (l:List Nat):List Ent:=l.map fun k=>(a.slotAt k).ent
structure Arena.listOk (a:Arena) (n:Int) (l:List Nat):Prop where
 len:l.length≤1000000
 ch:if 0≤n∧n<a.queues.length then zEa a.slots (a.queues.getD n.toNat vH).first l else l=[]
def alistC:Con:=con1 ArL (fun i=>[.nm 0 0,zE i.n]) (fun i=>[qM i.a]) (fun i=>i.a.listOk i.n i.l) (fun _=> .own 1) (fun i=>[qM i.a,.own 193 4 ((i.a.ents i.l).map fG)])
def z5c (i:ArL):List SAnn:=[{ι:=Nat,slots:=fun j=>[(5,.own 0),(6,zE (g9 i.l j))],rows:=fun j=>[.own 193 4 ((i.a.ents (i.l.take j)).map fG)]}]
structure TkI where
 a:Arena
 n:Int
 qty:Int
def Arena.dropF (a:Arena) (k:Nat):Arena:=
 let s:=a.slotAt k
 let q:=a.queues.getD s.queue.toNat vH
 let sl1:=if s.ahead= -1 then a.slots else a.slots.modify s.ahead.toNat fun x=>{x with back:=s.back}
 let sl2:=if s.back= -1 then sl1 else sl1.modify s.back.toNat fun x=>{x with ahead:=s.ahead}
 ⟨sl2.set k slot0,a.queues.set s.queue.toNat ⟨if s.ahead= -1 then s.back else q.first,if s.back= -1 then s.ahead else q.last,q.total,IntKind.i64.wrap (q.count-1)⟩,IntKind.i64.wrap (a.free+1)⟩
def Arena.less (a:Arena) (k:Nat) (qty:Int):Arena:=
 {a with slots:=a.slots.modify k fun s=>{s with qty:=s.qty-qty},queues:=a.queues.modify (a.slotAt k).queue.toNat fun q=>{q with total:=IntKind.i64.wrap (q.total-qty)}}
def Arena.takeF (a:Arena) (n qty:Int):Arena×Int:=
 if a.usedAt n=false then(a,26)else if qty<1∨(a.slotAt n.toNat).qty<qty then(a,24)
 else if(a.slotAt n.toNat).qty=qty then((a.less n.toNat qty).dropF n.toNat,0)else(a.less n.toNat qty,0)
def Arena.okAt (a:Arena):Prop:=a.slots.length≤1000000∧∀(k:Nat) (s:Slot),a.slots[k]? =some s→s.used=true→(0≤s.queue∧s.queue<a.queues.length)∧s.qty≤1000000∧(s.ahead= -1∨(0≤s.ahead∧s.ahead<a.slots.length∧s.ahead≠k))∧(s.back= -1∨(0≤s.back∧s.back<a.slots.length∧s.back≠k))
def atakeC:Con:=con1 TkI (fun i=>[.nm 0 0,zE i.n,zE i.qty]) (fun i=>[qM i.a]) (fun i=>i.a.okAt) (fun i=>zE (i.a.takeF i.n i.qty).2) (fun i=>[qM (i.a.takeF i.n i.qty).1])
open Go Cv Go.Proofs
@[reducible] def pQ (i:ArN):Prop:=∃(o:Unit),(i.a.getF i.n).fst.slot=0∧(i.a.getF i.n).fst.id=0∧(i.a.getF i.n).fst.qty=0∧(i.a.getF i.n).fst.top=false∧(i.a.getF i.n).snd=false∧i.a.free=i.a.free∧List.map zL i.a.slots=List.map zL i.a.slots∧List.map zG i.a.queues=List.map zG i.a.queues∧True
def zTr (i:ArN):Prop:=
 cnd (decide (i.n<0)) (pQ i) (cnd (decide (i.n≥(↑(List.map zL i.a.slots).length:Int))) (pQ i) ((0≤i.n∧i.n<(↑(List.map zL i.a.slots).length:Int))∧∃(b:Bool),zJ (List.map zL i.a.slots) i.n.toNat ((0:Nat)+(0:Nat)) 1=some [D.v (.bool b)]∧cnd (!b) (pQ i) ((0≤i.n∧i.n<(↑(List.map zL i.a.slots).length:Int))∧∃(n:Int),∃(n_1:Int),∃(n_2:Int),∃(b:Bool),zJ (List.map zL i.a.slots) i.n.toNat ((0:Nat)+(1:Nat)) 4=some [D.v (.int .i64 n),D.v (.int .i64 n_1),D.v (.int .i64 n_2),D.v (.bool b)]∧∃(o:Unit),(i.a.getF i.n).fst.slot=n∧(i.a.getF i.n).fst.id=n_1∧(i.a.getF i.n).fst.qty=n_2∧(i.a.getF i.n).fst.top=b∧(i.a.getF i.n).snd=true∧i.a.free=i.a.free∧List.map zL i.a.slots=List.map zL i.a.slots∧List.map zG i.a.queues=List.map zG i.a.queues∧True)))
theorem z2m (hG:GOk Tryz.prog ([])) (h:∀(i:ArN),agetC.cnd i→zTr i):agetC.ok Tryz.prog 111:=okw mixed hG 1 (fun _=>[]) (fun _=>[]) [0] Tryz.func111 h
def zKb (i:ArL):Prop:=
 cnd (decide (i.n≥0)) (cnd (!decide (i.n<(↑(List.map zG i.a.queues).length:Int))) (∃(o:Unit),i.a.free=i.a.free∧List.map zL i.a.slots=List.map zL i.a.slots∧List.map zG i.a.queues=List.map zG i.a.queues∧List.map fG (i.a.ents i.l)=[]∧True) ((0≤i.n∧i.n<(↑(List.map zG i.a.queues).length:Int))∧∃(n:Int),zJ (List.map zG i.a.queues) i.n.toNat ((0:Nat)+(0:Nat)) 1=some [D.v (.int .i64 n)]∧∃(i0:Nat),g9 i.l i0=n∧List.map fG (i.a.ents (List.take i0 i.l))=[]∧∃(I:Nat→Prop),∃(μ:Nat→Nat),I i0∧∀(i_1:Nat),I i_1→cnd (g9 i.l i_1 !=(-1)) ((0≤g9 i.l i_1∧g9 i.l i_1<(↑(List.map zL i.a.slots).length:Int))∧∃(n:Int),∃(n_1:Int),∃(n_2:Int),∃(b:Bool),zJ (List.map zL i.a.slots) (g9 i.l i_1).toNat ((0:Nat)+(1:Nat)) 4=some [D.v (.int .i64 n),D.v (.int .i64 n_1),D.v (.int .i64 n_2),D.v (.bool b)]∧((List.map fG (i.a.ents (List.take i_1 i.l))).length+1)*(32:Nat)≤(70368744177664:Nat)∧(0≤g9 i.l i_1∧g9 i.l i_1<(↑(List.map zL i.a.slots).length:Int))∧∃(n_3:Int),zJ (List.map zL i.a.slots) (g9 i.l i_1).toNat ((0:Nat)+(7:Nat)) 1=some [D.v (.int .i64 n_3)]∧∃(i':Nat),g9 i.l i'=n_3∧List.map fG (i.a.ents (List.take i' i.l))=List.map fG (i.a.ents (List.take i_1 i.l))++[[D.v (.int .i64 n),D.v (.int .i64 n_1),D.v (.int .i64 n_2),D.v (.bool b)]]∧I i'∧μ i'<μ i_1∧Sx.AObj.cells (h9 (jA 0 1 3) [V.own 1,V.own 2,zE i.a.free]) (184:TypeId)=Sx.AObj.cells (h9 (jA 0 1 3) [V.own 1,V.own 2,zE i.a.free]) (184:TypeId)∧AObj.own 195 8 (List.map zL i.a.slots)=AObj.own 195 8 (List.map zL i.a.slots)∧AObj.own 199 4 (List.map zG i.a.queues)=AObj.own 199 4 (List.map zG i.a.queues)) (∃(o:Unit),i.a.free=i.a.free∧List.map zL i.a.slots=List.map zL i.a.slots∧List.map zG i.a.queues=List.map zG i.a.queues∧List.map fG (i.a.ents i.l)=List.map fG (i.a.ents (List.take i_1 i.l))∧True))) (∃(o:Unit),i.a.free=i.a.free∧List.map zL i.a.slots=List.map zL i.a.slots∧List.map zG i.a.queues=List.map zG i.a.queues∧List.map fG (i.a.ents i.l)=[]∧True)
theorem zXc (hG:GOk Tryz.prog ([])) (h:∀(i:ArL),alistC.cnd i→zKb i):alistC.ok Tryz.prog 130:=okw mixed hG 1 (fun _=>[]) (fun i=>z5c i) [0] Tryz.func130 h
@[reducible] def aR (i:TkI):Prop:=∃(o:Unit),(i.a.takeF i.n i.qty).snd=26∧(i.a.takeF i.n i.qty).fst.free=i.a.free∧List.map zL (i.a.takeF i.n i.qty).fst.slots=List.map zL i.a.slots∧List.map zG (i.a.takeF i.n i.qty).fst.queues=List.map zG i.a.queues∧True
def zIi (i:TkI):Prop:=
 cnd (decide (i.n<0)) (aR i) (cnd (decide (i.n≥(↑(List.map zL i.a.slots).length:Int))) (aR i) ((0≤i.n∧i.n<(↑(List.map zL i.a.slots).length:Int))∧∃(b:Bool),zJ (List.map zL i.a.slots) i.n.toNat ((0:Nat)+(0:Nat)) 1=some [D.v (.bool b)]∧cnd (!b) (aR i) ((0≤i.n∧i.n<(↑(List.map zL i.a.slots).length:Int))∧cnd (decide (i.qty<1)) (∃(o:Unit),(i.a.takeF i.n i.qty).snd=24∧(i.a.takeF i.n i.qty).fst.free=i.a.free∧List.map zL (i.a.takeF i.n i.qty).fst.slots=List.map zL i.a.slots∧List.map zG (i.a.takeF i.n i.qty).fst.queues=List.map zG i.a.queues∧True) (∃(n:Int),zJ (List.map zL i.a.slots) i.n.toNat ((0:Nat)+(1:Nat)+2) 1=some [D.v (.int .i64 n)]∧cnd (decide (i.qty>n)) (∃(o:Unit),(i.a.takeF i.n i.qty).snd=24∧(i.a.takeF i.n i.qty).fst.free=i.a.free∧List.map zL (i.a.takeF i.n i.qty).fst.slots=List.map zL i.a.slots∧List.map zG (i.a.takeF i.n i.qty).fst.queues=List.map zG i.a.queues∧True) (∃(n:Int),zJ (List.map zL i.a.slots) i.n.toNat ((0:Nat)+(1:Nat)+2) 1=some [D.v (.int .i64 n)]∧i.n.toNat<(List.map zL i.a.slots).length∧∃(n_1:Int),zJ (zK (List.map zL i.a.slots) i.n.toNat ((0:Nat)+(1:Nat)+2) [D.v (.int .i64 (IntKind.i64.wrap (n-i.qty)))]) i.n.toNat ((0:Nat)+(5:Nat)) 1=some [D.v (.int .i64 n_1)]∧(0≤n_1∧n_1<(↑(List.map zG i.a.queues).length:Int))∧∃(n_2:Int),zJ (List.map zG i.a.queues) n_1.toNat ((0:Nat)+(2:Nat)) 1=some [D.v (.int .i64 n_2)]∧(0≤n_1∧n_1<(↑(List.map zG i.a.queues).length:Int))∧n_1.toNat<(List.map zG i.a.queues).length∧∃(n_3:Int),zJ (zK (List.map zL i.a.slots) i.n.toNat ((0:Nat)+(1:Nat)+2) [D.v (.int .i64 (IntKind.i64.wrap (n-i.qty)))]) i.n.toNat ((0:Nat)+(1:Nat)+2) 1=some [D.v (.int .i64 n_3)]∧cnd (n_3==0) (∃(n_4:Int),zJ (zK (List.map zL i.a.slots) i.n.toNat ((0:Nat)+(1:Nat)+2) [D.v (.int .i64 (IntKind.i64.wrap (n-i.qty)))]) i.n.toNat ((0:Nat)+(5:Nat)) 1=some [D.v (.int .i64 n_4)]∧(0≤n_4∧n_4<(↑(zK (List.map zG i.a.queues) n_1.toNat ((0:Nat)+(2:Nat)) [D.v (.int .i64 (IntKind.i64.wrap (n_2-i.qty)))]).length:Int))∧∃(n_5:Int),zJ (zK (List.map zL i.a.slots) i.n.toNat ((0:Nat)+(1:Nat)+2) [D.v (.int .i64 (IntKind.i64.wrap (n-i.qty)))]) i.n.toNat ((0:Nat)+(6:Nat)) 1=some [D.v (.int .i64 n_5)]∧cnd (n_5==(-1)) (∃(n_6:Int),zJ (zK (List.map zL i.a.slots) i.n.toNat ((0:Nat)+(1:Nat)+2) [D.v (.int .i64 (IntKind.i64.wrap (n-i.qty)))]) i.n.toNat ((0:Nat)+(7:Nat)) 1=some [D.v (.int .i64 n_6)]∧n_4.toNat<(zK (List.map zG i.a.queues) n_1.toNat ((0:Nat)+(2:Nat)) [D.v (.int .i64 (IntKind.i64.wrap (n_2-i.qty)))]).length∧∃(n_7:Int),zJ (zK (List.map zL i.a.slots) i.n.toNat ((0:Nat)+(1:Nat)+2) [D.v (.int .i64 (IntKind.i64.wrap (n-i.qty)))]) i.n.toNat ((0:Nat)+(7:Nat)) 1=some [D.v (.int .i64 n_7)]∧cnd (n_7==(-1)) (∃(n_8:Int),zJ (zK (List.map zL i.a.slots) i.n.toNat ((0:Nat)+(1:Nat)+2) [D.v (.int .i64 (IntKind.i64.wrap (n-i.qty)))]) i.n.toNat ((0:Nat)+(6:Nat)) 1=some [D.v (.int .i64 n_8)]∧n_4.toNat<(zK (zK (List.map zG i.a.queues) n_1.toNat ((0:Nat)+(2:Nat)) [D.v (.int .i64 (IntKind.i64.wrap (n_2-i.qty)))]) n_4.toNat ((0:Nat)+(0:Nat)) [D.v (.int .i64 n_6)]).length∧∃(n_9:Int),zJ (zK (zK (zK (List.map zG i.a.queues) n_1.toNat ((0:Nat)+(2:Nat)) [D.v (.int .i64 (IntKind.i64.wrap (n_2-i.qty)))]) n_4.toNat ((0:Nat)+(0:Nat)) [D.v (.int .i64 n_6)]) n_4.toNat ((0:Nat)+(1:Nat)) [D.v (.int .i64 n_8)]) n_4.toNat ((0:Nat)+(3:Nat)) 1=some [D.v (.int .i64 n_9)]∧n_4.toNat<(zK (zK (zK (List.map zG i.a.queues) n_1.toNat ((0:Nat)+(2:Nat)) [D.v (.int .i64 (IntKind.i64.wrap (n_2-i.qty)))]) n_4.toNat ((0:Nat)+(0:Nat)) [D.v (.int .i64 n_6)]) n_4.toNat ((0:Nat)+(1:Nat)) [D.v (.int .i64 n_8)]).length∧i.n.toNat<(zK (List.map zL i.a.slots) i.n.toNat ((0:Nat)+(1:Nat)+2) [D.v (.int .i64 (IntKind.i64.wrap (n-i.qty)))]).length∧∃(o:Unit),(i.a.takeF i.n i.qty).snd=0∧(i.a.takeF i.n i.qty).fst.free=IntKind.i64.wrap (i.a.free+1)∧List.map zL (i.a.takeF i.n i.qty).fst.slots=zK (zK (List.map zL i.a.slots) i.n.toNat ((0:Nat)+(1:Nat)+2) [D.v (.int .i64 (IntKind.i64.wrap (n-i.qty)))]) i.n.toNat 0 [D.v (.bool false),D.v (.int .i64 0),D.v (.int .i64 0),D.v (.int .i64 0),D.v (.bool false),D.v (.int .i64 0),D.v (.int .i64 0),D.v (.int .i64 0)]∧List.map zG (i.a.takeF i.n i.qty).fst.queues=zK (zK (zK (zK (List.map zG i.a.queues) n_1.toNat ((0:Nat)+(2:Nat)) [D.v (.int .i64 (IntKind.i64.wrap (n_2-i.qty)))]) n_4.toNat ((0:Nat)+(0:Nat)) [D.v (.int .i64 n_6)]) n_4.toNat ((0:Nat)+(1:Nat)) [D.v (.int .i64 n_8)]) n_4.toNat ((0:Nat)+(3:Nat)) [D.v (.int .i64 (IntKind.i64.wrap (n_9-1)))]∧True) (∃(n_8:Int),zJ (zK (List.map zL i.a.slots) i.n.toNat ((0:Nat)+(1:Nat)+2) [D.v (.int .i64 (IntKind.i64.wrap (n-i.qty)))]) i.n.toNat ((0:Nat)+(7:Nat)) 1=some [D.v (.int .i64 n_8)]∧∃(n_9:Int),zJ (zK (List.map zL i.a.slots) i.n.toNat ((0:Nat)+(1:Nat)+2) [D.v (.int .i64 (IntKind.i64.wrap (n-i.qty)))]) i.n.toNat ((0:Nat)+(6:Nat)) 1=some [D.v (.int .i64 n_9)]∧(0≤n_8∧n_8<(↑(zK (List.map zL i.a.slots) i.n.toNat ((0:Nat)+(1:Nat)+2) [D.v (.int .i64 (IntKind.i64.wrap (n-i.qty)))]).length:Int))∧n_8.toNat<(zK (List.map zL i.a.slots) i.n.toNat ((0:Nat)+(1:Nat)+2) [D.v (.int .i64 (IntKind.i64.wrap (n-i.qty)))]).length∧∃(n_10:Int),zJ (zK (zK (List.map zG i.a.queues) n_1.toNat ((0:Nat)+(2:Nat)) [D.v (.int .i64 (IntKind.i64.wrap (n_2-i.qty)))]) n_4.toNat ((0:Nat)+(0:Nat)) [D.v (.int .i64 n_6)]) n_4.toNat ((0:Nat)+(3:Nat)) 1=some [D.v (.int .i64 n_10)]∧n_4.toNat<(zK (zK (List.map zG i.a.queues) n_1.toNat ((0:Nat)+(2:Nat)) [D.v (.int .i64 (IntKind.i64.wrap (n_2-i.qty)))]) n_4.toNat ((0:Nat)+(0:Nat)) [D.v (.int .i64 n_6)]).length∧i.n.toNat<(zK (zK (List.map zL i.a.slots) i.n.toNat ((0:Nat)+(1:Nat)+2) [D.v (.int .i64 (IntKind.i64.wrap (n-i.qty)))]) n_8.toNat ((0:Nat)+(6:Nat)) [D.v (.int .i64 n_9)]).length∧∃(o:Unit),(i.a.takeF i.n i.qty).snd=0∧(i.a.takeF i.n i.qty).fst.free=IntKind.i64.wrap (i.a.free+1)∧List.map zL (i.a.takeF i.n i.qty).fst.slots=zK (zK (zK (List.map zL i.a.slots) i.n.toNat ((0:Nat)+(1:Nat)+2) [D.v (.int .i64 (IntKind.i64.wrap (n-i.qty)))]) n_8.toNat ((0:Nat)+(6:Nat)) [D.v (.int .i64 n_9)]) i.n.toNat 0 [D.v (.bool false),D.v (.int .i64 0),D.v (.int .i64 0),D.v (.int .i64 0),D.v (.bool false),D.v (.int .i64 0),D.v (.int .i64 0),D.v (.int .i64 0)]∧List.map zG (i.a.takeF i.n i.qty).fst.queues=zK (zK (zK (List.map zG i.a.queues) n_1.toNat ((0:Nat)+(2:Nat)) [D.v (.int .i64 (IntKind.i64.wrap (n_2-i.qty)))]) n_4.toNat ((0:Nat)+(0:Nat)) [D.v (.int .i64 n_6)]) n_4.toNat ((0:Nat)+(3:Nat)) [D.v (.int .i64 (IntKind.i64.wrap (n_10-1)))]∧True)) (∃(n_6:Int),zJ (zK (List.map zL i.a.slots) i.n.toNat ((0:Nat)+(1:Nat)+2) [D.v (.int .i64 (IntKind.i64.wrap (n-i.qty)))]) i.n.toNat ((0:Nat)+(6:Nat)) 1=some [D.v (.int .i64 n_6)]∧∃(n_7:Int),zJ (zK (List.map zL i.a.slots) i.n.toNat ((0:Nat)+(1:Nat)+2) [D.v (.int .i64 (IntKind.i64.wrap (n-i.qty)))]) i.n.toNat ((0:Nat)+(7:Nat)) 1=some [D.v (.int .i64 n_7)]∧(0≤n_6∧n_6<(↑(zK (List.map zL i.a.slots) i.n.toNat ((0:Nat)+(1:Nat)+2) [D.v (.int .i64 (IntKind.i64.wrap (n-i.qty)))]).length:Int))∧n_6.toNat<(zK (List.map zL i.a.slots) i.n.toNat ((0:Nat)+(1:Nat)+2) [D.v (.int .i64 (IntKind.i64.wrap (n-i.qty)))]).length∧∃(n_8:Int),zJ (zK (zK (List.map zL i.a.slots) i.n.toNat ((0:Nat)+(1:Nat)+2) [D.v (.int .i64 (IntKind.i64.wrap (n-i.qty)))]) n_6.toNat ((0:Nat)+(7:Nat)) [D.v (.int .i64 n_7)]) i.n.toNat ((0:Nat)+(7:Nat)) 1=some [D.v (.int .i64 n_8)]∧cnd (n_8==(-1)) (∃(n_9:Int),zJ (zK (zK (List.map zL i.a.slots) i.n.toNat ((0:Nat)+(1:Nat)+2) [D.v (.int .i64 (IntKind.i64.wrap (n-i.qty)))]) n_6.toNat ((0:Nat)+(7:Nat)) [D.v (.int .i64 n_7)]) i.n.toNat ((0:Nat)+(6:Nat)) 1=some [D.v (.int .i64 n_9)]∧n_4.toNat<(zK (List.map zG i.a.queues) n_1.toNat ((0:Nat)+(2:Nat)) [D.v (.int .i64 (IntKind.i64.wrap (n_2-i.qty)))]).length∧∃(n_10:Int),zJ (zK (zK (List.map zG i.a.queues) n_1.toNat ((0:Nat)+(2:Nat)) [D.v (.int .i64 (IntKind.i64.wrap (n_2-i.qty)))]) n_4.toNat ((0:Nat)+(1:Nat)) [D.v (.int .i64 n_9)]) n_4.toNat ((0:Nat)+(3:Nat)) 1=some [D.v (.int .i64 n_10)]∧n_4.toNat<(zK (zK (List.map zG i.a.queues) n_1.toNat ((0:Nat)+(2:Nat)) [D.v (.int .i64 (IntKind.i64.wrap (n_2-i.qty)))]) n_4.toNat ((0:Nat)+(1:Nat)) [D.v (.int .i64 n_9)]).length∧i.n.toNat<(zK (zK (List.map zL i.a.slots) i.n.toNat ((0:Nat)+(1:Nat)+2) [D.v (.int .i64 (IntKind.i64.wrap (n-i.qty)))]) n_6.toNat ((0:Nat)+(7:Nat)) [D.v (.int .i64 n_7)]).length∧∃(o:Unit),(i.a.takeF i.n i.qty).snd=0∧(i.a.takeF i.n i.qty).fst.free=IntKind.i64.wrap (i.a.free+1)∧List.map zL (i.a.takeF i.n i.qty).fst.slots=zK (zK (zK (List.map zL i.a.slots) i.n.toNat ((0:Nat)+(1:Nat)+2) [D.v (.int .i64 (IntKind.i64.wrap (n-i.qty)))]) n_6.toNat ((0:Nat)+(7:Nat)) [D.v (.int .i64 n_7)]) i.n.toNat 0 [D.v (.bool false),D.v (.int .i64 0),D.v (.int .i64 0),D.v (.int .i64 0),D.v (.bool false),D.v (.int .i64 0),D.v (.int .i64 0),D.v (.int .i64 0)]∧List.map zG (i.a.takeF i.n i.qty).fst.queues=zK (zK (zK (List.map zG i.a.queues) n_1.toNat ((0:Nat)+(2:Nat)) [D.v (.int .i64 (IntKind.i64.wrap (n_2-i.qty)))]) n_4.toNat ((0:Nat)+(1:Nat)) [D.v (.int .i64 n_9)]) n_4.toNat ((0:Nat)+(3:Nat)) [D.v (.int .i64 (IntKind.i64.wrap (n_10-1)))]∧True) (∃(n_9:Int),zJ (zK (zK (List.map zL i.a.slots) i.n.toNat ((0:Nat)+(1:Nat)+2) [D.v (.int .i64 (IntKind.i64.wrap (n-i.qty)))]) n_6.toNat ((0:Nat)+(7:Nat)) [D.v (.int .i64 n_7)]) i.n.toNat ((0:Nat)+(7:Nat)) 1=some [D.v (.int .i64 n_9)]∧∃(n_10:Int),zJ (zK (zK (List.map zL i.a.slots) i.n.toNat ((0:Nat)+(1:Nat)+2) [D.v (.int .i64 (IntKind.i64.wrap (n-i.qty)))]) n_6.toNat ((0:Nat)+(7:Nat)) [D.v (.int .i64 n_7)]) i.n.toNat ((0:Nat)+(6:Nat)) 1=some [D.v (.int .i64 n_10)]∧(0≤n_9∧n_9<(↑(zK (zK (List.map zL i.a.slots) i.n.toNat ((0:Nat)+(1:Nat)+2) [D.v (.int .i64 (IntKind.i64.wrap (n-i.qty)))]) n_6.toNat ((0:Nat)+(7:Nat)) [D.v (.int .i64 n_7)]).length:Int))∧n_9.toNat<(zK (zK (List.map zL i.a.slots) i.n.toNat ((0:Nat)+(1:Nat)+2) [D.v (.int .i64 (IntKind.i64.wrap (n-i.qty)))]) n_6.toNat ((0:Nat)+(7:Nat)) [D.v (.int .i64 n_7)]).length∧∃(n_11:Int),zJ (zK (List.map zG i.a.queues) n_1.toNat ((0:Nat)+(2:Nat)) [D.v (.int .i64 (IntKind.i64.wrap (n_2-i.qty)))]) n_4.toNat ((0:Nat)+(3:Nat)) 1=some [D.v (.int .i64 n_11)]∧n_4.toNat<(zK (List.map zG i.a.queues) n_1.toNat ((0:Nat)+(2:Nat)) [D.v (.int .i64 (IntKind.i64.wrap (n_2-i.qty)))]).length∧i.n.toNat<(zK (zK (zK (List.map zL i.a.slots) i.n.toNat ((0:Nat)+(1:Nat)+2) [D.v (.int .i64 (IntKind.i64.wrap (n-i.qty)))]) n_6.toNat ((0:Nat)+(7:Nat)) [D.v (.int .i64 n_7)]) n_9.toNat ((0:Nat)+(6:Nat)) [D.v (.int .i64 n_10)]).length∧∃(o:Unit),(i.a.takeF i.n i.qty).snd=0∧(i.a.takeF i.n i.qty).fst.free=IntKind.i64.wrap (i.a.free+1)∧List.map zL (i.a.takeF i.n i.qty).fst.slots=zK (zK (zK (zK (List.map zL i.a.slots) i.n.toNat ((0:Nat)+(1:Nat)+2) [D.v (.int .i64 (IntKind.i64.wrap (n-i.qty)))]) n_6.toNat ((0:Nat)+(7:Nat)) [D.v (.int .i64 n_7)]) n_9.toNat ((0:Nat)+(6:Nat)) [D.v (.int .i64 n_10)]) i.n.toNat 0 [D.v (.bool false),D.v (.int .i64 0),D.v (.int .i64 0),D.v (.int .i64 0),D.v (.bool false),D.v (.int .i64 0),D.v (.int .i64 0),D.v (.int .i64 0)]∧List.map zG (i.a.takeF i.n i.qty).fst.queues=zK (zK (List.map zG i.a.queues) n_1.toNat ((0:Nat)+(2:Nat)) [D.v (.int .i64 (IntKind.i64.wrap (n_2-i.qty)))]) n_4.toNat ((0:Nat)+(3:Nat)) [D.v (.int .i64 (IntKind.i64.wrap (n_11-1)))]∧True))) (∃(o:Unit),(i.a.takeF i.n i.qty).snd=0∧(i.a.takeF i.n i.qty).fst.free=i.a.free∧List.map zL (i.a.takeF i.n i.qty).fst.slots=zK (List.map zL i.a.slots) i.n.toNat ((0:Nat)+(1:Nat)+2) [D.v (.int .i64 (IntKind.i64.wrap (n-i.qty)))]∧List.map zG (i.a.takeF i.n i.qty).fst.queues=zK (List.map zG i.a.queues) n_1.toNat ((0:Nat)+(2:Nat)) [D.v (.int .i64 (IntKind.i64.wrap (n_2-i.qty)))]∧True))))))
theorem z0e (hG:GOk Tryz.prog ([])) (h:∀(i:TkI),atakeC.cnd i→zIi i):atakeC.ok Tryz.prog 112:=okw mixed hG 1 (fun _=>[]) (fun _=>[]) [0] Tryz.func112 h
open Go Cv Go.Proofs
theorem pP {a:Arena} {n:Int} (h:n<0∨(a.slots.length:Int)≤n):a.usedAt n=false:=by
 rcases h with h|h
 ·rw[Arena.usedAt,decide_eq_false (by omega),Bool.false_and]
 ·rw[Arena.usedAt,decide_eq_false (show ¬n<(a.slots.length:Int)by omega),Bool.false_and,Bool.and_false]
theorem zLc {a:Arena} {n:Int} {s:Slot} (h0:0≤n) (hs:a.slots[n.toNat]? =some s):a.usedAt n=s.used:=by
 have hl:=(List.getElem?_eq_some_iff.1 hs).1
 rw[Arena.usedAt,decide_eq_true h0,decide_eq_true (show n<(a.slots.length:Int)by omega),zP hs];simp
theorem yX {a:Arena} {k:Nat} {s:Slot} (hs:a.slots[k]? =some s):a.slotAt k=s:=zP hs
theorem z9b (i:ArN) (h:agetC.cnd i):zTr i:=by
 have h:i.a.slots.length≤1000000:=h
 unfold zTr pQ
 simp only[List.length_map]
 have no (e:i.a.usedAt i.n=false):i.a.getF i.n=(z7z,false):=by rw[Arena.getF,if_neg (by rw[e];decide)]
 refine zS (fun c=> ?_) (fun c=>zS (fun d=> ?_) (fun d=> ?_))
 ·rw[no (pP (.inl c))];(repeat'(first|exact rfl|exact trivial|assumption|apply And.intro|refine fun(_:Unit) (_:True)=>?_|refine Exists.intro () ?_|omega|(dsimp only;omega)))
 ·rw[no (pP (.inr (by omega)))];(repeat'(first|exact rfl|exact trivial|assumption|apply And.intro|refine fun(_:Unit) (_:True)=>?_|refine Exists.intro () ?_|omega|(dsimp only;omega)))
 ·obtain⟨s,hs⟩:=z9 (l:=i.a.slots) (i:=i.n.toNat) (by omega)
  have eu:=zLc (a:=i.a) (n:=i.n) (by omega) hs
  refine⟨⟨by omega,by omega⟩,s.used,elA hs (by simp[zL]) rfl,Cv.cnd.mk (fun u=> ?_) (fun u=> ?_)⟩
  ·rw[no (by rw[eu];simpa using u)];(repeat'(first|exact rfl|exact trivial|assumption|apply And.intro|refine fun(_:Unit) (_:True)=>?_|refine Exists.intro () ?_|omega|(dsimp only;omega)))
  ·have e:i.a.usedAt i.n=true:=by rw[eu];simpa using u
   have et:i.a.getF i.n=(s.ent,true):=by rw[Arena.getF,if_pos e,yX hs]
   rw[et]
   refine⟨⟨by omega,by omega⟩,s.n,s.id,s.qty,s.top,elA hs (by simp[zL]) rfl,?_⟩
   (repeat'(first|exact rfl|exact trivial|assumption|apply And.intro|refine fun(_:Unit) (_:True)=>?_|refine Exists.intro () ?_|omega|(dsimp only;omega)))
theorem zMd:agetC.ok Tryz.prog 111:=z2m gok0 z9b
theorem zAo:∀{sl:List Slot} {at_:Int} {l:List Nat},zEa sl at_ l→g9 l 0=at_∧∀j k,l[j]? =some k→k<sl.length∧g9 l (j+1)=(sl.getD k slot0).back
 |sl,at_,[],h=>⟨h.symm,fun j k hk=>by simp at hk⟩
 |sl,at_,x::l,h=>by
  obtain⟨h1,h2,h3⟩:=h
  have ih:=zAo h3
  refine⟨h1.symm,fun j k hk=> ?_⟩
  cases j with
  |zero=>
   simp at hk;subst hk
   exact⟨h2,by rw[← ih.1];rfl⟩
  |succ j=>
   rw[List.getElem?_cons_succ]at hk
   obtain⟨a,b⟩:=ih.2 j k hk
   exact⟨a,by rw[← b];rfl⟩
theorem z4d (i:ArL) (h:alistC.cnd i):zKb i:=by
 obtain⟨hl,h⟩:i.l.length≤1000000∧(if 0≤i.n∧i.n<i.a.queues.length then zEa i.a.slots (i.a.queues.getD i.n.toNat vH).first i.l else i.l=[]):=⟨h.len,h.ch⟩
 unfold zKb
 simp only[List.length_map]
 have out (e:¬(0≤i.n∧i.n<(i.a.queues.length:Int))):i.l=[]:=by rw[if_neg e]at h;exact h
 refine zS (fun c=>Cv.cnd.mk (fun d=> ?_) (fun d=> ?_)) (fun c=> ?_)
 ·have d:¬i.n<(i.a.queues.length:Int):=by simpa using d
  rw[out (by omega)];(repeat'(first|exact rfl|exact trivial|assumption|apply And.intro|refine fun(_:Unit) (_:True)=>?_|refine Exists.intro () ?_|omega|(dsimp only;omega)))
 ·have d:i.n<(i.a.queues.length:Int):=by simpa using d
  rw[if_pos ⟨by omega,d⟩]at h
  obtain⟨q,hq⟩:=z9 (l:=i.a.queues) (i:=i.n.toNat) (by omega)
  rw[zP hq]at h
  obtain⟨n0,nx⟩:=zAo h
  refine⟨⟨by omega,by omega⟩,q.first,elA hq (by simp[zG]) rfl,0,n0,rfl,fun j=>j≤i.l.length,fun j=>i.l.length-j,Nat.zero_le _,fun j hj=>Cv.cnd.mk (fun e=> ?_) (fun e=> ?_)⟩
  ·have e:g9 i.l j≠-1:=by simpa using e
   obtain⟨k,hk⟩:∃k,i.l[j]? =some k:=by
    cases hk:i.l[j]? with
    |none=>rw[g9,hk]at e;exact absurd rfl e
    |some k=>exact⟨k,rfl⟩
   have hjl:=(List.getElem?_eq_some_iff.1 hk).1
   obtain⟨hkl,hnx⟩:=nx j k hk
   have en:g9 i.l j=k:=by rw[g9,hk]
   obtain⟨s,hs⟩:=z9 (l:=i.a.slots) (i:=k) hkl
   rw[en,Int.toNat_natCast]
   refine⟨⟨by omega,by omega⟩,s.n,s.id,s.qty,s.top,elA hs (by simp[zL]) rfl,?_,⟨by omega,by omega⟩,s.back,elA hs (by simp[zL]) rfl,j+1,by rw[hnx,zP hs],?_,hjl,by dsimp only;omega,by(repeat'(first|exact trivial|exact rfl|apply And.intro))⟩
   ·simp only[Arena.ents,List.length_map,List.length_take];omega
   ·rw[List.take_add_one,hk]
    simp only[Arena.ents,Option.toList,List.map_append,List.map_cons,List.map_nil,yX hs]
    rfl
  ·have e:g9 i.l j= -1:=by simpa using e
   have hj':i.l.length≤j:=by
    apply Classical.byContradiction
    intro hn
    obtain⟨k,hk⟩:=z9 (l:=i.l) (i:=j) (by omega)
    rw[g9,hk]at e
    simp only at e;omega
   rw[List.take_of_length_le hj']
   (repeat'(first|exact rfl|exact trivial|assumption|apply And.intro|refine fun(_:Unit) (_:True)=>?_|refine Exists.intro () ?_|omega|(dsimp only;omega)))
 ·rw[out (by omega)];(repeat'(first|exact rfl|exact trivial|assumption|apply And.intro|refine fun(_:Unit) (_:True)=>?_|refine Exists.intro () ?_|omega|(dsimp only;omega)))
theorem zSw:alistC.ok Tryz.prog 130:=zXc gok0 z4d
theorem zIw {α:Type} {l:List α} {i k:Nat} {x y:α} (h:i≠k) (hk:l[k]? =some x):(l.set i y)[k]? =some x:=by
 rw[List.getElem?_set_ne h];exact hk
theorem z5v (i:TkI) (h:atakeC.cnd i):zIi i:=by
 obtain⟨hl,hok⟩:i.a.okAt:=h
 unfold zIi aR
 simp only[List.length_map]
 have no (e:i.a.usedAt i.n=false):i.a.takeF i.n i.qty=(i.a,26):=by rw[Arena.takeF,if_pos e]
 refine zS (fun c=> ?_) (fun c=>zS (fun d=> ?_) (fun d=> ?_))
 ·rw[no (pP (.inl c))];(repeat'(first|exact rfl|exact trivial|assumption|apply And.intro|refine fun(_:Unit) (_:True)=>?_|refine Exists.intro () ?_|omega|(dsimp only;omega)))
 ·rw[no (pP (.inr (by omega)))];(repeat'(first|exact rfl|exact trivial|assumption|apply And.intro|refine fun(_:Unit) (_:True)=>?_|refine Exists.intro () ?_|omega|(dsimp only;omega)))
 obtain⟨k,hk⟩:∃k,k=i.n.toNat:=⟨_,rfl⟩
 rw[← hk]
 obtain⟨s,hs⟩:=z9 (l:=i.a.slots) (i:=k) (by omega)
 have hs':i.a.slots[i.n.toNat]? =some s:=by rw[← hk];exact hs
 have eu:=zLc (a:=i.a) (n:=i.n) (by omega) hs'
 refine⟨⟨by omega,by omega⟩,s.used,elA hs (by simp[zL]) rfl,Cv.cnd.mk (fun u=> ?_) (fun u=> ?_)⟩
 ·rw[no (by rw[eu];simpa using u)];(repeat'(first|exact rfl|exact trivial|assumption|apply And.intro|refine fun(_:Unit) (_:True)=>?_|refine Exists.intro () ?_|omega|(dsimp only;omega)))
 have u:s.used=true:=by simpa using u
 have e:¬i.a.usedAt i.n=false:=by rw[eu,u];decide
 obtain⟨⟨q0,q1⟩,sq,sa,sb⟩:=hok k s hs u
 have esl:i.a.slotAt i.n.toNat=s:=yX hs'
 have bad (hq:i.qty<1∨s.qty<i.qty):i.a.takeF i.n i.qty=(i.a,24):=by rw[Arena.takeF,if_neg e,esl,if_pos hq]
 refine⟨⟨by omega,by omega⟩,zS (fun c1=>by rw[bad (.inl c1)];(repeat'(first|exact rfl|exact trivial|assumption|apply And.intro|refine fun(_:Unit) (_:True)=>?_|refine Exists.intro () ?_|omega|(dsimp only;omega)))) (fun c1=>⟨s.qty,elA hs (by simp[zL]) rfl,zS (fun c2=>by rw[bad (.inr (by omega))];(repeat'(first|exact rfl|exact trivial|assumption|apply And.intro|refine fun(_:Unit) (_:True)=>?_|refine Exists.intro () ?_|omega|(dsimp only;omega)))) (fun c2=>⟨s.qty,elA hs (by simp[zL]) rfl,by omega,?_⟩)⟩)⟩
 obtain⟨q,hq⟩:=z9 (l:=i.a.queues) (i:=s.queue.toNat) (by omega)
 have hs1:(i.a.slots.set k {s with qty:=s.qty-i.qty})[k]? =some {s with qty:=s.qty-i.qty}:=k9 hs
 have hq1:(i.a.queues.set s.queue.toNat {q with total:=IntKind.i64.wrap (q.total-i.qty)})[s.queue.toNat]? =some {q with total:=IntKind.i64.wrap (q.total-i.qty)}:=k9 hq
 have hle:i.a.less i.n.toNat i.qty=⟨i.a.slots.set k {s with qty:=s.qty-i.qty},i.a.queues.set s.queue.toNat {q with total:=IntKind.i64.wrap (q.total-i.qty)},i.a.free⟩:=by
  rw[Arena.less,esl,wJ hs',wJ hq,hk]
 have hL:(i.a.slots.set k {s with qty:=s.qty-i.qty}).length=i.a.slots.length:=List.length_set
 have hQ:(i.a.queues.set s.queue.toNat {q with total:=IntKind.i64.wrap (q.total-i.qty)}).length=i.a.queues.length:=List.length_set
 have tk:i.a.takeF i.n i.qty=if s.qty=i.qty then((i.a.less i.n.toNat i.qty).dropF i.n.toNat,0)else(i.a.less i.n.toNat i.qty,0):=by rw[Arena.takeF,if_neg e,esl,if_neg (by omega)]
 rw[hle,← hk]at tk
 rw[w64 (x:=s.qty-i.qty) (by omega),yA hs (y:={s with qty:=s.qty-i.qty}) rfl]
 refine⟨s.queue,elA hs1 (by simp[zL]) rfl,⟨q0,q1⟩,q.total,elA hq (by simp[zG]) rfl,⟨q0,q1⟩,by omega,s.qty-i.qty,elA hs1 (by simp[zL]) rfl,?_⟩
 rw[yA hq (y:={q with total:=IntKind.i64.wrap (q.total-i.qty)}) rfl]
 simp only[List.length_map]
 generalize hL1:i.a.slots.set k {s with qty:=s.qty-i.qty}=L1 at*
 generalize hQ1:i.a.queues.set s.queue.toNat {q with total:=IntKind.i64.wrap (q.total-i.qty)}=Q1 at*
 refine Cv.cnd.mk (fun z=> ?_) (fun z=> ?_)
 ·have z:s.qty=i.qty:=by have:s.qty-i.qty=0:=by simpa using z
                         omega
  rw[if_pos z]at tk
  have esl1:(⟨L1,Q1,i.a.free⟩:Arena).slotAt k={s with qty:=s.qty-i.qty}:=yX hs1
  have eq1:Q1.getD s.queue.toNat vH={q with total:=IntKind.i64.wrap (q.total-i.qty)}:=zP hq1
  rw[Arena.dropF,esl1]at tk
  dsimp only at tk
  rw[eq1]at tk
  dsimp only at tk
  rw[tk]
  refine⟨s.queue,elA hs1 (by simp[zL]) rfl,⟨q0,by omega⟩,s.ahead,elA hs1 (by simp[zL]) rfl,Cv.cnd.mk (fun ea=> ?_) (fun ea=> ?_)⟩
  ·have ea:s.ahead= -1:=by simpa using ea
   refine⟨s.back,elA hs1 (by simp[zL]) rfl,by omega,s.back,elA hs1 (by simp[zL]) rfl,?_⟩
   rw[yA hq1 (y:=⟨s.back,q.last,IntKind.i64.wrap (q.total-i.qty),q.count⟩) rfl]
   have hq2:(Q1.set s.queue.toNat ⟨s.back,q.last,IntKind.i64.wrap (q.total-i.qty),q.count⟩)[s.queue.toNat]? =some ⟨s.back,q.last,IntKind.i64.wrap (q.total-i.qty),q.count⟩:=k9 hq1
   simp only[List.length_map,List.length_set]
   refine Cv.cnd.mk (fun eb=> ?_) (fun eb=> ?_)
   ·have eb:s.back= -1:=by simpa using eb
    refine⟨s.ahead,elA hs1 (by simp[zL]) rfl,by omega,q.count,?_,?_⟩
    ·rw[yA hq2 (y:=⟨s.back,s.ahead,IntKind.i64.wrap (q.total-i.qty),q.count⟩) rfl]
     exact elA (k9 hq2) (by simp[zG]) rfl
    rw[yA hq2 (y:=⟨s.back,s.ahead,IntKind.i64.wrap (q.total-i.qty),q.count⟩) rfl,yA (k9 hq2) (y:=⟨s.back,s.ahead,IntKind.i64.wrap (q.total-i.qty),IntKind.i64.wrap (q.count-1)⟩) rfl,yA hs1 (y:=slot0) rfl]
    simp only[List.length_map,List.length_set,List.set_set,if_pos ea,if_pos eb]
    refine⟨by omega,by omega,(),by(first|exact rfl|exact trivial),by(first|exact rfl|exact trivial),by(first|exact rfl|exact trivial),by(first|exact rfl|exact trivial),trivial⟩
   ·have eb:s.back≠-1:=by simpa using eb
    obtain⟨b0,b1,b2⟩:0≤s.back∧s.back<i.a.slots.length∧s.back≠k:=by omega
    obtain⟨x,hx⟩:=z9 (l:=L1) (i:=s.back.toNat) (by omega)
    refine⟨s.back,elA hs1 (by simp[zL]) rfl,s.ahead,elA hs1 (by simp[zL]) rfl,⟨b0,by omega⟩,by omega,q.count,elA hq2 (by simp[zG]) rfl,?_⟩
    rw[yA hx (y:={x with ahead:=s.ahead}) rfl,yA hq2 (y:=⟨s.back,q.last,IntKind.i64.wrap (q.total-i.qty),IntKind.i64.wrap (q.count-1)⟩) rfl,yA (zIw (by omega) hs1) (y:=slot0) rfl]
    simp only[List.length_map,List.length_set,List.set_set,if_pos ea,if_neg eb,wJ hx]
    refine⟨by omega,by omega,(),by(first|exact rfl|exact trivial),by(first|exact rfl|exact trivial),by(first|exact rfl|exact trivial),by(first|exact rfl|exact trivial),trivial⟩
  ·have ea:s.ahead≠-1:=by simpa using ea
   obtain⟨a0,a1,a2⟩:0≤s.ahead∧s.ahead<i.a.slots.length∧s.ahead≠k:=by omega
   obtain⟨x,hx⟩:=z9 (l:=L1) (i:=s.ahead.toNat) (by omega)
   have hs2:(L1.set s.ahead.toNat {x with back:=s.back})[k]? =some {s with qty:=s.qty-i.qty}:=zIw (by omega) hs1
   refine⟨s.ahead,elA hs1 (by simp[zL]) rfl,s.back,elA hs1 (by simp[zL]) rfl,⟨a0,by omega⟩,by omega,s.back,?_,?_⟩
   ·rw[yA hx (y:={x with back:=s.back}) rfl]
    exact elA hs2 (by simp[zL]) rfl
   rw[yA hx (y:={x with back:=s.back}) rfl]
   simp only[List.length_map,List.length_set]
   refine Cv.cnd.mk (fun eb=> ?_) (fun eb=> ?_)
   ·have eb:s.back= -1:=by simpa using eb
    refine⟨s.ahead,elA hs2 (by simp[zL]) rfl,by omega,q.count,?_,?_⟩
    ·rw[yA hq1 (y:=⟨q.first,s.ahead,IntKind.i64.wrap (q.total-i.qty),q.count⟩) rfl]
     exact elA (k9 hq1) (by simp[zG]) rfl
    rw[yA hq1 (y:=⟨q.first,s.ahead,IntKind.i64.wrap (q.total-i.qty),q.count⟩) rfl,yA (k9 hq1) (y:=⟨q.first,s.ahead,IntKind.i64.wrap (q.total-i.qty),IntKind.i64.wrap (q.count-1)⟩) rfl,yA hs2 (y:=slot0) rfl]
    simp only[List.length_map,List.length_set,List.set_set,if_neg ea,if_pos eb,wJ hx]
    refine⟨by omega,by omega,(),by(first|exact rfl|exact trivial),by(first|exact rfl|exact trivial),by(first|exact rfl|exact trivial),by(first|exact rfl|exact trivial),trivial⟩
   ·have eb:s.back≠-1:=by simpa using eb
    obtain⟨b0,b1,b2⟩:0≤s.back∧s.back<i.a.slots.length∧s.back≠k:=by omega
    obtain⟨y,hy⟩:=z9 (l:=L1.set s.ahead.toNat {x with back:=s.back}) (i:=s.back.toNat) (by rw[List.length_set];omega)
    refine⟨s.back,elA hs2 (by simp[zL]) rfl,s.ahead,elA hs2 (by simp[zL]) rfl,⟨b0,by omega⟩,by omega,q.count,elA hq1 (by simp[zG]) rfl,?_⟩
    rw[yA hy (y:={y with ahead:=s.ahead}) rfl,yA hq1 (y:=⟨q.first,q.last,IntKind.i64.wrap (q.total-i.qty),IntKind.i64.wrap (q.count-1)⟩) rfl,yA (zIw (by omega) hs2) (y:=slot0) rfl]
    simp only[List.length_map,List.length_set,List.set_set,if_neg ea,if_neg eb,wJ hx,wJ hy]
    refine⟨by omega,by omega,(),by(first|exact rfl|exact trivial),by(first|exact rfl|exact trivial),by(first|exact rfl|exact trivial),by(first|exact rfl|exact trivial),trivial⟩
 ·have z:¬s.qty=i.qty:=by have:¬s.qty-i.qty=0:=by simpa using z
                          omega
  rw[if_neg z]at tk
  rw[tk]
  exact⟨(),rfl,rfl,rfl,rfl,trivial⟩
theorem zVt:atakeC.ok Tryz.prog 112:=z0e gok0 z5v
open Go Cv Go.Proofs
structure PlI where
 l:List Int
 least:Int
 q:Int
def zHl (l:List Int) (least q:Int):List Int:=l.map fun k=>if least≤k*q / l.sum then k*q / l.sum else 0
def qT:List (Int×Int)→Int→List Int
 |[],_=>[]
 |(n,x)::r,q=>(x+min (n-x) q)::qT r (q-min (n-x) q)
def PlI.p0 (i:PlI):List Int:=zHl i.l i.least i.q
def PlI.p1 (i:PlI):List Int:=qT (i.l.zip i.p0) (i.q-i.p0.sum)
def x0 (i:PlI):List Int:=if yE i.l i.q=true∧1≤i.least then i.p1 else[]
def plainC:Con:=con1 PlI (fun i=>[iV i.l,zE i.least,zE i.q]) (fun _=>[]) (fun i=>i.l.length≤1000000∧yI i.q∧yI i.least) (fun _=> .own 0) (fun i=>[.own 2 1 (iE (x0 i))])
def z2l (i:PlI):List SAnn:=[
 {ι:=Nat,slots:=fun j=>[(9,.own 0),(36,zE j)],rows:=fun j=>[.own 2 1 (iE (i.p0.take j++List.replicate (i.l.length-j) 0))]},
 {ι:=Nat,slots:=fun j=>[(2,zE (i.q-(i.p0.take j).sum)),(58,zE j)],rows:=fun _=>[]},
 {ι:=Nat,slots:=fun j=>[(9,.own 0),(2,zE (i.q-i.p0.sum+(i.p0.take j).sum-(i.p1.take j).sum)),(68,zE j)],rows:=fun j=>[.own 2 1 (iE (i.p1.take j++i.p0.drop j))]}]
open Go Cv Go.Proofs
def zJx (i:PlI):Prop:=
 ∃(i_1:LqI),iE i_1.l=iE i.l∧i_1.q=i.q∧(i_1.l.length≤(1000000:Nat)∧(-9223372036854775808:Int)≤i_1.q∧i_1.q≤9223372036854775807)∧∀(o:Unit),True→cnd (!yE i_1.l i_1.q) (∃(o:Unit),iE (x0 i)=[]∧True) (cnd (decide (i.least<1)) (∃(o:Unit),iE (x0 i)=[]∧True) (∃(i_2:List Int),iE i_2=iE i.l∧(i_2.length≤1000∧∀(x:Int),x∈i_2→0≤x∧x≤1000000)∧∀(o:Unit),True→(0≤(↑(iE i.l).length:Int)∧(↑(iE i.l).length:Int)≤(↑(iE i.l).length:Int)∧(↑(iE i.l).length:Int)≤9223372036854775807∧(↑(8:Nat):Int)*(↑(iE i.l).length:Int)≤2 ^ (48:Nat))∧∃(i0:Nat),(↑i0:Int)=0∧iE (List.take i0 i.p0++List.replicate (i.l.length-i0) 0)=List.replicate (↑(iE i.l).length:Int).toNat [D.v (.int .i64 0)]∧∃(I:Nat→Prop),∃(μ:Nat→Nat),I i0∧∀(i_3:Nat),I i_3→cnd (decide ((↑i_3:Int)<(↑(iE i.l).length:Int))) ((0≤(↑i_3:Int)∧(↑i_3:Int)<(↑(iE i.l).length:Int))∧∃(n:Int),zJ (iE i.l) (↑i_3:Int).toNat 0 1=some [D.v (.int .i64 n)]∧∃(i_4:ShI),i_4.a=n∧i_4.b=i.q∧i_4.c=i_2.sum∧(0≤i_4.a∧i_4.a≤(2000000000:Int)∧(0:Int)≤i_4.b∧i_4.b≤(2000000000:Int)∧(1:Int)≤i_4.c∧i_4.c≤2000000000)∧∀(o:Unit),True→cnd (decide (i_4.a*i_4.b / i_4.c≥i.least)) ((0≤(↑i_3:Int)∧(↑i_3:Int)<(↑(iE (List.take i_3 i.p0++List.replicate (i.l.length-i_3) 0)).length:Int))∧(↑i_3:Int).toNat<(iE (List.take i_3 i.p0++List.replicate (i.l.length-i_3) 0)).length∧∃(i':Nat),(↑i':Int)=IntKind.i64.wrap ((↑i_3:Int)+1)∧iE (List.take i' i.p0++List.replicate (i.l.length-i') 0)=zK (iE (List.take i_3 i.p0++List.replicate (i.l.length-i_3) 0)) (↑i_3:Int).toNat 0 [D.v (.int .i64 (i_4.a*i_4.b / i_4.c))]∧I i'∧μ i'<μ i_3∧True) (∃(i':Nat),(↑i':Int)=IntKind.i64.wrap ((↑i_3:Int)+1)∧iE (List.take i' i.p0++List.replicate (i.l.length-i') 0)=iE (List.take i_3 i.p0++List.replicate (i.l.length-i_3) 0)∧I i'∧μ i'<μ i_3∧True)) (∃(i0:Nat),i.q-(List.take i0 i.p0).sum=i.q∧(↑i0:Int)=0∧∃(I:Nat→Prop),∃(μ:Nat→Nat),I i0∧∀(i_4:Nat),I i_4→cnd (decide ((↑i_4:Int)<(↑(iE (List.take i_3 i.p0++List.replicate (i.l.length-i_3) 0)).length:Int))) ((0≤(↑i_4:Int)∧(↑i_4:Int)<(↑(iE (List.take i_3 i.p0++List.replicate (i.l.length-i_3) 0)).length:Int))∧∃(n:Int),zJ (iE (List.take i_3 i.p0++List.replicate (i.l.length-i_3) 0)) (↑i_4:Int).toNat 0 1=some [D.v (.int .i64 n)]∧∃(i':Nat),i.q-(List.take i' i.p0).sum=IntKind.i64.wrap (i.q-(List.take i_4 i.p0).sum-n)∧(↑i':Int)=IntKind.i64.wrap ((↑i_4:Int)+1)∧I i'∧μ i'<μ i_4∧AObj.own 2 1 (iE (List.take i_3 i.p0++List.replicate (i.l.length-i_3) 0))=AObj.own 2 1 (iE (List.take i_3 i.p0++List.replicate (i.l.length-i_3) 0))) (∃(i0:Nat),i.q-i.p0.sum+(List.take i0 i.p0).sum-(List.take i0 i.p1).sum=i.q-(List.take i_4 i.p0).sum∧(↑i0:Int)=0∧iE (List.take i0 i.p1++List.drop i0 i.p0)=iE (List.take i_3 i.p0++List.replicate (i.l.length-i_3) 0)∧∃(I:Nat→Prop),∃(μ:Nat→Nat),I i0∧∀(i_5:Nat),I i_5→cnd (decide ((↑i_5:Int)<(↑(iE (List.take i_3 i.p0++List.replicate (i.l.length-i_3) 0)).length:Int))) ((0≤(↑i_5:Int)∧(↑i_5:Int)<(↑(iE i.l).length:Int))∧∃(n:Int),zJ (iE i.l) (↑i_5:Int).toNat 0 1=some [D.v (.int .i64 n)]∧(0≤(↑i_5:Int)∧(↑i_5:Int)<(↑(iE (List.take i_5 i.p1++List.drop i_5 i.p0)).length:Int))∧∃(n_1:Int),zJ (iE (List.take i_5 i.p1++List.drop i_5 i.p0)) (↑i_5:Int).toNat 0 1=some [D.v (.int .i64 n_1)]∧(0≤(↑i_5:Int)∧(↑i_5:Int)<(↑(iE (List.take i_5 i.p1++List.drop i_5 i.p0)).length:Int))∧∃(n_2:Int),zJ (iE (List.take i_5 i.p1++List.drop i_5 i.p0)) (↑i_5:Int).toNat 0 1=some [D.v (.int .i64 n_2)]∧(0≤(↑i_5:Int)∧(↑i_5:Int)<(↑(iE (List.take i_5 i.p1++List.drop i_5 i.p0)).length:Int))∧(↑i_5:Int).toNat<(iE (List.take i_5 i.p1++List.drop i_5 i.p0)).length∧∃(i':Nat),i.q-i.p0.sum+(List.take i' i.p0).sum-(List.take i' i.p1).sum=IntKind.i64.wrap (i.q-i.p0.sum+(List.take i_5 i.p0).sum-(List.take i_5 i.p1).sum-min (IntKind.i64.wrap (n-n_1)) (i.q-i.p0.sum+(List.take i_5 i.p0).sum-(List.take i_5 i.p1).sum))∧(↑i':Int)=IntKind.i64.wrap ((↑i_5:Int)+1)∧iE (List.take i' i.p1++List.drop i' i.p0)=zK (iE (List.take i_5 i.p1++List.drop i_5 i.p0)) (↑i_5:Int).toNat 0 [D.v (.int .i64 (IntKind.i64.wrap (n_2+min (IntKind.i64.wrap (n-n_1)) (i.q-i.p0.sum+(List.take i_5 i.p0).sum-(List.take i_5 i.p1).sum))))]∧I i'∧μ i'<μ i_5∧True) (∃(o:Unit),iE (x0 i)=iE (List.take i_5 i.p1++List.drop i_5 i.p0)∧True)))))
theorem zXm (hG:GOk Tryz.prog ([(131,rightC),(156,isumC),(133,ishareC)])) (h:∀(i:PlI),plainC.cnd i→zJx i):plainC.ok Tryz.prog 144:=okw mixed hG 0 (fun _=>[]) (fun i=>z2l i) [] Tryz.func144 h
open Go Cv Go.Proofs
theorem cK:∀(z:List (Int×Int)) (q:Int),(qT z q).length=z.length
 |[],_=>rfl
 |(n,x)::z,q=>by rw[qT,List.length_cons,List.length_cons,cK z]
theorem pW:∀(z:List (Int×Int)) (q:Int) (j:Nat) (n x:Int),z[j]? =some (n,x)→(qT z q)[j]? =some (x+min (n-x) (q+((z.map (·.2)).take j).sum-((qT z q).take j).sum))
 |[],_,_,_,_,h=>by simp at h
 |(m,y)::z,q,0,n,x,h=>by simp at h;obtain⟨rfl,rfl⟩:=h;simp[qT]
 |(m,y)::z,q,j+1,n,x,h=>by
  rw[List.getElem?_cons_succ]at h
  rw[qT,List.getElem?_cons_succ,pW z _ j n x h,List.take_succ_cons,List.sum_cons,List.map_cons,List.take_succ_cons,List.sum_cons]
  congr 3;dsimp only;omega
theorem m5:∀(z:List (Int×Int)) (q:Int) (j:Nat),0≤q→(∀y∈z,y.2≤y.1)→0≤q+((z.map (·.2)).take j).sum-((qT z q).take j).sum∧q+((z.map (·.2)).take j).sum-((qT z q).take j).sum≤q
 |[],q,j,h,_=>by simp[qT,h]
 |(m,y)::z,q,0,h,_=>by simp[h]
 |(m,y)::z,q,j+1,h,hb=>by
  have hm:=hb (m,y) List.mem_cons_self
  have:=m5 z (q-min (m-y) q) j (by dsimp only at hm;omega) (fun x hx=>hb x (List.mem_cons_of_mem _ hx))
  rw[qT,List.take_succ_cons,List.sum_cons,List.map_cons,List.take_succ_cons,List.sum_cons]
  dsimp only at hm ⊢
  omega
theorem zSl {k q S:Int} (hk:0≤k) (hq:0≤q) (hS:1≤S) (hqS:q≤S):0≤k*q / S∧k*q / S≤k:=by
 refine⟨Int.ediv_nonneg (Int.mul_nonneg hk hq) (by omega),?_⟩
 have:k*q≤k*S:=Int.mul_le_mul_of_nonneg_left hqS hk
 exact Int.ediv_le_of_le_mul (by omega) this
theorem zAd {q S least:Int} (hq:0≤q) (hS:1≤S):∀(l:List Int),(∀x∈l,0≤x)→S*(l.map fun k=>if least≤k*q / S then k*q / S else 0).sum≤q*l.sum
 |[],_=>by simp
 |k::l,h=>by
  have ih:=zAd (least:=least) hq hS l (fun x hx=>h x (List.mem_cons_of_mem _ hx))
  have hk:=h k List.mem_cons_self
  rw[List.map_cons,List.sum_cons,List.sum_cons,Int.mul_add,Int.mul_add]
  have h1:S*(k*q / S)≤k*q:=by
   have:=Int.mul_ediv_add_emod (k*q) S
   have:=Int.emod_nonneg (k*q) (show S≠0 by omega)
   omega
  have h2:0≤k*q:=Int.mul_nonneg hk hq
  have h3:S*(if least≤k*q / S then k*q / S else 0)≤q*k:=by
   rw[Int.mul_comm q k]
   split
   ·exact h1
   ·simpa using h2
  omega
theorem zSd {i:PlI} {j:Nat} {n:Int} (h:i.l[j]? =some n):i.p0[j]? =some (if i.least≤n*i.q / i.l.sum then n*i.q / i.l.sum else 0):=by
 rw[PlI.p0,zHl,List.getElem?_map,h];rfl
theorem zIl (i:PlI):i.p0.length=i.l.length:=by simp[PlI.p0,zHl]
theorem zMf {l:List Int} {j m:Nat} {n:Int} (hl:l.length=m) (h:l[j]? =some n):(l.take j++List.replicate (m-j) 0).set j n=l.take (j+1)++List.replicate (m-(j+1)) 0:=by
 have hj:=(List.getElem?_eq_some_iff.1 h).1
 rw[List.set_append_right _ _ (by rw[List.length_take];omega),List.length_take,show j-min j l.length=0 by omega,show m-j=(m-(j+1))+1 by omega,List.replicate_succ,List.set_cons_zero,List.take_add_one,h]
 simp
theorem zSb {l:List Int} {j m:Nat} (hl:l.length=m) (hj:j<m):(l.take j++List.replicate (m-j) 0)[j]? =some 0:=by
 rw[List.getElem?_append_right (by rw[List.length_take];omega),List.length_take,show j-min j l.length=0 by omega,show m-j=(m-(j+1))+1 by omega,List.replicate_succ];rfl
theorem zWk {α:Type} {l:List α} {j:Nat} {x:α} (h:l[j]? =some x):l.set j x=l:=by
 obtain⟨h1,h2⟩:=List.getElem?_eq_some_iff.1 h
 rw[← h2];exact List.set_getElem_self h1
theorem z3z {a b:List Int} {j:Nat} {x:Int} (ha:a.length=b.length) (h:b[j]? =some x):(a.take j++b.drop j)[j]? =some x:=by
 have hj:=(List.getElem?_eq_some_iff.1 h).1
 rw[List.getElem?_append_right (by rw[List.length_take];omega),List.length_take,show j-min j a.length=0 by omega,List.getElem?_drop]
 exact h
theorem zYe {a b:List Int} {j:Nat} {y:Int} (ha:a.length=b.length) (h:a[j]? =some y):(a.take j++b.drop j).set j y=a.take (j+1)++b.drop (j+1):=by
 have hj:=(List.getElem?_eq_some_iff.1 h).1
 rw[List.set_append_right _ _ (by rw[List.length_take];omega),List.length_take,show j-min j a.length=0 by omega,List.drop_eq_getElem_cons (by omega),List.set_cons_zero,List.take_add_one,h]
 simp
theorem zBa {l:List Int} {j:Nat} {x y:Int} (h:l[j]? =some x):zK (iE l) j 0 [D.v (.int .i64 y)]=iE (l.set j y):=yA (f:=fun n:Int=>[D.v (.int .i64 n)]) h rfl
theorem mA {i:PlI} (h:yE i.l i.q=true) (hne:0<i.l.length):1≤i.l.sum∧i.l.sum≤250000000∧(∀(j:Nat) (n x:Int),i.l[j]? =some n→i.p0[j]? =some x→0≤x∧x≤n)∧i.p0.sum≤i.q:=by
 obtain⟨h1,h2,h3,h4⟩:=x9 h
 have hb:=qE (l:=i.l) (fun x hx=>by have:=h3 x hx;omega) i.l.length
 rw[List.take_length]at hb
 have hS:1≤i.l.sum:=by
  obtain⟨x,hx⟩:=z9 (l:=i.l) (i:=0) hne
  have:=h3 x (List.mem_of_getElem? hx)
  cases hl:i.l with
  |nil=>rw[hl]at hne;exact absurd hne (Nat.lt_irrefl 0)
  |cons a r=>
   rw[hl]at hx;simp at hx;subst hx
   have hr:=qE (l:=r) (fun y hy=>by have:=h3 y (by rw[hl];exact List.mem_cons_of_mem _ hy);omega) r.length
   rw[List.take_length]at hr
   rw[List.sum_cons];omega
 refine⟨hS,by omega,fun j n x hn hx=> ?_,?_⟩
 ·have hn1:=h3 n (List.mem_of_getElem? hn)
  have:=zSl (k:=n) (by omega) h2 hS h4
  rw[zSd hn]at hx
  cases hx
  split<;>omega
 ·have:=zAd (least:=i.least) h2 hS i.l (fun x hx=>by have:=h3 x hx;omega)
  have e:i.l.sum*i.p0.sum≤i.l.sum*i.q:=by rw[Int.mul_comm i.l.sum i.q];exact this
  exact Int.le_of_mul_le_mul_left e (by omega)
theorem z5f (i:PlI) (h:plainC.cnd i):zJx i:=by
 obtain⟨hl,hq,hle⟩:i.l.length≤1000000∧yI i.q∧yI i.least:=h
 unfold zJx
 refine⟨⟨i.l,i.q⟩,rfl,rfl,⟨hl,hq⟩,fun _ _=>Cv.cnd.mk (fun c=> ?_) (fun c=>zS (fun d=> ?_) (fun d=> ?_))⟩
 ·have c:yE i.l i.q=false:=by simpa using c
  refine⟨(),?_,trivial⟩
  rw[x0,if_neg (by rw[c];simp)];rfl
 ·refine⟨(),?_,trivial⟩
  rw[x0,if_neg (by omega)];rfl
 have c:yE i.l i.q=true:=by simpa using c
 have eS:x0 i=i.p1:=by rw[x0,if_pos ⟨c,by omega⟩]
 obtain⟨h1,h2,h3,h4⟩:=x9 c
 have hq2:=pK c
 have hp0:=zIl i
 have hzl:(i.l.zip i.p0).length=i.l.length:=by rw[List.length_zip,hp0];simp
 have hp1:i.p1.length=i.l.length:=by rw[PlI.p1,cK,hzl]
 have hz2:(i.l.zip i.p0).map (·.2)=i.p0:=by rw[List.map_snd_zip];omega
 have h64:i.l.length≤250:=h1
 have hrl:∀j,j≤i.l.length→(List.take j i.p0++List.replicate (i.l.length-j) 0).length=i.l.length:=by
  intro j hj;rw[List.length_append,List.length_take,List.length_replicate];omega
 simp only[yT]
 refine⟨i.l,rfl,⟨by omega,fun x hx=>by have:=h3 x hx;omega⟩,fun _ _=>⟨⟨by omega,by omega,by omega,by omega⟩,0,by(first|exact rfl|exact trivial),?_,fun j=>j≤i.l.length,fun j=>i.l.length-j,Nat.zero_le _,fun j hj=>zS (fun e=> ?_) (fun e=> ?_)⟩⟩
 ·simp[iE]
 ·have hj':j<i.l.length:=by omega
  obtain⟨n,hn⟩:=z9 (l:=i.l) (i:=j) hj'
  have bn:=h3 n (List.mem_of_getElem? hn)
  obtain⟨f1,f2,f3,f4⟩:=mA c (by omega)
  have g:=zSd hn
  refine⟨⟨by omega,by omega⟩,n,elI hn,⟨n,i.q,i.l.sum⟩,rfl,rfl,rfl,⟨by dsimp only;omega,by dsimp only;omega,by dsimp only;omega,by dsimp only;omega,by dsimp only;omega,by dsimp only;omega⟩,fun _ _=>zS (fun a=> ?_) (fun a=> ?_)⟩
  ·have a:n*i.q / i.l.sum≥i.least:=a
   rw[if_pos (by omega)]at g
   refine⟨⟨by omega,by rw[hrl j (by omega)];omega⟩,by rw[hrl j (by omega)];omega,j+1,wjn (by omega),?_,hj',by dsimp only;omega,trivial⟩
   rw[Int.toNat_natCast,zBa (zSb hp0 hj'),zMf hp0 g]
  ·have a:¬n*i.q / i.l.sum≥i.least:=a
   rw[if_neg (by omega)]at g
   refine⟨j+1,wjn (by omega),?_,hj',by dsimp only;omega,trivial⟩
   rw[← zMf hp0 g,zWk (zSb hp0 hj')]
 have hje:j=i.l.length:=by omega
 subst hje
 have eP:List.take i.l.length i.p0++List.replicate (i.l.length-i.l.length) 0=i.p0:=by rw[List.take_of_length_le (by omega)];simp
 rw[eP,hp0]
 have px:∀(k:Nat) (n x:Int),i.l[k]? =some n→i.p0[k]? =some x→0≤x∧x≤n:=fun k n x hn hx=>(mA c (by have:=(List.getElem?_eq_some_iff.1 hn).1;omega)).2.2.1 k n x hn hx
 have pb:∀x∈i.p0,0≤x∧x≤1000000:=by
  intro x hx
  obtain⟨k,hk⟩:=List.mem_iff_getElem?.1 hx
  obtain⟨n,hn⟩:=z9 (l:=i.l) (i:=k) (by have:=(List.getElem?_eq_some_iff.1 hk).1;omega)
  have:=px k n x hn hk
  have:=h3 n (List.mem_of_getElem? hn)
  omega
 have pq:i.p0.sum≤i.q:=by
  by_cases hz:0<i.l.length
  ·exact(mA c hz).2.2.2
  ·have:i.p0=[]:=List.eq_nil_of_length_eq_zero (by omega)
   rw[this];simpa using h2
 refine⟨0,by simp,by(first|exact rfl|exact trivial),fun k=>k≤i.l.length,fun k=>i.l.length-k,Nat.zero_le _,fun k hk=>zS (fun e=> ?_) (fun e=> ?_)⟩
 ·have hk':k<i.l.length:=by omega
  obtain⟨x,hx⟩:=z9 (l:=i.p0) (i:=k) (by omega)
  have bx:=pb x (List.mem_of_getElem? hx)
  have bs:=qE pb k
  refine⟨⟨by omega,by omega⟩,x,elI hx,k+1,?_,wjn (by omega),hk',by dsimp only;omega,by(repeat'(first|exact trivial|exact rfl|apply And.intro))⟩
  rw[qN hx,w64 (by omega)];omega
 have hke:k=i.l.length:=by omega
 subst hke
 rw[List.take_of_length_le (l:=i.p0) (by omega)]
 refine⟨0,by simp,by(first|exact rfl|exact trivial),by simp,fun j=>j≤i.l.length,fun j=>i.l.length-j,Nat.zero_le _,fun j hj=>zS (fun e=> ?_) (fun e=> ?_)⟩
 ·have hj':j<i.l.length:=by omega
  obtain⟨n,hn⟩:=z9 (l:=i.l) (i:=j) hj'
  obtain⟨x,hx⟩:=z9 (l:=i.p0) (i:=j) (by omega)
  have bn:=h3 n (List.mem_of_getElem? hn)
  have bx:=px j n x hn hx
  have hz:(i.l.zip i.p0)[j]? =some (n,x):=by rw[List.getElem?_zip_eq_some];exact⟨hn,hx⟩
  have g:=pW (i.l.zip i.p0) (i.q-i.p0.sum) j n x hz
  have r:=m5 (i.l.zip i.p0) (i.q-i.p0.sum) j (by omega) (fun y hy=>by
   obtain⟨k,hk⟩:=List.mem_iff_getElem?.1 hy
   rw[List.getElem?_zip_eq_some]at hk
   exact(px k y.1 y.2 hk.1 hk.2).2)
  rw[hz2]at g r
  have b0:=qE pb i.p0.length
  rw[List.take_length]at b0
  have hml:(List.take j i.p1++List.drop j i.p0).length=i.l.length:=by rw[List.length_append,List.length_take,List.length_drop];omega
  have hma:=z3z (a:=i.p1) (b:=i.p0) (by omega) hx
  change i.p1[j]? =_ at g
  change 0≤_-(List.take j i.p1).sum∧_-(List.take j i.p1).sum≤_ at r
  change i.p1[j]? =some (x+min (n-x) (_-(List.take j i.p1).sum))at g
  rw[hml]
  refine⟨⟨by omega,by omega⟩,n,elI hn,⟨by omega,by omega⟩,x,elI hma,⟨by omega,by omega⟩,x,elI hma,⟨by omega,by omega⟩,by omega,?_⟩
  rw[w64 (x:=n-x) (by omega),w64 (x:=x+min (n-x) (i.q-i.p0.sum+(List.take j i.p0).sum-(List.take j i.p1).sum)) (by omega)]
  refine⟨j+1,?_,wjn (by omega),?_,hj',by dsimp only;omega,trivial⟩
  ·rw[qN hx,qN g,w64 (by omega)];omega
  ·rw[Int.toNat_natCast,zBa hma,zYe (by omega) g]
 ·have hje:j=i.l.length:=by omega
  subst hje
  refine⟨(),?_,trivial⟩
  rw[eS,List.take_of_length_le (by omega),List.drop_eq_nil_of_le (by omega),List.append_nil]
theorem zUt:plainC.ok Tryz.prog 144:=zXm (gokc bP (gokc zYi (gokc l5 gok0))) z5f
open Go Cv Go.Proofs
structure RsI where
 l:List Int
 out:List Int
 least:Int
 q:Int
def RsI.idx (i:RsI) (k:Nat):List Nat:=(List.range k).filter fun n=>decide (i.out.getD n 0<i.l.getD n 0)
def RsI.left (i:RsI) (k:Nat):List Int:=(i.idx k).map fun n=>i.l.getD n 0-i.out.getD n 0
def RsI.pl (i:RsI):List Int:=x0 ⟨i.left i.l.length,i.least,i.q⟩
def RsI.add (i:RsI) (k:Nat):List Int:=(((i.idx i.l.length).zip i.pl).take k).foldl (fun o y=>o.set y.1 (IntKind.i64.wrap (o.getD y.1 0+y.2))) i.out
def v8 (i:RsI):List Int:=i.add i.pl.length
@[reducible] def RsI.ok (i:RsI):Prop:=i.l.length≤250∧i.out.length=i.l.length∧yI i.q∧yI i.least∧∀n,0≤i.out.getD n 0∧i.out.getD n 0≤i.l.getD n 0∧i.l.getD n 0≤1000000
def restC:Con:=con1 RsI (fun i=>[iV i.l,.own 0,zE i.least,zE i.q]) (fun i=>[.own 2 1 (iE i.out)]) RsI.ok (fun _=> .own 1) (fun i=>[.gone,.own 2 1 (iE (v8 i))])
def z8e (i:RsI):List SAnn:=[
 {ι:=Nat,slots:=fun j=>[(9,.own 0),(10,.own 1),(16,zE j)],rows:=fun j=>[.own 2 1 (iE (i.left j)),.own 3 1 (iE ((i.idx j).map fun(n:Nat)=>(n:Int)))]},
 {ι:=Nat,slots:=fun k=>[(1,.own 0),(50,zE k)],rows:=fun k=>[.own 2 1 (iE (i.add k))]}]
structure zI where
 id:Int
 side:Int
 price:Int
 qty:Int
 top:Bool
 deriving DecidableEq
def qK (o:zI):List D:=[.v (.int .i64 o.id),.v (.int .i64 o.side),.v (.int .i64 o.price),.v (.int .i64 o.qty),.v (.bool o.top)]
@[reducible] def z8d (o:zI):V:= .agg [zE o.id,zE o.side,zE o.price,zE o.qty,yJ o.top]
def topFC:Con:=con1 zI (fun o=>[z8d o]) (fun _=>[]) (fun _=>True) (fun o=>yJ o.top) (fun _=>[])
def topI (l:List zI):Int:=nO (l.findIdx? fun o=>o.top)
def idxOrdC:Con:=con1 (List zI) (fun l=>[roV 5 (l.map qK),.fn 107 [] []]) (fun _=>[]) (fun l=>l.length≤1000000) (fun l=>zE (topI l)) (fun _=>[])
def zXz (l:List zI):List SAnn:=[{ι:=Nat,slots:=fun j=>[(8,zE j)],rows:=fun _=>[]}]
open Go Cv Go.Proofs
def zWm (i:RsI):Prop:=
 ∃(i0:Nat),(↑i0:Int)=0∧iE (i.left i0)=[]∧iE (List.map (fun(n:Nat) ↦ (↑n:Int)) (i.idx i0))=[]∧∃(I:Nat→Prop),∃(μ:Nat→Nat),I i0∧∀(i_1:Nat),I i_1→cnd (decide ((↑i_1:Int)<(↑(iE i.l).length:Int))) ((0≤(↑i_1:Int)∧(↑i_1:Int)<(↑(iE i.l).length:Int))∧∃(n:Int),zJ (iE i.l) (↑i_1:Int).toNat 0 1=some [D.v (.int .i64 n)]∧(0≤(↑i_1:Int)∧(↑i_1:Int)<(↑(iE i.out).length:Int))∧∃(n_1:Int),zJ (iE i.out) (↑i_1:Int).toNat 0 1=some [D.v (.int .i64 n_1)]∧cnd (decide (n>n_1)) ((0≤(↑i_1:Int)∧(↑i_1:Int)<(↑(iE i.l).length:Int))∧∃(n:Int),zJ (iE i.l) (↑i_1:Int).toNat 0 1=some [D.v (.int .i64 n)]∧(0≤(↑i_1:Int)∧(↑i_1:Int)<(↑(iE i.out).length:Int))∧∃(n_2:Int),zJ (iE i.out) (↑i_1:Int).toNat 0 1=some [D.v (.int .i64 n_2)]∧((iE (i.left i_1)).length+1)*(8:Nat)≤(70368744177664:Nat)∧((iE (List.map (fun(n:Nat) ↦ (↑n:Int)) (i.idx i_1))).length+1)*(8:Nat)≤(70368744177664:Nat)∧∃(i':Nat),(↑i':Int)=IntKind.i64.wrap ((↑i_1:Int)+1)∧iE (i.left i')=iE (i.left i_1)++[[D.v (.int .i64 (IntKind.i64.wrap (n-n_2)))]]∧iE (List.map (fun(n:Nat) ↦ (↑n:Int)) (i.idx i'))=iE (List.map (fun(n:Nat) ↦ (↑n:Int)) (i.idx i_1))++[[D.v (.int .i64 (↑i_1:Int))]]∧I i'∧μ i'<μ i_1∧AObj.own 2 1 (iE i.out)=AObj.own 2 1 (iE i.out)) (∃(i':Nat),(↑i':Int)=IntKind.i64.wrap ((↑i_1:Int)+1)∧iE (i.left i')=iE (i.left i_1)∧iE (List.map (fun(n:Nat) ↦ (↑n:Int)) (i.idx i'))=iE (List.map (fun(n:Nat) ↦ (↑n:Int)) (i.idx i_1))∧I i'∧μ i'<μ i_1∧AObj.own 2 1 (iE i.out)=AObj.own 2 1 (iE i.out))) (∃(i_2:PlI),iE i_2.l=iE (i.left i_1)∧i_2.least=i.least∧i_2.q=i.q∧(i_2.l.length≤1000000∧((-9223372036854775808)≤i_2.q∧i_2.q≤9223372036854775807)∧(-9223372036854775808)≤i_2.least∧i_2.least≤9223372036854775807)∧∀(o:Unit),True→∃(i0:Nat),(↑i0:Int)=0∧iE (i.add i0)=iE i.out∧∃(I:Nat→Prop),∃(μ:Nat→Nat),I i0∧∀(i_3:Nat),I i_3→cnd (decide ((↑i_3:Int)<(↑(iE (x0 i_2)).length:Int))) ((0≤(↑i_3:Int)∧(↑i_3:Int)<(↑(iE (x0 i_2)).length:Int))∧∃(n:Int),zJ (iE (x0 i_2)) (↑i_3:Int).toNat 0 1=some [D.v (.int .i64 n)]∧(0≤(↑i_3:Int)∧(↑i_3:Int)<(↑(iE (List.map (fun(n:Nat) ↦ (↑n:Int)) (i.idx i_1))).length:Int))∧∃(n_1:Int),zJ (iE (List.map (fun(n:Nat) ↦ (↑n:Int)) (i.idx i_1))) (↑i_3:Int).toNat 0 1=some [D.v (.int .i64 n_1)]∧(0≤n_1∧n_1<(↑(iE (i.add i_3)).length:Int))∧∃(n_2:Int),zJ (iE (i.add i_3)) n_1.toNat 0 1=some [D.v (.int .i64 n_2)]∧(0≤n_1∧n_1<(↑(iE (i.add i_3)).length:Int))∧n_1.toNat<(iE (i.add i_3)).length∧∃(i':Nat),(↑i':Int)=IntKind.i64.wrap ((↑i_3:Int)+1)∧iE (i.add i')=zK (iE (i.add i_3)) n_1.toNat 0 [D.v (.int .i64 (IntKind.i64.wrap (n_2+n)))]∧I i'∧μ i'<μ i_3∧AObj.own 2 1 (iE (x0 i_2))=AObj.own 2 1 (iE (x0 i_2))∧AObj.fro 1 (iE (i.left i_1))=AObj.fro 1 (iE (i.left i_1))∧AObj.own 3 1 (iE (List.map (fun(n:Nat) ↦ (↑n:Int)) (i.idx i_1)))=AObj.own 3 1 (iE (List.map (fun(n:Nat) ↦ (↑n:Int)) (i.idx i_1)))) (∃(o:Unit),iE (v8 i)=iE (i.add i_3)∧True))
theorem z6u (hG:GOk Tryz.prog ([(144,plainC)])) (h:∀(i:RsI),restC.cnd i→zWm i):restC.ok Tryz.prog 132:=okw mixed hG 0 (fun _=>[]) (fun i=>z8e i) [] Tryz.func132 h
def z1e (o:zI):Prop:=
 ∃(o_1:Unit),o.top=o.top∧True
theorem z6b (hG:GOk Tryz.prog ([])) (h:∀(o:zI),topFC.cnd o→z1e o):topFC.ok Tryz.prog 107:=okw mixed hG 0 (fun _=>[]) (fun _=>[]) [] Tryz.func107 h
def zCp (l:List zI):Prop:=
 ∃(i0:Nat),(↑i0:Int)=0∧∃(I:Nat→Prop),∃(μ:Nat→Nat),I i0∧∀(i:Nat),I i→cnd (decide ((↑i:Int)<(↑(List.map qK l).length:Int))) ((0≤(↑i:Int)∧(↑i:Int)<(↑(List.map qK l).length:Int))∧∃(n:Int),∃(n_1:Int),∃(n_2:Int),∃(n_3:Int),∃(b:Bool),zJ (List.map qK l) (↑i:Int).toNat 0 5=some [D.v (.int .i64 n),D.v (.int .i64 n_1),D.v (.int .i64 n_2),D.v (.int .i64 n_3),D.v (.bool b)]∧∃(i_1:zI),i_1.id=n∧i_1.side=n_1∧i_1.price=n_2∧i_1.qty=n_3∧i_1.top=b∧True∧∀(o:Unit),True→cnd i_1.top (∃(o:Unit),topI l=(↑i:Int)∧True) (∃(i':Nat),(↑i':Int)=IntKind.i64.wrap ((↑i:Int)+1)∧I i'∧μ i'<μ i∧True)) (∃(o:Unit),topI l=(-1)∧True)
theorem zQp (hG:GOk Tryz.prog ([(107,topFC)])) (h:∀(l:List zI),idxOrdC.cnd l→zCp l):idxOrdC.ok Tryz.prog 106:=okw mixed hG 0 (fun _=>[]) (fun l=>zXz l) [] Tryz.func106 h
open Go Cv Go.Proofs
theorem zXl:topFC.ok Tryz.prog 107:=z6b gok0 fun o _=>by
 unfold z1e
 exact⟨(),rfl,trivial⟩
theorem zJv (i:PlI):(x0 i).length=i.l.length∨x0 i=[]:=by
 rw[x0]
 split
 ·left;rw[PlI.p1,cK,List.length_zip,zIl];simp
 ·exact .inr rfl
theorem z6n {l:List zI} {k:Nat} {o:zI} (h:l[k]? =some o):zJ (l.map qK) k 0 5=some [D.v (.int .i64 o.id),.v (.int .i64 o.side),.v (.int .i64 o.price),.v (.int .i64 o.qty),.v (.bool o.top)]:=elA h (by simp[qK]) rfl
theorem z0o (l:List zI) (h:idxOrdC.cnd l):zCp l:=by
 have h:l.length≤1000000:=h
 unfold zCp
 simp only[List.length_map]
 refine⟨0,rfl,fun j=>j≤l.length∧∀k<j,∀x,l[k]? =some x→x.top=false,fun j=>l.length-j,⟨by omega,fun k hk=>by omega⟩,?_⟩
 rintro j ⟨h3,h4⟩
 refine zS (fun hj=> ?_) (fun hj=> ?_)
 ·obtain⟨s,hs⟩:=z9 (l:=l) (i:=j) (by omega)
  refine⟨⟨by omega,by omega⟩,s.id,s.side,s.price,s.qty,s.top,z6n hs,s,rfl,rfl,rfl,rfl,rfl,trivial,fun _ _=>Cv.cnd.mk (fun e=> ?_) (fun e=> ?_)⟩
  ·rw[topI,mJ hs e h4];(repeat'(first|exact rfl|exact trivial|assumption|apply And.intro|refine fun(_:Unit) (_:True)=>?_|refine Exists.intro () ?_|omega|(dsimp only;omega)))
  ·refine⟨j+1,by rw[w64 (by omega)];rfl,⟨by omega,fun k hk x hx=> ?_⟩,by(first|omega|(dsimp only;omega)),by(repeat'(first|exact trivial|exact rfl|apply And.intro))⟩
   rcases Nat.lt_or_ge k j with hk'|hk'
   ·exact h4 k hk' x hx
   ·obtain rfl:k=j:=by omega
    rw[hs]at hx;cases hx;exact e
 ·rw[topI,mV fun k x hx=>h4 k (by have:=(List.getElem?_eq_some_iff.1 hx).1;omega) x hx];(repeat'(first|exact rfl|exact trivial|assumption|apply And.intro|refine fun(_:Unit) (_:True)=>?_|refine Exists.intro () ?_|omega|(dsimp only;omega)))
theorem zOc:idxOrdC.ok Tryz.prog 106:=zQp (gokc zXl gok0) z0o
theorem zTk (i:RsI) (j:Nat):i.idx (j+1)=i.idx j++if i.out.getD j 0<i.l.getD j 0 then[j]else[]:=by
 rw[RsI.idx,List.range_succ,List.filter_append]
 by_cases h:i.out.getD j 0<i.l.getD j 0
 ·rw[if_pos h,List.filter_cons_of_pos (by simpa using h)];rfl
 ·rw[if_neg h,List.filter_cons_of_neg (by simpa using h)];rfl
theorem z3y (i:RsI) {k n:Nat} (h:n∈i.idx k):n<k:=by
 have:=(List.mem_filter.1 h).1
 exact List.mem_range.1 this
theorem zLd (i:RsI) (k:Nat):(i.idx k).length≤k:=by
 have:=List.length_filter_le (fun n=>decide (i.out.getD n 0<i.l.getD n 0)) (List.range k)
 rw[List.length_range]at this
 exact this
theorem zDv:∀(z:List (Nat×Int)) (o:List Int),(z.foldl (fun o y=>o.set y.1 (IntKind.i64.wrap (o.getD y.1 0+y.2))) o).length=o.length
 |[],_=>rfl
 |y::z,o=>by rw[List.foldl_cons,zDv z,List.length_set]
theorem z8g (i:RsI) (h:restC.cnd i):zWm i:=by
 obtain⟨hl,ho,hq,hle,hb⟩:i.ok:=h
 unfold zWm
 simp only[yT,List.length_map]
 have hil:∀j,(i.left j).length=(i.idx j).length:=fun j=>List.length_map _
 refine⟨0,by(first|exact rfl|exact trivial),by(first|exact rfl|exact trivial),by(first|exact rfl|exact trivial),fun j=>j≤i.l.length,fun j=>i.l.length-j,Nat.zero_le _,fun j hj=>zS (fun c=> ?_) (fun c=> ?_)⟩
 ·have hj':j<i.l.length:=by omega
  obtain⟨n,hn⟩:=z9 (l:=i.l) (i:=j) hj'
  obtain⟨o,hoo⟩:=z9 (l:=i.out) (i:=j) (by omega)
  have bj:=hb j
  rw[zP hn,zP hoo]at bj
  have is:=zTk i j
  rw[zP hn,zP hoo]at is
  have il:=zLd i j
  refine⟨⟨by omega,by omega⟩,n,elI hn,⟨by omega,by omega⟩,o,elI hoo,zS (fun a=> ?_) (fun a=> ?_)⟩
  ·rw[if_pos (by omega)]at is
   refine⟨⟨by omega,by omega⟩,n,elI hn,⟨by omega,by omega⟩,o,elI hoo,by rw[hil];omega,by omega,j+1,wjn (by omega),?_,?_,hj',by dsimp only;omega,by(repeat'(first|exact trivial|exact rfl|apply And.intro))⟩
   ·rw[w64 (by omega),RsI.left,is,List.map_append]
    simp[iE,RsI.left,hn,hoo]
   ·rw[is];simp[iE]
  ·rw[if_neg (by omega),List.append_nil]at is
   exact⟨j+1,wjn (by omega),by rw[RsI.left,is];rfl,by rw[is],hj',by dsimp only;omega,by(repeat'(first|exact trivial|exact rfl|apply And.intro))⟩
 have hje:j=i.l.length:=by omega
 subst hje
 have il:=zLd i i.l.length
 refine⟨⟨i.left i.l.length,i.least,i.q⟩,rfl,rfl,rfl,⟨by dsimp only;rw[hil];omega,hq,hle⟩,fun _ _=> ?_⟩
 have epl:x0 ⟨i.left i.l.length,i.least,i.q⟩=i.pl:=rfl
 rw[epl]
 have hpl:i.pl.length≤(i.idx i.l.length).length:=by
  rcases zJv ⟨i.left i.l.length,i.least,i.q⟩with e|e
  ·rw[epl]at e;rw[e];dsimp only;rw[hil];exact Nat.le_refl _
  ·rw[epl]at e;rw[e];exact Nat.zero_le _
 have hal:∀k,(i.add k).length=i.out.length:=fun k=>zDv _ _
 refine⟨0,by(first|exact rfl|exact trivial),by(first|exact rfl|exact trivial),fun k=>k≤i.pl.length,fun k=>i.pl.length-k,Nat.zero_le _,fun k hk=>zS (fun c=> ?_) (fun c=> ?_)⟩
 ·have hk':k<i.pl.length:=by omega
  obtain⟨x,hx⟩:=z9 (l:=i.pl) (i:=k) hk'
  obtain⟨n,hn⟩:=z9 (l:=i.idx i.l.length) (i:=k) (by omega)
  have hnl:=z3y i (List.mem_of_getElem? hn)
  obtain⟨y,hy⟩:=z9 (l:=i.add k) (i:=n) (by rw[hal];omega)
  have ea:i.add (k+1)=(i.add k).set n (IntKind.i64.wrap (y+x)):=by
   have hz:((i.idx i.l.length).zip i.pl)[k]? =some (n,x):=by rw[List.getElem?_zip_eq_some];exact⟨hn,hx⟩
   have ey:(i.add k).getD n 0=y:=zP hy
   rw[RsI.add,List.take_add_one,hz,List.foldl_append]
   show(i.add k).set n (IntKind.i64.wrap ((i.add k).getD n 0+x))=_
   rw[ey]
  have hnm:((i.idx i.l.length).map fun(n:Nat)=>(n:Int))[k]? =some (n:Int):=by rw[List.getElem?_map,hn];rfl
  rw[hal]
  refine⟨⟨by omega,by omega⟩,x,elI hx,⟨by omega,by omega⟩,n,elI hnm,⟨by omega,by omega⟩,y,elI hy,⟨by omega,by omega⟩,by omega,k+1,wjn (by omega),?_,hk',by dsimp only;omega,by(repeat'(first|exact trivial|exact rfl|apply And.intro))⟩
  rw[ea,Int.toNat_natCast,zBa hy]
 ·have hke:k=i.pl.length:=by omega
  subst hke
  exact⟨(),rfl,trivial⟩
theorem zLu:restC.ok Tryz.prog 132:=z6u (gokc zUt gok0) z8g
open Go Cv Go.Proofs
structure PsI where
 l:List Int
 top:Int
 most:Int
 least:Int
 q:Int
def PsI.first (i:PsI):Int:=min (min (i.l.getD i.top.toNat 0) i.most) i.q
def PsI.rs (i:PsI):RsI:=if 0≤i.top∧i.top<i.l.length then⟨i.l,(List.replicate i.l.length 0).set i.top.toNat i.first,i.least,i.q-i.first⟩else⟨i.l,List.replicate i.l.length 0,i.least,i.q⟩
def cS (i:PsI):List Int:=if yE i.l i.q=true∧1≤i.least∧0≤i.most then v8 i.rs else[]
def proC:Con:=con1 PsI (fun i=>[iV i.l,zE i.top,zE i.most,zE i.least,zE i.q]) (fun _=>[]) (fun i=>i.l.length≤1000000∧yI i.q∧yI i.least∧yI i.most) (fun _=> .own 0) (fun i=>[.own 2 1 (iE (cS i))])
structure SpI where
 l:List Int
 part:Int
 least:Int
 q:Int
def SpI.rs (i:SpI):RsI:=⟨i.l,jM i.l (i.q*i.part / 100),i.least,i.q-i.q*i.part / 100⟩
def cJ (i:SpI):List Int:=if yE i.l i.q=true∧0≤i.part∧i.part≤100∧1≤i.least then v8 i.rs else[]
def splC:Con:=con1 SpI (fun i=>[iV i.l,zE i.part,zE i.least,zE i.q]) (fun _=>[]) (fun i=>i.l.length≤1000000∧yI i.q∧yI i.least∧yI i.part) (fun _=> .own 0) (fun i=>[.own 2 1 (iE (cJ i))])
open Go Cv Go.Proofs
@[reducible] def zIs (i:PsI) (o:Unit):Prop:=∃(i_2:RsI),iE i_2.l=iE i.l∧i_2.least=i.least∧i_2.q=i.q∧iE i_2.out=List.replicate (↑(iE i.l).length:Int).toNat [D.v (.int .i64 0)]∧(i_2.l.length≤250∧i_2.out.length=i_2.l.length∧((-9223372036854775808)≤i_2.q∧i_2.q≤9223372036854775807)∧((-9223372036854775808)≤i_2.least∧i_2.least≤9223372036854775807)∧∀(n:Nat),0≤i_2.out.getD n 0∧i_2.out.getD n 0≤i_2.l.getD n 0∧i_2.l.getD n (0:Int)≤(1000000:Int))∧∀(o:Unit),True→∃(o:Unit),iE (cS i)=iE (v8 i_2)∧True
def z3c (i:PsI):Prop:=
 ∃(i_1:LqI),iE i_1.l=iE i.l∧i_1.q=i.q∧(i_1.l.length≤(1000000:Nat)∧(-9223372036854775808:Int)≤i_1.q∧i_1.q≤9223372036854775807)∧∀(o:Unit),True→cnd (!yE i_1.l i_1.q) (∃(o:Unit),iE (cS i)=[]∧True) (cnd (decide (i.least<1)) (∃(o:Unit),iE (cS i)=[]∧True) (cnd (decide (i.most<0)) (∃(o:Unit),iE (cS i)=[]∧True) ((0≤(↑(iE i.l).length:Int)∧(↑(iE i.l).length:Int)≤(↑(iE i.l).length:Int)∧(↑(iE i.l).length:Int)≤9223372036854775807∧(↑(8:Nat):Int)*(↑(iE i.l).length:Int)≤2 ^ (48:Nat))∧cnd (decide (i.top≥0)) (cnd (decide (i.top<(↑(iE i.l).length:Int))) ((0≤i.top∧i.top<(↑(iE i.l).length:Int))∧∃(n:Int),zJ (iE i.l) i.top.toNat 0 1=some [D.v (.int .i64 n)]∧(0≤i.top∧i.top<(↑(List.replicate (↑(iE i.l).length:Int).toNat [D.v (.int .i64 0)]).length:Int))∧i.top.toNat<(List.replicate (↑(iE i.l).length:Int).toNat [D.v (.int .i64 0)]).length∧(0≤i.top∧i.top<(↑(zK (List.replicate (↑(iE i.l).length:Int).toNat [D.v (.int .i64 0)]) i.top.toNat 0 [D.v (.int .i64 (min (min n i.most) i.q))]).length:Int))∧∃(n_1:Int),zJ (zK (List.replicate (↑(iE i.l).length:Int).toNat [D.v (.int .i64 0)]) i.top.toNat 0 [D.v (.int .i64 (min (min n i.most) i.q))]) i.top.toNat 0 1=some [D.v (.int .i64 n_1)]∧∃(i_2:RsI),iE i_2.l=iE i.l∧i_2.least=i.least∧i_2.q=IntKind.i64.wrap (i.q-n_1)∧iE i_2.out=zK (List.replicate (↑(iE i.l).length:Int).toNat [D.v (.int .i64 0)]) i.top.toNat 0 [D.v (.int .i64 (min (min n i.most) i.q))]∧(i_2.l.length≤250∧i_2.out.length=i_2.l.length∧((-9223372036854775808)≤i_2.q∧i_2.q≤9223372036854775807)∧((-9223372036854775808)≤i_2.least∧i_2.least≤9223372036854775807)∧∀(n:Nat),0≤i_2.out.getD n 0∧i_2.out.getD n 0≤i_2.l.getD n 0∧i_2.l.getD n (0:Int)≤(1000000:Int))∧∀(o:Unit),True→∃(o:Unit),iE (cS i)=iE (v8 i_2)∧True) (zIs i o)) (zIs i o))))
theorem z9a (hG:GOk Tryz.prog ([(131,rightC),(132,restC)])) (h:∀(i:PsI),proC.cnd i→z3c i):proC.ok Tryz.prog 108:=okw mixed hG 0 (fun _=>[]) (fun _=>[]) [] Tryz.func108 h
def z4g (i:SpI):Prop:=
 ∃(i_1:LqI),iE i_1.l=iE i.l∧i_1.q=i.q∧(i_1.l.length≤(1000000:Nat)∧(-9223372036854775808:Int)≤i_1.q∧i_1.q≤9223372036854775807)∧∀(o:Unit),True→cnd (!yE i_1.l i_1.q) (∃(o:Unit),iE (cJ i)=[]∧True) (cnd (decide (i.part<0)) (∃(o:Unit),iE (cJ i)=[]∧True) (cnd (decide (i.part>100)) (∃(o:Unit),iE (cJ i)=[]∧True) (cnd (decide (i.least<1)) (∃(o:Unit),iE (cJ i)=[]∧True) (∃(i_2:ShI),i_2.a=i.q∧i_2.b=i.part∧i_2.c=100∧(0≤i_2.a∧i_2.a≤(2000000000:Int)∧(0:Int)≤i_2.b∧i_2.b≤(2000000000:Int)∧(1:Int)≤i_2.c∧i_2.c≤2000000000)∧∀(o:Unit),True→∃(i_3:LqI),iE i_3.l=iE i.l∧i_3.q=i_2.a*i_2.b / i_2.c∧(i_3.l.length≤(1000000:Nat)∧(-9223372036854775808:Int)≤i_3.q∧i_3.q≤9223372036854775807)∧∀(o:Unit),True→∃(i_4:RsI),iE i_4.l=iE i.l∧i_4.least=i.least∧i_4.q=IntKind.i64.wrap (i.q-i_2.a*i_2.b / i_2.c)∧iE i_4.out=iE (jM i_3.l i_3.q)∧(i_4.l.length≤250∧i_4.out.length=i_4.l.length∧((-9223372036854775808)≤i_4.q∧i_4.q≤9223372036854775807)∧((-9223372036854775808)≤i_4.least∧i_4.least≤9223372036854775807)∧∀(n:Nat),0≤i_4.out.getD n 0∧i_4.out.getD n 0≤i_4.l.getD n 0∧i_4.l.getD n (0:Int)≤(1000000:Int))∧∀(o:Unit),True→∃(o:Unit),iE (cJ i)=iE (v8 i_4)∧True))))
theorem z7q (hG:GOk Tryz.prog ([(131,rightC),(133,ishareC),(105,fifoC),(132,restC)])) (h:∀(i:SpI),splC.cnd i→z4g i):splC.ok Tryz.prog 109:=okw mixed hG 0 (fun _=>[]) (fun _=>[]) [] Tryz.func109 h
open Go Cv Go.Proofs
theorem zUj {l:List Int} {q r:Int} (h:yE l q=true) (h0:0≤r) (h1:r≤q):yE l r=true:=by
 obtain⟨a,b,c,d⟩:=x9 h
 have e:(l.all fun n=>decide (1≤n) && decide (n≤1000000))=true:=by
  rw[List.all_eq_true];intro x hx;simpa using c x hx
 rw[yE,e,decide_eq_true a,decide_eq_true h0,decide_eq_true (show r≤l.sum by omega)];rfl
theorem getD_none {l:List Int} {n:Nat} (h:l[n]? =none):l.getD n 0=0:=by rw[List.getD_eq_getElem?_getD,h];rfl
theorem cY {l:List Int} {q:Int} (h:yE l q=true) (n:Nat):0≤l.getD n 0∧l.getD n 0≤1000000:=by
 cases hn:l[n]? with
 |none=>rw[getD_none hn];decide
 |some x=>rw[zP hn];have:=(x9 h).2.2.1 x (List.mem_of_getElem? hn);omega
theorem zOf {l:List Int} {q:Int} (h:yE l q=true) (n:Nat):0≤(jM l q).getD n 0∧(jM l q).getD n 0≤l.getD n 0:=by
 rw[jM,if_pos h]
 obtain⟨a,b,c,d⟩:=x9 h
 cases hn:l[n]? with
 |none=>
  have:(xS l q)[n]? =none:=by rw[List.getElem?_eq_none_iff,fK];exact List.getElem?_eq_none_iff.1 hn
  rw[getD_none hn,getD_none this];decide
 |some x=>
  rw[zP hn,zP (rA l q n x hn)]
  have:=mX l q n b (fun y hy=>by have:=c y hy;omega)
  have:=c x (List.mem_of_getElem? hn)
  omega
theorem z9r (i:SpI) (h:splC.cnd i):z4g i:=by
 obtain⟨hl,hq,hle,hpa⟩:i.l.length≤1000000∧yI i.q∧yI i.least∧yI i.part:=h
 unfold z4g
 have no (e:¬(yE i.l i.q=true∧0≤i.part∧i.part≤100∧1≤i.least)):cJ i=[]:=by rw[cJ,if_neg e]
 refine⟨⟨i.l,i.q⟩,rfl,rfl,⟨hl,hq⟩,fun _ _=>Cv.cnd.mk (fun c=> ?_) (fun c=>zS (fun d=> ?_) (fun d=>zS (fun e=> ?_) (fun e=>zS (fun f=> ?_) (fun f=> ?_))))⟩
 ·have c:yE i.l i.q=false:=by simpa using c
  exact⟨(),by rw[no (by rw[c];simp)];rfl,trivial⟩
 ·exact⟨(),by rw[no (by omega)];rfl,trivial⟩
 ·exact⟨(),by rw[no (by omega)];rfl,trivial⟩
 ·exact⟨(),by rw[no (by omega)];rfl,trivial⟩
 have c:yE i.l i.q=true:=by simpa using c
 obtain⟨h1,h2,h3,h4⟩:=x9 c
 have hq2:=pK c
 have m0:0≤i.q*i.part:=Int.mul_nonneg h2 (by omega)
 have m1:i.q*i.part≤i.q*100:=Int.mul_le_mul_of_nonneg_left (by omega) h2
 have hr:=zUj (r:=i.q*i.part / 100) c (by omega) (by omega)
 have es:cJ i=v8 i.rs:=by rw[cJ,if_pos ⟨c,by omega,by omega,by omega⟩]
 refine⟨⟨i.q,i.part,100⟩,rfl,rfl,rfl,⟨by dsimp only;omega,by dsimp only;omega,by dsimp only;omega,by dsimp only;omega,by dsimp only;omega,by dsimp only;omega⟩,fun _ _=>⟨⟨i.l,i.q*i.part / 100⟩,rfl,rfl,⟨hl,by dsimp only;omega,by dsimp only;omega⟩,fun _ _=>⟨i.rs,rfl,rfl,?_,rfl,⟨h1,?_,?_,hle,?_⟩,fun _ _=>⟨(),by rw[es],trivial⟩⟩⟩⟩
 ·rw[w64 (by dsimp only;omega)];rfl
 ·show(jM i.l (i.q*i.part / 100)).length=i.l.length
  rw[jM,if_pos hr,fK]
 ·show yI (i.q-i.q*i.part / 100)
  exact⟨by omega,by omega⟩
 ·intro n
  have a:=zOf hr n
  have b:=cY c n
  exact⟨a.1,a.2,b.2⟩
theorem z5h:splC.ok Tryz.prog 109:=z7q (gokc bP (gokc l5 (gokc zMi (gokc zLu gok0)))) z9r
theorem z6d (n:Nat):List.replicate n [D.v (.int .i64 0)]=iE (List.replicate n 0):=by simp[iE]
theorem zGv (n k:Nat):(List.replicate n (0:Int)).getD k 0=0:=by
 rw[List.getD_eq_getElem?_getD,List.getElem?_replicate];split<;>rfl
theorem zRj (n t k:Nat) (x:Int):((List.replicate n (0:Int)).set t x).getD k 0=x∧k=t∨((List.replicate n (0:Int)).set t x).getD k 0=0:=by
 rw[List.getD_eq_getElem?_getD,List.getElem?_set]
 split
 ·rename_i e
  split
  ·exact .inl ⟨rfl,e.symm⟩
  ·exact .inr rfl
 ·right;rw[← List.getD_eq_getElem?_getD];exact zGv n k
theorem yAd (i:PsI) (h:proC.cnd i):z3c i:=by
 obtain⟨hl,hq,hle,hmo⟩:i.l.length≤1000000∧yI i.q∧yI i.least∧yI i.most:=h
 unfold z3c zIs
 have no (e:¬(yE i.l i.q=true∧1≤i.least∧0≤i.most)):cS i=[]:=by rw[cS,if_neg e]
 refine⟨⟨i.l,i.q⟩,rfl,rfl,⟨hl,hq⟩,fun _ _=>Cv.cnd.mk (fun c=> ?_) (fun c=>zS (fun d=> ?_) (fun d=>zS (fun e=> ?_) (fun e=> ?_)))⟩
 ·have c:yE i.l i.q=false:=by simpa using c
  exact⟨(),by rw[no (by rw[c];simp)];rfl,trivial⟩
 ·exact⟨(),by rw[no (by omega)];rfl,trivial⟩
 ·exact⟨(),by rw[no (by omega)];rfl,trivial⟩
 have c:yE i.l i.q=true:=by simpa using c
 obtain⟨h1,h2,h3,h4⟩:=x9 c
 have hq2:=pK c
 have es:cS i=v8 i.rs:=by rw[cS,if_pos ⟨c,by omega,by omega⟩]
 simp only[yT,Int.toNat_natCast,z6d]
 have out (hn:¬(0≤i.top∧i.top<(i.l.length:Int))):i.rs=⟨i.l,List.replicate i.l.length 0,i.least,i.q⟩:=by rw[PsI.rs,if_neg hn]
 have ok0:RsI.ok ⟨i.l,List.replicate i.l.length 0,i.least,i.q⟩:=⟨h1,by simp,hq,hle,fun n=>by
  have:=cY c n
  dsimp only
  rw[zGv];omega⟩
 refine⟨⟨by omega,by omega,by omega,by omega⟩,zS (fun a=>zS (fun b=> ?_) (fun b=> ?_)) (fun a=> ?_)⟩
 ·obtain⟨n,hn⟩:=z9 (l:=i.l) (i:=i.top.toNat) (by omega)
  have hf:i.first=min (min n i.most) i.q:=by rw[PsI.first,zP hn]
  have bn:=h3 n (List.mem_of_getElem? hn)
  have hr0:(List.replicate i.l.length (0:Int))[i.top.toNat]? =some 0:=by rw[List.getElem?_replicate,if_pos (by omega)]
  have ers:i.rs=⟨i.l,(List.replicate i.l.length 0).set i.top.toNat i.first,i.least,i.q-i.first⟩:=by rw[PsI.rs,if_pos ⟨by omega,by omega⟩]
  refine⟨⟨by omega,by omega⟩,n,elI hn,?_⟩
  rw[zBa hr0,← hf]
  simp only[yT,List.length_set,List.length_replicate]
  refine⟨⟨by omega,by omega⟩,by omega,⟨by omega,by omega⟩,i.first,elI (k9 hr0),?_⟩
  rw[w64 (x:=i.q-i.first) (by omega)]
  refine⟨⟨i.l,(List.replicate i.l.length 0).set i.top.toNat i.first,i.least,i.q-i.first⟩,rfl,rfl,rfl,rfl,⟨h1,by simp,⟨by dsimp only;omega,by dsimp only;omega⟩,hle,fun k=> ?_⟩,fun _ _=>⟨(),by rw[es,ers],trivial⟩⟩
  have bk:=cY c k
  dsimp only
  rcases zRj i.l.length i.top.toNat k i.first with⟨g,gk⟩|g
  ·rw[g,gk,zP hn];omega
  ·rw[g];omega
 ·refine⟨⟨i.l,List.replicate i.l.length 0,i.least,i.q⟩,rfl,rfl,rfl,rfl,ok0,fun _ _=>⟨(),by rw[es,out (by omega)],trivial⟩⟩
 ·refine⟨⟨i.l,List.replicate i.l.length 0,i.least,i.q⟩,rfl,rfl,rfl,rfl,ok0,fun _ _=>⟨(),by rw[es,out (by omega)],trivial⟩⟩
theorem z5l:proC.ok Tryz.prog 108:=z9a (gokc bP (gokc zLu gok0)) yAd
open Go Cv Go.Proofs
structure AlI where
 p:Prd
 l:List zI
 q:Int
def AlI.qs (i:AlI):List Int:=i.l.map (·.qty)
def xA (i:AlI):List Int:=if i.p.rule=1 then jM i.qs i.q else if i.p.rule=2 then cS ⟨i.qs,topI i.l,i.p.top,i.p.least,i.q⟩else if i.p.rule=3 then cJ ⟨i.qs,i.p.part,i.p.least,i.q⟩else[]
def allocC:Con:=con1 AlI (fun i=>[prdV i.p,roV 5 (i.l.map qK),zE i.q]) (fun _=>[]) (fun i=>i.l.length≤1000∧yI i.q∧yI i.p.least∧yI i.p.top∧yI i.p.part) (fun _=> .own 0) (fun i=>[.own 2 1 (iE (xA i))])
def z6l (i:AlI):List SAnn:=[{ι:=Nat,slots:=fun j=>[(7,.own 0),(13,zE j)],rows:=fun j=>[.own 2 1 (iE (i.qs.take j))]}]
open Go Cv Go.Proofs
@[reducible] def zEw (i:AlI):AObj:=Sx.AObj.cells [V.d (D.v (Value.string (sb i.p.code))),V.own (0:Nat),V.d (D.v (.int .i64 i.p.tick)),V.d (D.v (.int .i64 i.p.low)),V.d (D.v (.int .i64 i.p.high)),V.d (D.v (.int .i64 i.p.wide)),V.d (D.v (.int .i64 i.p.rule)),V.d (D.v (.int .i64 i.p.top)),V.d (D.v (.int .i64 i.p.least)),V.d (D.v (.int .i64 i.p.part)),V.own ((0:Nat)+(1:Nat))] (25:Nat)
def zJy (i:AlI):Prop:=
 ∃(i0:Nat),(↑i0:Int)=0∧iE (List.take i0 i.qs)=[]∧∃(I:Nat→Prop),∃(μ:Nat→Nat),I i0∧∀(i_1:Nat),I i_1→cnd (decide ((↑i_1:Int)<(↑(List.map qK i.l).length:Int))) ((0≤(↑i_1:Int)∧(↑i_1:Int)<(↑(List.map qK i.l).length:Int))∧∃(n:Int),∃(n_1:Int),∃(n_2:Int),∃(n_3:Int),∃(b:Bool),zJ (List.map qK i.l) (↑i_1:Int).toNat 0 5=some [D.v (.int .i64 n),D.v (.int .i64 n_1),D.v (.int .i64 n_2),D.v (.int .i64 n_3),D.v (.bool b)]∧((iE (List.take i_1 i.qs)).length+1)*(8:Nat)≤(70368744177664:Nat)∧∃(i':Nat),(↑i':Int)=IntKind.i64.wrap ((↑i_1:Int)+1)∧iE (List.take i' i.qs)=iE (List.take i_1 i.qs)++[[D.v (.int .i64 n_3)]]∧I i'∧μ i'<μ i_1∧zEw i=zEw i∧AObj.fro 1 (iE i.p.settle)=AObj.fro 1 (iE i.p.settle)∧AObj.fro 1 (iE i.p.months)=AObj.fro 1 (iE i.p.months)) (cnd (i.p.rule==1) (∃(i_2:LqI),iE i_2.l=iE (List.take i_1 i.qs)∧i_2.q=i.q∧(i_2.l.length≤(1000000:Nat)∧(-9223372036854775808:Int)≤i_2.q∧i_2.q≤9223372036854775807)∧∀(o:Unit),True→∃(o:Unit),iE (xA i)=iE (jM i_2.l i_2.q)∧True) (cnd (i.p.rule==2) (∃(i_2:List zI),List.map qK i_2=List.map qK i.l∧i_2.length≤1000000∧∀(o:Unit),True→∃(i_3:PsI),iE i_3.l=iE (List.take i_1 i.qs)∧i_3.top=topI i_2∧i_3.most=i.p.top∧i_3.least=i.p.least∧i_3.q=i.q∧(i_3.l.length≤1000000∧((-9223372036854775808)≤i_3.q∧i_3.q≤9223372036854775807)∧((-9223372036854775808)≤i_3.least∧i_3.least≤9223372036854775807)∧(-9223372036854775808)≤i_3.most∧i_3.most≤9223372036854775807)∧∀(o:Unit),True→∃(o:Unit),iE (xA i)=iE (cS i_3)∧True) (cnd (i.p.rule==3) (∃(i_2:SpI),iE i_2.l=iE (List.take i_1 i.qs)∧i_2.part=i.p.part∧i_2.least=i.p.least∧i_2.q=i.q∧(i_2.l.length≤1000000∧((-9223372036854775808)≤i_2.q∧i_2.q≤9223372036854775807)∧((-9223372036854775808)≤i_2.least∧i_2.least≤9223372036854775807)∧(-9223372036854775808)≤i_2.part∧i_2.part≤9223372036854775807)∧∀(o:Unit),True→∃(o:Unit),iE (xA i)=iE (cJ i_2)∧True) (∃(o:Unit),iE (xA i)=[]∧True))))
theorem zYl (hG:GOk Tryz.prog ([(105,fifoC),(106,idxOrdC),(108,proC),(109,splC)])) (h:∀(i:AlI),allocC.cnd i→zJy i):allocC.ok Tryz.prog 68:=okw mixed hG 0 (fun _=>[]) (fun i=>z6l i) [] Tryz.func68 h
open Go Cv Go.Proofs
theorem z4w (i:AlI) (h:allocC.cnd i):zJy i:=by
 obtain⟨hl,hq,hle,hto,hpa⟩:i.l.length≤1000∧yI i.q∧yI i.p.least∧yI i.p.top∧yI i.p.part:=h
 have hql:i.qs.length=i.l.length:=by simp[AlI.qs]
 unfold zJy
 simp only[yT,List.length_map]
 refine⟨0,by(first|exact rfl|exact trivial),by(first|exact rfl|exact trivial),fun j=>j≤i.l.length,fun j=>i.l.length-j,Nat.zero_le _,fun j hj=>zS (fun c=> ?_) (fun c=> ?_)⟩
 ·have hj':j<i.l.length:=by omega
  obtain⟨o,ho⟩:=z9 (l:=i.l) (i:=j) hj'
  have hqo:i.qs[j]? =some o.qty:=by rw[AlI.qs,List.getElem?_map,ho];rfl
  refine⟨⟨by omega,by omega⟩,o.id,o.side,o.price,o.qty,o.top,z6n ho,by rw[List.length_take];omega,j+1,wjn (by omega),?_,hj',by dsimp only;omega,by(repeat'(first|exact trivial|exact rfl|apply And.intro))⟩
  rw[List.take_add_one,hqo];simp[iE]
 have hje:j=i.l.length:=by omega
 subst hje
 rw[List.take_of_length_le (l:=i.qs) (by omega)]
 refine Cv.cnd.mk (fun a=> ?_) (fun a=>Cv.cnd.mk (fun b=> ?_) (fun b=>Cv.cnd.mk (fun d=> ?_) (fun d=> ?_)))
 ·have a:i.p.rule=1:=by simpa using a
  exact⟨⟨i.qs,i.q⟩,rfl,rfl,⟨by dsimp only;omega,hq⟩,fun _ _=>⟨(),by rw[xA,if_pos a],trivial⟩⟩
 ·have a:¬i.p.rule=1:=by simpa using a
  have b:i.p.rule=2:=by simpa using b
  exact⟨i.l,rfl,by omega,fun _ _=>⟨⟨i.qs,topI i.l,i.p.top,i.p.least,i.q⟩,rfl,rfl,rfl,rfl,rfl,⟨by dsimp only;omega,hq,hle,hto⟩,fun _ _=>⟨(),by rw[xA,if_neg a,if_pos b],trivial⟩⟩⟩
 ·have a:¬i.p.rule=1:=by simpa using a
  have b:¬i.p.rule=2:=by simpa using b
  have d:i.p.rule=3:=by simpa using d
  exact⟨⟨i.qs,i.p.part,i.p.least,i.q⟩,rfl,rfl,rfl,rfl,⟨by dsimp only;omega,hq,hle,hpa⟩,fun _ _=>⟨(),by rw[xA,if_neg a,if_neg b,if_pos d],trivial⟩⟩
 ·have a:¬i.p.rule=1:=by simpa using a
  have b:¬i.p.rule=2:=by simpa using b
  have d:¬i.p.rule=3:=by simpa using d
  exact⟨(),by rw[xA,if_neg a,if_neg b,if_neg d];rfl,trivial⟩
theorem zVp:allocC.ok Tryz.prog 68:=zYl (gokc zMi (gokc zOc (gokc z5l (gokc z5h gok0)))) z4w
end Sx
