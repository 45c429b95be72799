/- Texts of ours, one behind the other: a walk that the kernel reckons, and contracts of functions. No condition. -/
import Derived.Test.YtmkgajpdangkaaaM8
namespace Sx
set_option linter.unusedVariables false
set_option maxRecDepth 100000
open Go Cv Go.Proofs
@[reducible] def qN (i : MiI) : AObj := Sx.AObj.cells [V.d (D.v (Value.string (sb i.x.code))),V.own (0 : Nat),V.d (D.v (.int .i64 i.x.tick)),V.d (D.v (.int .i64 i.x.low)),V.d (D.v (.int .i64 i.x.high)),V.d (D.v (.int .i64 i.x.wide)),V.d (D.v (.int .i64 i.x.rule)),V.d (D.v (.int .i64 i.x.top)),V.d (D.v (.int .i64 i.x.least)),V.d (D.v (.int .i64 i.x.part)),V.own ((0 : Nat) + (1 : Nat))] (25 : Nat)
@[reducible] def qY (i_1 : Prd) : AObj := Sx.AObj.cells (gG (tH ((0 : Nat) + (1 : Nat) + (1 : Nat) + (1 : Nat)) (qK [] (0 : Nat) []) (3 : Nat)) [sV i_1.code,V.own (1 : Nat),zF i_1.tick,zF i_1.low,zF i_1.high,zF i_1.wide,zF i_1.rule,zF i_1.top,zF i_1.least,zF i_1.part,V.own (2 : Nat)]) (25 : TypeId)
@[reducible] def kI (i : MiI) (i0 : Nat) : AObj := Sx.AObj.cells (gG (gV ((0 : Nat) + (1 : Nat) + (1 : Nat) + (1 : Nat) + (3 : Nat) + (1 : Nat) + (1 : Nat)) [((2 : Nat),(0 : Nat) + (1 : Nat) + (1 : Nat) + (1 : Nat) + (3 : Nat) + (1 : Nat)),((1 : Nat),none.getD ((0 : Nat) + (1 : Nat) + (1 : Nat) + (1 : Nat) + nat_lit 1)),((0 : Nat),(0 : Nat) + (1 : Nat) + (1 : Nat) + (1 : Nat) + (3 : Nat))] (0 : Nat) (z4r i.p i0)) [sV [(206 : UInt8),(169 : UInt8)],V.own (1 : Nat),zF (zX i.x),zF (-((100 : Int) * zX i.x)),zF (-((-20 : Int) * zX i.x)),zF (zX i.x * ((5 : Int) + zC i.x.wide (0 : Int) (60 : Int))),zF ((1 : Int) + zC i.x.rule (0 : Int) (2 : Int)),zF (zC i.x.top (0 : Int) (9 : Int)),zF ((1 : Int) + zC i.x.least (0 : Int) (4 : Int)),zF (zC i.x.part (0 : Int) (100 : Int)),V.own (2 : Nat)]) (25 : TypeId)
@[reducible] def cA (i : MiI) (i_2 : Nat) : AObj := AObj.fro (1 : Nat) (iE (List.take i_2 (List.map (fun (n : Int) ↦ -n) (yX (zX i.x) (kN i.x).toNat))))
@[reducible] def vV (i : MiI) (i_2 : Nat) (n : Int) : AObj := AObj.fro (1 : Nat) (iE (List.take i_2 (List.map (fun (n : Int) ↦ -n) (yX (zX i.x) (kN i.x).toNat))))
@[reducible] def uC (i_7 : Sx.Ask) : AObj := Sx.AObj.cells (gG (tH ((0 : Nat) + (1 : Nat) + (1 : Nat) + (1 : Nat) + (3 : Nat) + (1 : Nat) + (1 : Nat) + (3 : Nat) + ((1 : Nat) - (0 : Nat)) + ((1 : Nat) - (0 : Nat)) + (2 : Nat) + (0 : Nat)) (qK [] (0 : Nat) []) (1 : Nat)) i_7.cells) (33 : TypeId)
@[reducible] def z5k (n : Int) (n_1 : Int) (n_2 : Int) (n_3 : Int) (n_4 : Int) (n_5 : Int) : AObj := Sx.AObj.cells [V.d (D.v (.int .i64 n)),V.d (D.v (.int .i64 n_1)),V.d (D.v (.int .i64 (IntKind.i64.wrap ((3 : Int) - n_2)))),V.d (D.v (.int .i64 (IntKind.i64.wrap ((0 : Int) - n_3)))),V.d (D.v (.int .i64 n_4)),V.d (D.v (.int .i64 n_5))] (43 : Nat)
@[reducible] def zXt (i : MiI) (i0 : Nat) (i_1 : Prd) (i_2 : Nat) (o : Unit) (i_5 : Nat × MSt × MSt) (I_2 : Sx.Ask→Prop) (n : Int) (n_1 : Int) (n_2 : Int) (n_3 : Int) (n_4 : Int) (n_5 : Int) : Prop := ∃ (i_7 : SmI),sb i_7.p.code = sb i_1.code∧iE i_7.p.months = iE i_1.months∧i_7.p.tick = i_1.tick∧i_7.p.low = i_1.low∧i_7.p.high = i_1.high∧i_7.p.wide = i_1.wide∧i_7.p.rule = i_1.rule∧i_7.p.top = i_1.top∧i_7.p.least = i_1.least∧i_7.p.part = i_1.part∧iE i_7.p.settle = iE i_1.settle∧i_7.x.kind = n∧i_7.x.inst = n_1∧i_7.x.side = n_2∧i_7.x.id = n_3∧i_7.x.price = n_4∧i_7.x.qty = n_5∧i_7.i = (↑i_5.fst : Int)∧(i_7.p.check = 0∧(i_7.p.code.length ≤ 1099511627776∧i_7.p.months.length ≤ 1099511627776∧i_7.p.settle.length ≤ 1099511627776)∧(((-9223372036854775808) ≤ i_7.x.kind∧i_7.x.kind ≤ 9223372036854775807)∧((-9223372036854775808) ≤ i_7.x.inst∧i_7.x.inst ≤ 9223372036854775807)∧((-9223372036854775808) ≤ i_7.x.side∧i_7.x.side ≤ 9223372036854775807)∧((-9223372036854775808) ≤ i_7.x.id∧i_7.x.id ≤ 9223372036854775807)∧((-9223372036854775808) ≤ i_7.x.price∧i_7.x.price ≤ 9223372036854775807)∧(-9223372036854775808) ≤ i_7.x.qty∧i_7.x.qty ≤ 9223372036854775807)∧0 ≤ i_7.i∧i_7.i ≤ 1000000)∧∀ (o : Unit),True→∃ (i' : Sx.Ask),i'.kind = wI i_7.x∧i'.inst = zC i_7.x.inst 0 ((↑i_7.p.count : Int) - 1)∧i'.side = 1 + zC i_7.x.side 0 1∧(i'.id = if wI i_7.x = 1 then i_7.i else zC i_7.x.id 0 i_7.i)∧(i'.price = if (i_7.p.legs (zC i_7.x.inst 0 ((↑i_7.p.count : Int) - 1))).snd.snd = true then i_7.p.tick * (zC i_7.x.price 0 (7 : Int) - (4 : Int)) else i_7.p.tick * (zC i_7.x.price 0 (7 : Int) + (8 : Int)))∧i'.qty = 1 + zC i_7.x.qty 0 11∧I_2 i'∧zO i_5.snd.fst = zO i_5.snd.fst∧zO i_5.snd.snd = zO i_5.snd.snd∧kI i i0 = kI i i0∧AObj.fro 1 (iE (yB (kN i.x).toNat)) = AObj.fro 1 (iE (yB (kN i.x).toNat))∧vV i i_2 n = vV i i_2 n∧qY i_1 = qY i_1∧AObj.fro 1 (iE i_1.months) = AObj.fro 1 (iE i_1.months)∧AObj.fro 1 (iE i_1.settle) = AObj.fro 1 (iE i_1.settle)∧qN i = qN i∧AObj.fro 1 (iE i.x.settle) = AObj.fro 1 (iE i.x.settle)∧AObj.fro 1 (iE i.x.months) = AObj.fro 1 (iE i.x.months)
def Vmi (i : MiI) : Prop :=
  ∃ (i0 : Prd),∃ (I : Prd→Prop),(∃ (i_1 : Prd),sb i_1.code = sb i.x.code∧iE i_1.months = iE i.x.months∧i_1.tick = i.x.tick∧i_1.low = i.x.low∧i_1.high = i.x.high∧i_1.wide = i.x.wide∧i_1.rule = i.x.rule∧i_1.top = i.x.top∧i_1.least = i.x.least∧i_1.part = i.x.part∧iE i_1.settle = iE i.x.settle∧(((-9223372036854775808) ≤ i_1.tick∧i_1.tick ≤ 9223372036854775807)∧((-9223372036854775808) ≤ i_1.wide∧i_1.wide ≤ 9223372036854775807)∧((-9223372036854775808) ≤ i_1.rule∧i_1.rule ≤ 9223372036854775807)∧((-9223372036854775808) ≤ i_1.top∧i_1.top ≤ 9223372036854775807)∧((-9223372036854775808) ≤ i_1.least∧i_1.least ≤ 9223372036854775807)∧((-9223372036854775808) ≤ i_1.part∧i_1.part ≤ 9223372036854775807)∧i_1.months.length ≤ 9223372036854775807)∧∀ (o : Unit),True→∃ (i' : Prd),sb i'.code = sb [(206 : UInt8),(169 : UInt8)]∧i'.tick = zX i_1∧i'.low = (-20) * zX i_1∧i'.high = 100 * zX i_1∧i'.wide = zX i_1 * (5 + zC i_1.wide 0 60)∧i'.rule = 1 + zC i_1.rule 0 2∧i'.top = zC i_1.top 0 9∧i'.least = 1 + zC i_1.least 0 4∧i'.part = zC i_1.part 0 100∧AObj.fro 1 (iE i'.months) = AObj.fro 1 (iE (yB (kN i_1).toNat))∧AObj.fro 1 (iE i'.settle) = AObj.fro 1 (iE (yX (zX i_1) (kN i_1).toNat))∧I i'∧qN i = qN i∧AObj.fro 1 (iE i.x.settle) = AObj.fro 1 (iE i.x.settle)∧AObj.fro 1 (iE i.x.months) = AObj.fro 1 (iE i.x.months))∧∀ (i_1 : Prd),I i_1→i_1.low = i_1.low∧∃ (i0 : Nat),(↑i0 : Int) = 0∧sb [(206 : UInt8),(169 : UInt8)] = sb i_1.code∧zX i.x = i_1.tick∧-(100 * zX i.x) = IntKind.i64.wrap (0 - i_1.high)∧-((-20) * zX i.x) = IntKind.i64.wrap (0 - i_1.low)∧zX i.x * (5 + zC i.x.wide 0 60) = i_1.wide∧1 + zC i.x.rule 0 2 = i_1.rule∧zC i.x.top 0 9 = i_1.top∧1 + zC i.x.least 0 4 = i_1.least∧zC i.x.part 0 100 = i_1.part∧AObj.fro 1 (iE (yB (kN i.x).toNat)) = AObj.fro 1 (iE i_1.months)∧iE (List.take i0 (List.map (fun (n : Int) ↦ -n) (yX (zX i.x) (kN i.x).toNat))) = []∧∃ (I : Nat→Prop),∃ (μ : Nat→Nat),I i0∧∀ (i_2 : Nat),I i_2→cnd (decide ((↑i_2 : Int) < (↑(iE i_1.settle).length : Int))) ((0 ≤ (↑i_2 : Int)∧(↑i_2 : Int) < (↑(iE i_1.settle).length : Int))∧∃ (n : Int),zH (iE i_1.settle) (↑i_2 : Int).toNat 0 1 = some [D.v (.int .i64 n)]∧True∧((iE (List.take i_2 (List.map (fun (n : Int) ↦ -n) (yX (zX i.x) (kN i.x).toNat)))).length + 1) * (8 : Nat) ≤ (70368744177664 : Nat)∧∃ (i' : Nat),(↑i' : Int) = IntKind.i64.wrap ((↑i_2 : Int) + 1)∧sb [(206 : UInt8),(169 : UInt8)] = sb [(206 : UInt8),(169 : UInt8)]∧zX i.x = zX i.x∧-(100 * zX i.x) = -(100 * zX i.x)∧-((-20) * zX i.x) = -((-20) * zX i.x)∧zX i.x * (5 + zC i.x.wide 0 60) = zX i.x * (5 + zC i.x.wide 0 60)∧1 + zC i.x.rule 0 (2 : Int) = (1 : Int) + zC i.x.rule 0 2∧zC i.x.top 0 9 = zC i.x.top 0 (9 : Int)∧(1 : Int) + zC i.x.least 0 (4 : Int) = (1 : Int) + zC i.x.least 0 4∧zC i.x.part 0 100 = zC i.x.part 0 100∧AObj.fro 1 (iE (yB (kN i.x).toNat)) = AObj.fro 1 (iE (yB (kN i.x).toNat))∧iE (List.take i' (List.map (fun (n : Int) ↦ -n) (yX (zX i.x) (kN i.x).toNat))) = iE (List.take i_2 (List.map (fun (n : Int) ↦ -n) (yX (zX i.x) (kN i.x).toNat))) ++ [[D.v (.int .i64 (IntKind.i64.wrap (0 - n)))]]∧I i'∧μ i' < μ i_2∧qY i_1 = qY i_1∧AObj.fro 1 (iE i_1.months) = AObj.fro 1 (iE i_1.months)∧AObj.fro 1 (iE i_1.settle) = AObj.fro 1 (iE i_1.settle)∧qN i = qN i∧AObj.fro 1 (iE i.x.settle) = AObj.fro 1 (iE i.x.settle)∧AObj.fro 1 (iE i.x.months) = AObj.fro 1 (iE i.x.months)) (∃ (i_3 : Prd),sb i_3.code = sb i_1.code∧iE i_3.months = iE i_1.months∧i_3.tick = i_1.tick∧i_3.low = i_1.low∧i_3.high = i_1.high∧i_3.wide = i_1.wide∧i_3.rule = i_1.rule∧i_3.top = i_1.top∧i_3.least = i_1.least∧i_3.part = i_1.part∧iE i_3.settle = iE i_1.settle∧(i_3.code.length ≤ 1099511627776∧i_3.months.length ≤ 1099511627776∧i_3.settle.length ≤ 1099511627776)∧(∀ (o : Unit),i_3.check = 0→∃ (i_4 : Prd),sb i_4.code = sb [(206 : UInt8),(169 : UInt8)]∧iE i_4.months = iE (yB (kN i.x).toNat)∧i_4.tick = zX i.x∧i_4.low = -(100 * zX i.x)∧i_4.high = -((-20) * zX i.x)∧i_4.wide = zX i.x * (5 + zC i.x.wide 0 60)∧i_4.rule = 1 + zC i.x.rule 0 2∧i_4.top = zC i.x.top 0 9∧i_4.least = 1 + zC i.x.least 0 4∧i_4.part = zC i.x.part 0 100∧iE i_4.settle = iE (List.take i_2 (List.map (fun (n : Int) ↦ -n) (yX (zX i.x) (kN i.x).toNat)))∧(i_4.code.length ≤ 1099511627776∧i_4.months.length ≤ 1099511627776∧i_4.settle.length ≤ 1099511627776)∧(∀ (o : Unit),i_4.check = 0→∃ (i0_1 : Nat × MSt × MSt),(↑i0_1.fst : Int) = 0∧zO i0_1.snd.fst = zO (wW i_3)∧zO i0_1.snd.snd = zO (wW i_4)∧∃ (I : Nat × MSt × MSt→Prop),∃ (μ : Nat × MSt × MSt→Nat),I i0_1∧∀ (i_5 : Nat × MSt × MSt),I i_5→∃ (i0_2 : Bool),∃ (I_1 : Bool→Prop),cnd (decide ((↑i_5.fst : Int) < (↑(List.map askE i.l).length : Int))) (∃ (i' : Bool),i' = decide ((↑i_5.fst : Int) < 40)∧I_1 i'∧zO i_5.snd.fst = zO i_5.snd.fst∧zO i_5.snd.snd = zO i_5.snd.snd∧kI i i0 = kI i i0∧AObj.fro 1 (iE (yB (kN i.x).toNat)) = AObj.fro 1 (iE (yB (kN i.x).toNat))∧cA i i_2 = cA i i_2∧qY i_1 = qY i_1∧AObj.fro 1 (iE i_1.months) = AObj.fro 1 (iE i_1.months)∧AObj.fro 1 (iE i_1.settle) = AObj.fro 1 (iE i_1.settle)∧qN i = qN i∧AObj.fro 1 (iE i.x.settle) = AObj.fro 1 (iE i.x.settle)∧AObj.fro 1 (iE i.x.months) = AObj.fro 1 (iE i.x.months)) (∃ (i' : Bool),i' = false∧I_1 i'∧zO i_5.snd.fst = zO i_5.snd.fst∧zO i_5.snd.snd = zO i_5.snd.snd∧kI i i0 = kI i i0∧AObj.fro 1 (iE (yB (kN i.x).toNat)) = AObj.fro 1 (iE (yB (kN i.x).toNat))∧cA i i_2 = cA i i_2∧qY i_1 = qY i_1∧AObj.fro 1 (iE i_1.months) = AObj.fro 1 (iE i_1.months)∧AObj.fro 1 (iE i_1.settle) = AObj.fro 1 (iE i_1.settle)∧qN i = qN i∧AObj.fro 1 (iE i.x.settle) = AObj.fro 1 (iE i.x.settle)∧AObj.fro 1 (iE i.x.months) = AObj.fro 1 (iE i.x.months))∧∀ (i_6 : Bool),I_1 i_6→cnd i_6 (∃ (i0_3 : Sx.Ask),∃ (I_2 : Sx.Ask→Prop),((0 ≤ (↑i_5.fst : Int)∧(↑i_5.fst : Int) < (↑(List.map askE i.l).length : Int))∧∃ (n : Int),∃ (n_1 : Int),∃ (n_2 : Int),∃ (n_3 : Int),∃ (n_4 : Int),∃ (n_5 : Int),zH (List.map askE i.l) (↑i_5.fst : Int).toNat 0 6 = some [D.v (.int .i64 n),D.v (.int .i64 n_1),D.v (.int .i64 n_2),D.v (.int .i64 n_3),D.v (.int .i64 n_4),D.v (.int .i64 n_5)]∧(zXt i i0 i_1 i_2 o i_5 I_2 n n_1 n_2 n_3 n_4 n_5)∧True∧(sb i_1.code = sb i_1.code∧True∧i_1.tick = i_1.tick∧i_1.low = i_1.low∧i_1.high = i_1.high∧i_1.wide = i_1.wide∧i_1.rule = i_1.rule∧i_1.top = i_1.top∧i_1.least = i_1.least∧i_1.part = i_1.part∧True∧True)∧zXt i i0 i_1 i_2 o i_5 I_2 n n_1 n_2 n_3 n_4 n_5)∧∀ (i_7 : Sx.Ask),I_2 i_7→cnd (i_7.kind != 3) (∃ (i_8 : SaI),i_8.inst = i_7.inst∧i_8.id = i_7.id∧zB i_8.sd = i_7.side∧i_8.price = i_7.price∧i_8.qty = i_7.qty∧zO i_8.s = zO i_5.snd.fst∧((i_8.s.p.code.length ≤ 1099511627776∧i_8.s.p.months.length ≤ 1099511627776∧i_8.s.p.settle.length ≤ 1099511627776)∧i_8.s.books.length ≤ 1000000∧∀ (b : Book),b ∈ i_8.s.books→(b.a.slots.length ≤ 1000000∧(b.a.free ≠ 0→∃ (s : Slot),s ∈ b.a.slots∧s.used = false)∧∀ (q : qW),q ∈ b.a.queues→q.last = (-1) ∨ 0 ≤ q.last∧q.last < (↑b.a.slots.length : Int))∧b.a.queues.length ≤ 100000∧b.buys.length ≤ 100000∧b.sells.length ≤ 100000∧b.spare.length ≤ 100000)∧∀ (o : Unit),True→i_7.qty = i_7.qty∧i_7.price = i_7.price∧i_7.side = i_7.side∧i_7.id = i_7.id∧i_7.inst = i_7.inst∧∃ (i_9 : SaI),i_9.inst = i_7.inst∧i_9.id = i_7.id∧zB i_9.sd = IntKind.i64.wrap (3 - i_7.side)∧i_9.price = IntKind.i64.wrap (0 - i_7.price)∧i_9.qty = i_7.qty∧zO i_9.s = zO i_5.snd.snd∧((i_9.s.p.code.length ≤ 1099511627776∧i_9.s.p.months.length ≤ 1099511627776∧i_9.s.p.settle.length ≤ 1099511627776)∧i_9.s.books.length ≤ 1000000∧∀ (b : Book),b ∈ i_9.s.books→(b.a.slots.length ≤ 1000000∧(b.a.free ≠ 0→∃ (s : Slot),s ∈ b.a.slots∧s.used = false)∧∀ (q : qW),q ∈ b.a.queues→q.last = (-1) ∨ 0 ≤ q.last∧q.last < (↑b.a.slots.length : Int))∧b.a.queues.length ≤ 100000∧b.buys.length ≤ 100000∧b.sells.length ≤ 100000∧b.spare.length ≤ 100000)∧∀ (o : Unit),True→cnd ((MSt.addF i_8).snd != (MSt.addF i_9).snd) (∃ (o : Unit),true = false∧True) (∃ (i' : Nat × MSt × MSt),(↑i'.fst : Int) = IntKind.i64.wrap ((↑i_5.fst : Int) + 1)∧zO i'.snd.fst = zO (MSt.addF i_8).fst∧zO i'.snd.snd = zO (MSt.addF i_9).fst∧I i'∧μ i' < μ i_5∧kI i i0 = kI i i0∧AObj.fro 1 (iE (yB (kN i.x).toNat)) = AObj.fro 1 (iE (yB (kN i.x).toNat))∧cA i i_2 = cA i i_2∧qY i_1 = qY i_1∧AObj.fro 1 (iE i_1.months) = AObj.fro 1 (iE i_1.months)∧AObj.fro 1 (iE i_1.settle) = AObj.fro 1 (iE i_1.settle)∧qN i = qN i∧AObj.fro 1 (iE i.x.settle) = AObj.fro 1 (iE i.x.settle)∧AObj.fro 1 (iE i.x.months) = AObj.fro 1 (iE i.x.months))) (∃ (i_8 : RunI),i_8.inst = i_7.inst∧zB i_8.sd = i_7.side∧i_8.price = i_7.price∧i_8.q = i_7.qty∧zO i_8.s = zO i_5.snd.fst∧(i_8.s.Rep i_8.p i_8.B∧BOk i_8.p i_8.B∧(0 ≤ i_8.inst∧i_8.inst < (↑i_8.B.length : Int))∧1 ≤ i_8.q∧i_8.q ≤ 1000000)∧∀ (o : MSt),o.Rep i_8.p i_8.r.B→∃ (i_9 : RunI),i_9.inst = i_7.inst∧zB i_9.sd = IntKind.i64.wrap (3 - i_7.side)∧i_9.price = IntKind.i64.wrap (0 - i_7.price)∧i_9.q = i_7.qty∧zO i_9.s = zO i_5.snd.snd∧(i_9.s.Rep i_9.p i_9.B∧BOk i_9.p i_9.B∧(0 ≤ i_9.inst∧i_9.inst < (↑i_9.B.length : Int))∧1 ≤ i_9.q∧i_9.q ≤ 1000000)∧∀ (o_1 : MSt),o_1.Rep i_9.p i_9.r.B→cnd (i_8.r.left != i_9.r.left) (∃ (o : Unit),true = false∧True) (cnd ((↑(List.map zZ i_8.r.steps).length : Int) != (↑(List.map zZ i_9.r.steps).length : Int)) (∃ (o : Unit),true = false∧True) (∃ (i0_4 : Nat),(↑i0_4 : Int) = 0∧∃ (I_3 : Nat→Prop),∃ (μ_1 : Nat→Nat),I_3 i0_4∧∀ (i_10 : Nat),I_3 i_10→cnd (decide ((↑i_10 : Int) < (↑(List.map zZ i_8.r.steps).length : Int))) (∃ (i0_5 : Bool),∃ (I : Bool→Prop),((0 ≤ (↑i_10 : Int)∧(↑i_10 : Int) < (↑(List.map zZ i_8.r.steps).length : Int))∧∃ (n : Int),zH (List.map zZ i_8.r.steps) (↑i_10 : Int).toNat ((0 : Nat) + (0 : Nat)) 1 = some [D.v (.int .i64 n)]∧(0 ≤ (↑i_10 : Int)∧(↑i_10 : Int) < (↑(List.map zZ i_9.r.steps).length : Int))∧∃ (n_1 : Int),zH (List.map zZ i_9.r.steps) (↑i_10 : Int).toNat ((0 : Nat) + (0 : Nat)) 1 = some [D.v (.int .i64 n_1)]∧cnd (n != IntKind.i64.wrap (0 - n_1)) (∃ (i' : Bool),i' = true∧I i'∧zO o_1 = zO o_1∧AObj.own 41 4 (List.map zZ i_9.r.steps) = AObj.own 41 4 (List.map zZ i_9.r.steps)∧zO o = zO o∧AObj.own 41 4 (List.map zZ i_8.r.steps) = AObj.own 41 4 (List.map zZ i_8.r.steps)∧uC i_7 = uC i_7∧kI i i0 = kI i i0∧AObj.fro 1 (iE (yB (kN i.x).toNat)) = AObj.fro 1 (iE (yB (kN i.x).toNat))∧vV i i_2 n = vV i i_2 n∧qY i_1 = qY i_1∧AObj.fro 1 (iE i_1.months) = AObj.fro 1 (iE i_1.months)∧AObj.fro 1 (iE i_1.settle) = AObj.fro 1 (iE i_1.settle)∧qN i = qN i∧AObj.fro 1 (iE i.x.settle) = AObj.fro 1 (iE i.x.settle)∧AObj.fro 1 (iE i.x.months) = AObj.fro 1 (iE i.x.months)) ((0 ≤ (↑i_10 : Int)∧(↑i_10 : Int) < (↑(List.map zZ i_8.r.steps).length : Int))∧∃ (n : Int),zH (List.map zZ i_8.r.steps) (↑i_10 : Int).toNat ((0 : Nat) + (1 : Nat)) 1 = some [D.v (.int .i64 n)]∧(0 ≤ (↑i_10 : Int)∧(↑i_10 : Int) < (↑(List.map zZ i_9.r.steps).length : Int))∧∃ (n_2 : Int),zH (List.map zZ i_9.r.steps) (↑i_10 : Int).toNat ((0 : Nat) + (1 : Nat)) 1 = some [D.v (.int .i64 n_2)]∧cnd (n != n_2) (∃ (i' : Bool),i' = true∧I i'∧zO o_1 = zO o_1∧AObj.own 41 4 (List.map zZ i_9.r.steps) = AObj.own 41 4 (List.map zZ i_9.r.steps)∧zO o = zO o∧AObj.own 41 4 (List.map zZ i_8.r.steps) = AObj.own 41 4 (List.map zZ i_8.r.steps)∧uC i_7 = uC i_7∧kI i i0 = kI i i0∧AObj.fro 1 (iE (yB (kN i.x).toNat)) = AObj.fro 1 (iE (yB (kN i.x).toNat))∧vV i i_2 n = vV i i_2 n∧qY i_1 = qY i_1∧AObj.fro 1 (iE i_1.months) = AObj.fro 1 (iE i_1.months)∧AObj.fro 1 (iE i_1.settle) = AObj.fro 1 (iE i_1.settle)∧qN i = qN i∧AObj.fro 1 (iE i.x.settle) = AObj.fro 1 (iE i.x.settle)∧AObj.fro 1 (iE i.x.months) = AObj.fro 1 (iE i.x.months)) ((0 ≤ (↑i_10 : Int)∧(↑i_10 : Int) < (↑(List.map zZ i_8.r.steps).length : Int))∧∃ (b : Bool),zH (List.map zZ i_8.r.steps) (↑i_10 : Int).toNat ((0 : Nat) + (2 : Nat)) 1 = some [D.v (.bool b)]∧(0 ≤ (↑i_10 : Int)∧(↑i_10 : Int) < (↑(List.map zZ i_9.r.steps).length : Int))∧∃ (b_1 : Bool),zH (List.map zZ i_9.r.steps) (↑i_10 : Int).toNat ((0 : Nat) + (2 : Nat)) 1 = some [D.v (.bool b_1)]∧cnd (!b == b_1) (∃ (i' : Bool),i' = true∧I i'∧zO o_1 = zO o_1∧AObj.own 41 4 (List.map zZ i_9.r.steps) = AObj.own 41 4 (List.map zZ i_9.r.steps)∧zO o = zO o∧AObj.own 41 4 (List.map zZ i_8.r.steps) = AObj.own 41 4 (List.map zZ i_8.r.steps)∧uC i_7 = uC i_7∧kI i i0 = kI i i0∧AObj.fro 1 (iE (yB (kN i.x).toNat)) = AObj.fro 1 (iE (yB (kN i.x).toNat))∧vV i i_2 n = vV i i_2 n∧qY i_1 = qY i_1∧AObj.fro 1 (iE i_1.months) = AObj.fro 1 (iE i_1.months)∧AObj.fro 1 (iE i_1.settle) = AObj.fro 1 (iE i_1.settle)∧qN i = qN i∧AObj.fro 1 (iE i.x.settle) = AObj.fro 1 (iE i.x.settle)∧AObj.fro 1 (iE i.x.months) = AObj.fro 1 (iE i.x.months)) ((0 ≤ (↑i_10 : Int)∧(↑i_10 : Int) < (↑(List.map zZ i_8.r.steps).length : Int))∧∃ (els : List (List D)),zH (List.map zZ i_8.r.steps) (↑i_10 : Int).toNat ((0 : Nat) + (3 : Nat)) 1 = some [D.ro 6 els]∧(0 ≤ (↑i_10 : Int)∧(↑i_10 : Int) < (↑(List.map zZ i_9.r.steps).length : Int))∧∃ (els_1 : List (List D)),zH (List.map zZ i_9.r.steps) (↑i_10 : Int).toNat ((0 : Nat) + (3 : Nat)) 1 = some [D.ro 6 els_1]∧∃ (i' : Bool),i' = ((↑els.length : Int) != (↑els_1.length : Int))∧I i'∧zO o_1 = zO o_1∧AObj.own 41 4 (List.map zZ i_9.r.steps) = AObj.own 41 4 (List.map zZ i_9.r.steps)∧zO o = zO o∧AObj.own 41 4 (List.map zZ i_8.r.steps) = AObj.own 41 4 (List.map zZ i_8.r.steps)∧uC i_7 = uC i_7∧kI i i0 = kI i i0∧AObj.fro 1 (iE (yB (kN i.x).toNat)) = AObj.fro 1 (iE (yB (kN i.x).toNat))∧vV i i_2 n = vV i i_2 n∧qY i_1 = qY i_1∧AObj.fro 1 (iE i_1.months) = AObj.fro 1 (iE i_1.months)∧AObj.fro 1 (iE i_1.settle) = AObj.fro 1 (iE i_1.settle)∧qN i = qN i∧AObj.fro 1 (iE i.x.settle) = AObj.fro 1 (iE i.x.settle)∧AObj.fro 1 (iE i.x.months) = AObj.fro 1 (iE i.x.months)))))∧∀ (i_11 : Bool),I i_11→cnd i_11 (∃ (o : Unit),true = false∧True) (∃ (i0_6 : Nat),(↑i0_6 : Int) = 0∧∃ (I : Nat→Prop),∃ (μ : Nat→Nat),I i0_6∧∀ (i_12 : Nat),I i_12→(0 ≤ (↑i_10 : Int)∧(↑i_10 : Int) < (↑(List.map zZ i_8.r.steps).length : Int))∧∃ (els : List (List D)),zH (List.map zZ i_8.r.steps) (↑i_10 : Int).toNat ((0 : Nat) + (3 : Nat)) 1 = some [D.ro 6 els]∧cnd (decide ((↑i_12 : Int) < (↑els.length : Int))) ((0 ≤ (↑i_10 : Int)∧(↑i_10 : Int) < (↑(List.map zZ i_9.r.steps).length : Int))∧∃ (els : List (List D)),zH (List.map zZ i_9.r.steps) (↑i_10 : Int).toNat ((0 : Nat) + (3 : Nat)) 1 = some [D.ro 6 els]∧(0 ≤ (↑i_12 : Int)∧(↑i_12 : Int) < (↑els.length : Int))∧∃ (n : Int),∃ (n_1 : Int),∃ (n_2 : Int),∃ (n_3 : Int),∃ (n_4 : Int),∃ (n_5 : Int),zH els (↑i_12 : Int).toNat 0 6 = some [D.v (.int .i64 n),D.v (.int .i64 n_1),D.v (.int .i64 n_2),D.v (.int .i64 n_3),D.v (.int .i64 n_4),D.v (.int .i64 n_5)]∧∃ (i0_7 : Bool),∃ (I_4 : Bool→Prop),((0 ≤ (↑i_10 : Int)∧(↑i_10 : Int) < (↑(List.map zZ i_8.r.steps).length : Int))∧∃ (els : List (List D)),zH (List.map zZ i_8.r.steps) (↑i_10 : Int).toNat ((0 : Nat) + (3 : Nat)) 1 = some [D.ro 6 els]∧(0 ≤ (↑i_12 : Int)∧(↑i_12 : Int) < (↑els.length : Int))∧∃ (n_6 : Int),∃ (n_7 : Int),∃ (n_8 : Int),∃ (n_9 : Int),∃ (n_10 : Int),∃ (n_11 : Int),zH els (↑i_12 : Int).toNat 0 6 = some [D.v (.int .i64 n_6),D.v (.int .i64 n_7),D.v (.int .i64 n_8),D.v (.int .i64 n_9),D.v (.int .i64 n_10),D.v (.int .i64 n_11)]∧∃ (i' : Bool),i' = !(n_6 == n && (n_7 == n_1 && (n_8 == IntKind.i64.wrap (3 - n_2) && (n_9 == IntKind.i64.wrap (0 - n_3) && (n_10 == n_4 && (n_11 == n_5 && true))))))∧I_4 i'∧z5k n n_1 n_2 n_3 n_4 n_5 = z5k n n_1 n_2 n_3 n_4 n_5∧zO o_1 = zO o_1∧AObj.own 41 4 (List.map zZ i_9.r.steps) = AObj.own 41 4 (List.map zZ i_9.r.steps)∧zO o = zO o∧AObj.own 41 4 (List.map zZ i_8.r.steps) = AObj.own 41 4 (List.map zZ i_8.r.steps)∧uC i_7 = uC i_7∧kI i i0 = kI i i0∧AObj.fro 1 (iE (yB (kN i.x).toNat)) = AObj.fro 1 (iE (yB (kN i.x).toNat))∧vV i i_2 n = vV i i_2 n∧qY i_1 = qY i_1∧AObj.fro 1 (iE i_1.months) = AObj.fro 1 (iE i_1.months)∧AObj.fro 1 (iE i_1.settle) = AObj.fro 1 (iE i_1.settle)∧qN i = qN i∧AObj.fro 1 (iE i.x.settle) = AObj.fro 1 (iE i.x.settle)∧AObj.fro 1 (iE i.x.months) = AObj.fro 1 (iE i.x.months))∧∀ (i_13 : Bool),I_4 i_13→cnd i_13 (∃ (o : Unit),true = false∧True) (∃ (i' : Nat),(↑i' : Int) = IntKind.i64.wrap ((↑i_12 : Int) + 1)∧I i'∧μ i' < μ i_12∧zO o_1 = zO o_1∧AObj.own 41 4 (List.map zZ i_9.r.steps) = AObj.own 41 4 (List.map zZ i_9.r.steps)∧zO o = zO o∧AObj.own 41 4 (List.map zZ i_8.r.steps) = AObj.own 41 4 (List.map zZ i_8.r.steps)∧uC i_7 = uC i_7∧kI i i0 = kI i i0∧AObj.fro 1 (iE (yB (kN i.x).toNat)) = AObj.fro 1 (iE (yB (kN i.x).toNat))∧vV i i_2 n = vV i i_2 n∧qY i_1 = qY i_1∧AObj.fro 1 (iE i_1.months) = AObj.fro 1 (iE i_1.months)∧AObj.fro 1 (iE i_1.settle) = AObj.fro 1 (iE i_1.settle)∧qN i = qN i∧AObj.fro 1 (iE i.x.settle) = AObj.fro 1 (iE i.x.settle)∧AObj.fro 1 (iE i.x.months) = AObj.fro 1 (iE i.x.months))) (∃ (i' : Nat),(↑i' : Int) = IntKind.i64.wrap ((↑i_10 : Int) + 1)∧I_3 i'∧μ_1 i' < μ_1 i_10∧zO o_1 = zO o_1∧AObj.own 41 4 (List.map zZ i_9.r.steps) = AObj.own 41 4 (List.map zZ i_9.r.steps)∧zO o = zO o∧AObj.own 41 4 (List.map zZ i_8.r.steps) = AObj.own 41 4 (List.map zZ i_8.r.steps)∧uC i_7 = uC i_7∧kI i i0 = kI i i0∧AObj.fro 1 (iE (yB (kN i.x).toNat)) = AObj.fro 1 (iE (yB (kN i.x).toNat))∧cA i i_2 = cA i i_2∧qY i_1 = qY i_1∧AObj.fro 1 (iE i_1.months) = AObj.fro 1 (iE i_1.months)∧AObj.fro 1 (iE i_1.settle) = AObj.fro 1 (iE i_1.settle)∧qN i = qN i∧AObj.fro 1 (iE i.x.settle) = AObj.fro 1 (iE i.x.settle)∧AObj.fro 1 (iE i.x.months) = AObj.fro 1 (iE i.x.months)))) (∃ (i' : Nat × MSt × MSt),(↑i'.fst : Int) = IntKind.i64.wrap ((↑i_5.fst : Int) + 1)∧zO i'.snd.fst = zO o∧zO i'.snd.snd = zO o_1∧I i'∧μ i' < μ i_5∧kI i i0 = kI i i0∧AObj.fro 1 (iE (yB (kN i.x).toNat)) = AObj.fro 1 (iE (yB (kN i.x).toNat))∧cA i i_2 = cA i i_2∧qY i_1 = qY i_1∧AObj.fro 1 (iE i_1.months) = AObj.fro 1 (iE i_1.months)∧AObj.fro 1 (iE i_1.settle) = AObj.fro 1 (iE i_1.settle)∧qN i = qN i∧AObj.fro 1 (iE i.x.settle) = AObj.fro 1 (iE i.x.settle)∧AObj.fro 1 (iE i.x.months) = AObj.fro 1 (iE i.x.months)))))) (∃ (i : Unit),True∧∀ (o : Unit),True→∃ (o : Unit),true = true∧True))∧∀ (o : Unit),i_4.check ≠ 0→∃ (o : Unit),true = false∧True)∧∀ (o : Unit),i_3.check ≠ 0→∃ (i_4 : Prd),sb i_4.code = sb [(206 : UInt8),(169 : UInt8)]∧iE i_4.months = iE (yB (kN i.x).toNat)∧i_4.tick = zX i.x∧i_4.low = -(100 * zX i.x)∧i_4.high = -((-20) * zX i.x)∧i_4.wide = zX i.x * (5 + zC i.x.wide 0 60)∧i_4.rule = 1 + zC i.x.rule 0 2∧i_4.top = zC i.x.top 0 9∧i_4.least = 1 + zC i.x.least 0 4∧i_4.part = zC i.x.part 0 100∧iE i_4.settle = iE (List.take i_2 (List.map (fun (n : Int) ↦ -n) (yX (zX i.x) (kN i.x).toNat)))∧(i_4.code.length ≤ 1099511627776∧i_4.months.length ≤ 1099511627776∧i_4.settle.length ≤ 1099511627776)∧(∀ (o : Unit),i_4.check = 0→∃ (o : Unit),true = false∧True)∧∀ (o : Unit),i_4.check ≠ 0→∃ (o : Unit),true = false∧True)
theorem eqmi (i : MiI) : Vmi i = walk Try.prog ([(6,kprodC),(7,newSC),(8,smallC),(9,saddC),(10,runC),(11,known16C)]) 0 (miJ) (miA i) [] Try.f3 (Try.f3.body.getD .skip) (miC.pat i) (miC.pre i) (miC.alts i) := by kernel_rfl
open Go Cv Go.Proofs
structure SoI where
  s : MSt
  p : Prd
  B : List (List zG)
  inst : Int
  sd : Bool
@[reducible] def SoI.ok (i : SoI) : Prop := i.s.Rep i.p i.B ∧ i.B.length ≤ 1000
def atB (B : List (List zG)) (inst : Int) : List zG := if inst < 0 then [] else B.getD inst.toNat []
open Go Cv Go.Proofs
structure MmI where
  x : Prd
  l : List Ask
  inst : Int
  side : Int
  price : Int
  qty : Int
@[reducible] def MmI.raw (i : MmI) : Prop := i.x.raw ∧ (∀ c ∈ i.l,c.raw) ∧ i.l.length ≤ 9223372036854775807 ∧ yN i.inst ∧ yN i.side ∧ yN i.price ∧ yN i.qty
def MmI.p (i : MmI) : Prd := j9 i.x
def MmI.ask (i : MmI) (j : Nat) : Ask := jX ⟨i.p,i.l.getD j z8f,j⟩
def zKr (p : Prd) (B : List (List zG)) (y : Ask) : List (List zG) := (uG p B y.inst y.id y.side y.price y.qty).1
def noB (p : Prd) : List (List zG) := List.replicate p.count []
def MmI.mon (i : MmI) : Nat → List (List zG)
  | 0 => noB i.p
  | j + 1 => if (i.ask j).inst < i.p.months.length then zKr i.p (i.mon j) (i.ask j) else i.mon j
def MmI.n (i : MmI) : Nat := min i.l.length 40
def MmI.mi (i : MmI) : Int := zC i.inst 0 (i.p.months.length - 1)
def MmI.last (i : MmI) : Ask := jX ⟨i.p,⟨0,i.mi,i.side,0,i.price,i.qty⟩,0⟩
def MmI.msd (i : MmI) : Int := 1 + zC i.side 0 1
def MmI.mp (i : MmI) : Int := i.p.tick * (8 + zC i.price 0 7)
def MmI.mq (i : MmI) : Int := 5 * (1 + zC i.qty 0 11)
def MmI.run (i : MmI) : z2q := uM i.p (i.mon i.n) i.mi (decide (i.msd = 2)) i.mp i.mq
def MmI.lad (i : MmI) : List Lv := mI (atB (i.mon i.n) i.mi) (3 - i.msd)
open Go Cv Go.Proofs
open Go Cv Go.Proofs
set_option linter.unusedSimpArgs false
open Go Cv Go.Proofs
open Go Cv Go.Proofs
open Go Cv Go.Proofs
theorem yCb {l : List Ask} {k : Nat} {c : Ask} (h : l[k]? = some c) : zH (l.map askE) k 0 6 = some [D.v (.int .i64 c.kind),.v (.int .i64 c.inst),.v (.int .i64 c.side),.v (.int .i64 c.id),.v (.int .i64 c.price),.v (.int .i64 c.qty)] := elA h (by simp [askE]) rfl
theorem zJd (t : SmI) : (jX t).side = 1 ∨ (jX t).side = 2 := by
  have := yV (n := t.x.side) (lo := 0) (hi := 1) (by omega)
  show 1 + zC t.x.side 0 1 = 1 ∨ 1 + zC t.x.side 0 1 = 2
  omega
theorem BOk.ask {p : Prd} {B : List (List zG)} (h : BOk p B) (y : Ask) : BOk p (zKr p B y) := h.add _ _ _ _ _
theorem MSt.Rep.ask {s : MSt} {p : Prd} {B : List (List zG)} (h : s.Rep p B) {y : Ask} (hs : y.side = 1 ∨ y.side = 2) : (MSt.addF ⟨s,y.inst,y.id,decide (y.side = 2),y.price,y.qty⟩).1.Rep p (zKr p B y) := by
  have := (h.add y.inst y.id (decide (y.side = 2)) y.price y.qty).1
  rw [vE hs] at this
  exact this
theorem yBe {l : List wY} {k : Nat} {t : wY} (h : l[k]? = some t) : zH (l.map zZ) k (0 + 0) 1 = some [D.v (.int .i64 t.price)] ∧ zH (l.map zZ) k (0 + 1) 1 = some [D.v (.int .i64 t.qty)] ∧ zH (l.map zZ) k (0 + 2) 1 = some [D.v (.bool t.implied)] := ⟨elA h (by simp [zZ]) rfl,elA h (by simp [zZ]) rfl,elA h (by simp [zZ]) rfl⟩
open Go Cv Go.Proofs
theorem fB {inst s : Int} {f : wR} : ∀ {os : List zG} {sh : List Int},f ∈ yW inst s os sh → f.side = s ∧ f.inst = inst ∧ ∃ o ∈ os,f.price = o.price
  | [],sh,h => by cases h
  | o :: os,[],h => by cases h
  | o :: os,k :: sh,h => by
    rw [yW] at h
    split at h
    · rcases List.mem_cons.1 h with rfl | h
      · exact ⟨rfl,rfl,o,List.mem_cons_self,rfl⟩
      · obtain ⟨a,b,o',c,d⟩ := fB h
        exact ⟨a,b,o',List.mem_cons_of_mem _ c,d⟩
    · obtain ⟨a,b,o',c,d⟩ := fB h
      exact ⟨a,b,o',List.mem_cons_of_mem _ c,d⟩
def FOk (f : wR) : Prop := (f.side = 1 ∨ f.side = 2)∧-2000000 ≤ f.price∧f.price ≤ 2000000
theorem nA {p : Prd} {B : List (List zG)} (h : BOk p B) (inst : Int) {s : Int} (hs : s = 1 ∨ s = 2) (q : Int) : ∀ f ∈ yH p B inst s q,FOk f := by
  intro f hf
  obtain ⟨a,_,o,ho,e⟩ := fB hf
  refine ⟨by rw [a]; exact hs,?_⟩
  rw [e]
  have ho := (List.mem_filter.1 ho).1
  by_cases hk : inst.toNat < B.length
  · obtain ⟨L,hL⟩ := yC hk
    rw [zV hL] at ho
    exact h.prices hL o ho
  · rw [List.getD_eq_getElem?_getD,List.getElem?_eq_none (by omega)] at ho; cases ho
def SOk (t : wY) : Prop := (-2000000 ≤ t.price∧t.price ≤ 2000000)∧(∀ f ∈ t.fills,FOk f)∧t.fills.length ≤ 500
theorem z4d {p : Prd} {B : List (List zG)} (h : BWf p B) {inst : Int} (hi : 0 ≤ inst ∧ inst < B.length) {s : Int} (hs : s = 1 ∨ s = 2) (hn : (zL p B inst s).2.2 = true) : -2000000 ≤ (zL p B inst s).1.price ∧ (zL p B inst s).1.price ≤ 2000000 := by
  rw [zL] at hn ⊢
  obtain ⟨L,hL⟩ := yC (l := B) (i := inst.toNat) (by omega)
  rw [zV hL] at hn ⊢
  split
  · exact bX (h.ok.prices hL)
  · rename_i c
    rw [if_neg c] at hn
    have hm := zAr hn
    have := (List.mem_filter.1 hm).2
    exact zGe h.ok.pc (of_decide_eq_true this)
theorem z0p {p : Prd} {B : List (List zG)} (h : BWf p B) {inst : Int} (hi : 0 ≤ inst ∧ inst < B.length) {sd : Bool} {price q : Int} {t : wY} {B' : List (List zG)} (e : jU p B inst sd price q = some (t,B')) : SOk t := by
  have hs : zB (!sd) = 1 ∨ zB (!sd) = 2 := mD _
  have hb := z4d h hi hs
  have hin := zDn h.ok h.od hi hs
  rw [jU] at e
  dsimp only at e
  split at e
  · rename_i c
    have c1 : (zL p B inst (zB (!sd))).2.2 = true := by
      cases hx : (zL p B inst (zB (!sd))).2.2 with
      | false => rw [hx] at c; cases c
      | true => rfl
    have hb := hb c1
    obtain ⟨_,hin,_⟩ := hin c1
    split at e
    · rename_i c2
      obtain ⟨_,ok⟩ := hin c2
      cases e
      refine ⟨hb,fun f hf => ?_,?_⟩
      · rcases List.mem_append.1 hf with hf | hf
        · exact nA h.ok _ ok.sa _ f hf
        · exact nA h.ok.takes _ ok.sb _ f hf
      · dsimp only
        rw [List.length_append]
        have := uV (p := p) h.od (zL p B inst (zB (!sd))).1.a.inst (zL p B inst (zB (!sd))).1.a.side (min q (zL p B inst (zB (!sd))).1.qty)
        have := uV (p := p) (h.takes (fs := yH p B (zL p B inst (zB (!sd))).1.a.inst (zL p B inst (zB (!sd))).1.a.side (min q (zL p B inst (zB (!sd))).1.qty))).od (zL p B inst (zB (!sd))).1.b.inst (zL p B inst (zB (!sd))).1.b.side (min q (zL p B inst (zB (!sd))).1.qty)
        omega
    · cases e
      refine ⟨hb,fun f hf => nA h.ok _ hs _ f hf,?_⟩
      have := uV (p := p) h.od inst (zB (!sd)) (min q (zL p B inst (zB (!sd))).1.qty)
      dsimp only
      omega
  · cases e
theorem zCz {p : Prd} {inst : Int} (sd : Bool) (price : Int) : ∀ (n : Nat) (B : List (List zG)) (q : Int),BWf p B → nC B → 0 ≤ inst ∧ inst < B.length →
    (∀ t ∈ (wE p inst sd price n B q).steps,SOk t) ∧ (wE p inst sd price n B q).steps.length ≤ n ∧ BOk p (wE p inst sd price n B q).B
  | 0,B,q,h,_,_ => ⟨fun t ht => (by cases ht),Nat.le_refl 0,h.ok⟩
  | n + 1,B,q,h,h2,hi => by
    rw [wE]
    by_cases hq : q ≤ 0
    · rw [if_pos hq]; exact ⟨fun t ht => (by cases ht),Nat.zero_le _,h.ok⟩
    · rw [if_neg hq]
      have hs := zTi h h2 hi sd price q
      cases hst : jU p B inst sd price q with
      | none => exact ⟨fun t ht => (by cases ht),Nat.zero_le _,h.ok⟩
      | some x =>
        obtain ⟨t,B'⟩ := x
        rw [hst] at hs
        dsimp only at hs
        obtain ⟨s1,s2,s3⟩ := hs
        obtain ⟨r1,r2,r3⟩ := zCz sd price n B' (q - t.qty) s2 s3 (by rw [zFs hst]; exact hi)
        refine ⟨fun u hu => ?_,by simp only [List.length_cons]; omega,r3⟩
        rcases List.mem_cons.1 hu with rfl | hu
        · exact z0p h hi hst
        · exact r1 u hu
open Go Cv Go.Proofs
theorem zPz {p : Prd} (hc : p.check = 0) (x : Ask) (i : Int) : (0 ≤ (jX ⟨p,x,i⟩).inst ∧ (jX ⟨p,x,i⟩).inst < p.count) ∧ (-15000 ≤ (jX ⟨p,x,i⟩).price ∧ (jX ⟨p,x,i⟩).price ≤ 15000) ∧ 1 ≤ (jX ⟨p,x,i⟩).qty ∧ (jX ⟨p,x,i⟩).qty ≤ 12 := by
  have hcb := rW hc
  have t1 := (xL hc).t1
  have t2 := (xL hc).t2
  have wi := yV (n := x.inst) (lo := 0) (hi := (p.count : Int) - 1) (by omega)
  have w7 := yV (n := x.price) (lo := 0) (hi := 7) (by omega)
  have w11 := yV (n := x.qty) (lo := 0) (hi := 11) (by omega)
  have e7 : ∀ a : Int,-4 ≤ a ∧ a ≤ 15 → -15000 ≤ p.tick * a ∧ p.tick * a ≤ 15000 := by
    intro a ha
    have h1 : p.tick * a ≤ 1000 * 15 := by
      rcases Int.le_total 0 a with h0 | h0
      · exact Int.mul_le_mul t2 ha.2 h0 (by decide)
      · have : p.tick * a ≤ 0 := Int.mul_nonpos_of_nonneg_of_nonpos (by omega) h0
        omega
    have h2 : -(1000 * 15) ≤ p.tick * a := by
      rcases Int.le_total 0 a with h0 | h0
      · have : 0 ≤ p.tick * a := Int.mul_nonneg (by omega) h0
        omega
      · have : p.tick * (-a) ≤ 1000 * 15 := Int.mul_le_mul t2 (by omega) (by omega) (by decide)
        rw [Int.mul_neg] at this
        omega
    omega
  refine ⟨⟨?_,?_⟩,?_,?_,?_⟩
  · show 0 ≤ zC x.inst 0 ((p.count : Int) - 1); omega
  · show zC x.inst 0 ((p.count : Int) - 1) < p.count; omega
  · show -15000 ≤ (if _ then p.tick * (zC x.price 0 7 - 4) else p.tick * (zC x.price 0 7 + 8)) ∧ (if _ then p.tick * (zC x.price 0 7 - 4) else p.tick * (zC x.price 0 7 + 8)) ≤ 15000
    split
    · exact e7 _ (by omega)
    · exact e7 _ (by omega)
  · show 1 ≤ 1 + zC x.qty 0 11; omega
  · show 1 + zC x.qty 0 11 ≤ 12; omega
theorem z4u {l : List wY} {k : Nat} {t : wY} (h : l[k]? = some t) : zH (l.map zZ) k (0 + 3) 1 = some [D.ro 6 (t.fills.map xU)] := elA h (by simp [zZ]) rfl
theorem yAj {l : List wR} {k : Nat} {f : wR} (h : l[k]? = some f) : zH (l.map xU) k 0 6 = some [D.v (.int .i64 f.id),.v (.int .i64 f.inst),.v (.int .i64 f.side),.v (.int .i64 f.price),.v (.int .i64 f.qty),.v (.int .i64 f.left)] := elA h (by simp [xU]) rfl
theorem mU {s : Int} (h : s = 1 ∨ s = 2) : zB (!decide (s = 2)) = 3 - s := by rcases h with rfl | rfl <;> rfl
structure yDu (i : MiI) (s t : MSt) (B : List (List zG)) : Prop where
  r1 : s.Rep i.p B
  r2 : t.Rep (mP i.p) (mB B)
  b1 : BOk i.p B
  b2 : BOk (mP i.p) (mB B)
  tw : nC B
theorem vmi (i : MiI) (h : miC.cnd i) : Vmi i := by
  obtain ⟨hx,hl,hll⟩ : i.raw := h
  have hc : i.p.check = 0 := zIh i.x
  have hp : i.p.small := zGh i.x
  have hcm := zBy hc
  have hpm := z3b hp
  have ok := xL hc
  have m2 := ok.m2
  have m6 := ok.m6
  have b1 := ok.b1
  have b2 := ok.b2
  have b3 := ok.b3
  have s1 := ok.s1
  have s2 := ok.s2
  have s3 := ok.s3
  have hcb := rW hc
  have eh : i.p.high = 100 * zX i.x := rfl
  have el : i.p.low = -20 * zX i.x := rfl
  have wh : IntKind.i64.wrap (0 - i.p.high) = -i.p.high := by rw [w64 (by omega)]; omega
  have wl : IntKind.i64.wrap (0 - i.p.low) = -i.p.low := by rw [w64 (by omega)]; omega
  have hset : ∀ n ∈ i.p.settle,-1000000 ≤ n ∧ n ≤ 1000000 := by
    intro n hn
    have := zDm hn
    omega
  unfold Vmi zXt
  refine ⟨i.p,fun q => q = i.p,⟨i.x,rfl,rfl,rfl,rfl,rfl,rfl,rfl,rfl,rfl,rfl,rfl,hx,fun _ _ => ⟨i.p,rfl,rfl,rfl,rfl,rfl,rfl,rfl,rfl,rfl,rfl,rfl,rfl,by (repeat' (first|exact trivial|exact rfl|apply And.intro))⟩⟩,?_⟩
  rintro _ rfl
  refine ⟨rfl,0,rfl,rfl,rfl,wh.symm,wl.symm,rfl,rfl,rfl,rfl,rfl,rfl,rfl,fun j => j ≤ i.p.settle.length,fun j => i.p.settle.length - j,Nat.zero_le _,fun j hj => ?_⟩
  have e0 : (iE i.p.settle).length = i.p.settle.length := yY _
  refine zU (fun c => ?_) (fun c => ?_)
  · obtain ⟨n,hn⟩ := yC (l := i.p.settle) (i := j) (by omega)
    have hnb := hset n (List.mem_of_getElem? hn)
    refine ⟨⟨by omega,by omega⟩,n,elI hn,trivial,?_,j + 1,wjn (by omega),rfl,rfl,rfl,rfl,rfl,rfl,rfl,rfl,rfl,rfl,?_,by dsimp only;omega,by dsimp only;omega,by (repeat' (first|exact trivial|exact rfl|apply And.intro))⟩
    · rw [yY,List.length_take]; omega
    · have hk : (yX (zX i.x) (kN i.x).toNat) = i.p.settle := rfl
      rw [hk,w64 (by omega),List.take_add_one,List.getElem?_map,hn]
      show iE (List.take j (i.p.settle.map fun n => -n) ++ [-n]) = _
      have : (0 - n : Int) = -n := by omega
      rw [this,iE,List.map_append]; rfl
  have hj : j = i.p.settle.length := by omega
  subst hj
  have etk : List.take i.p.settle.length (List.map (fun n : Int => -n) i.p.settle) = (mP i.p).settle := by
    rw [List.take_of_length_le (by rw [List.length_map]; exact Nat.le_refl _)]; rfl
  refine ⟨i.p,rfl,rfl,rfl,rfl,rfl,rfl,rfl,rfl,rfl,rfl,rfl,hp,⟨fun _ _ => ⟨mP i.p,rfl,rfl,rfl,rfl,rfl,rfl,rfl,rfl,rfl,rfl,congrArg iE etk.symm,hpm,⟨fun _ _ => ?_,fun _ e => absurd hcm e⟩⟩,fun _ e => absurd hc e⟩⟩
  have hnb := yCg i.p hc
  have hR2 : (wW (mP i.p)).Rep (mP i.p) (mB (zIi i.p)) := by rw [← hnb.1]; exact cZ _
  have hB2 : BOk (mP i.p) (mB (zIi i.p)) := by rw [← hnb.1]; exact BOk.new hcm hpm
  refine ⟨(0,wW i.p,wW (mP i.p)),rfl,rfl,rfl,fun j => yDu i j.2.1 j.2.2 (i.st j.1) ∧ j.1 ≤ i.n,fun j => i.n - j.1,⟨⟨cZ _,hR2,BOk.new hc hp,hB2,hnb.2⟩,Nat.zero_le _⟩,?_⟩
  rintro ⟨j,s,t⟩ ⟨g,g3⟩
  dsimp only at g g3 ⊢
  have hn : i.n = min i.l.length 40 := rfl
  have e1 : (i.l.map askE).length = i.l.length := List.length_map ..
  refine ⟨true,fun b => b = decide (j < i.n),zU (fun c => ⟨_,rfl,decide_eq_decide.2 (by omega),by (repeat' (first|exact trivial|exact rfl|apply And.intro))⟩) (fun c => ⟨false,rfl,(decide_eq_false (by omega)).symm,by (repeat' (first|exact trivial|exact rfl|apply And.intro))⟩),fun b hb => ?_⟩
  subst hb
  refine zU (fun c => ?_) (fun c => ⟨(),trivial,fun _ _ => ⟨(),rfl,trivial⟩⟩)
  obtain ⟨a,ha⟩ := yC (l := i.l) (i := j) (by omega)
  have hask : i.ask j = jX ⟨i.p,a,j⟩ := by rw [MiI.ask,zV ha]
  obtain ⟨q1,q2,q3⟩ := zPz hc a j
  have hys : (i.ask j).side = 1 ∨ (i.ask j).side = 2 := by rw [hask]; exact zJd _
  rw [← hask] at q1 q2 q3
  refine ⟨z8f,fun y => y = i.ask j,⟨⟨by omega,by omega⟩,a.kind,a.inst,a.side,a.id,a.price,a.qty,yCb ha,?_⟩,?_⟩
  · refine (fun hT => ⟨hT,trivial,⟨rfl,trivial,rfl,rfl,rfl,rfl,rfl,rfl,rfl,rfl,trivial,trivial⟩,hT⟩) ?_
    exact ⟨⟨i.p,a,j⟩,rfl,rfl,rfl,rfl,rfl,rfl,rfl,rfl,rfl,rfl,rfl,rfl,rfl,rfl,rfl,rfl,rfl,rfl,⟨hc,hp,hl a (List.mem_of_getElem? ha),by dsimp only;omega,by dsimp only;omega⟩,fun _ _ => ⟨jX ⟨i.p,a,j⟩,rfl,rfl,rfl,rfl,rfl,rfl,hask.symm,by (repeat' (first|exact trivial|exact rfl|apply And.intro))⟩⟩
  rintro y rfl
  have hst : i.st (j + 1) = if (i.ask j).kind ≠ 3 then (uG i.p (i.st j) (i.ask j).inst (i.ask j).id (i.ask j).side (i.ask j).price (i.ask j).qty).1 else (uM i.p (i.st j) (i.ask j).inst (decide ((i.ask j).side = 2)) (i.ask j).price (i.ask j).qty).B := by rw [MiI.st]
  generalize i.ask j = y at *
  generalize i.st j = B at *
  have hwf := g.r1.wf g.b1
  have hwf2 := g.r2.wf g.b2
  have w3 : IntKind.i64.wrap (3 - y.side) = 3 - y.side := w64 (by omega)
  have w0 : IntKind.i64.wrap (0 - y.price) = -y.price := by rw [w64 (by omega)]; omega
  have hBl : B.length = i.p.count := g.b1.bl
  refine Cv.cnd.mk (fun d => ?_) (fun d => ?_)
  · -- an order
    have d : y.kind ≠ 3 := by simpa using d
    rw [if_pos d] at hst
    obtain ⟨k1,k2⟩ := g.r1.add y.inst y.id (decide (y.side = 2)) y.price y.qty
    obtain ⟨l1,l2⟩ := g.r2.add y.inst y.id (!decide (y.side = 2)) (-y.price) y.qty
    rw [vE hys] at k1 k2
    rw [mU hys] at l1 l2
    obtain ⟨a1,a2⟩ := z9l hwf g.tw y.inst y.id hys y.price y.qty
    rw [a1] at l1 l2
    refine ⟨⟨s,y.inst,y.id,decide (y.side = 2),y.price,y.qty⟩,rfl,rfl,vE hys,rfl,rfl,rfl,g.r1.fit g.b1,fun _ _ => ⟨rfl,rfl,rfl,rfl,rfl,⟨t,y.inst,y.id,!decide (y.side = 2),-y.price,y.qty⟩,rfl,rfl,by dsimp only; rw [w3]; exact mU hys,w0.symm,rfl,rfl,g.r2.fit g.b2,fun _ _ => ?_⟩⟩
    refine Cv.cnd.mk (fun e => ?_) (fun _ => ⟨(j + 1,(MSt.addF ⟨s,y.inst,y.id,decide (y.side = 2),y.price,y.qty⟩).1,(MSt.addF ⟨t,y.inst,y.id,!decide (y.side = 2),-y.price,y.qty⟩).1),wjn (by omega),rfl,rfl,⟨?_,by dsimp only;omega⟩,by dsimp only;omega,by (repeat' (first|exact trivial|exact rfl|apply And.intro))⟩)
    · rw [k2,l2] at e; simp at e
    · dsimp only
      rw [hst]
      refine ⟨k1,l1,g.b1.add _ _ _ _ _,?_,a2⟩
      have := g.b2.add y.inst y.id (3 - y.side) (-y.price) y.qty
      rw [a1] at this
      exact this
  have d : ¬ y.kind ≠ 3 := by simpa using d
  rw [if_neg d] at hst
  have hib : 0 ≤ y.inst ∧ y.inst < B.length := by omega
  obtain ⟨a1,a2⟩ := z4q (decide (y.side = 2)) y.price y.qty.toNat B y.qty hwf g.tw hib
  obtain ⟨c1,c2,c3⟩ := zCz (decide (y.side = 2)) y.price y.qty.toNat B y.qty hwf g.tw hib
  obtain ⟨_,_,c4⟩ := zCz (p := mP i.p) (inst := y.inst) (!decide (y.side = 2)) (-y.price) y.qty.toNat (mB B) y.qty hwf2 (fun k L hL => by
    obtain ⟨L',hL',rfl⟩ := List.mem_map.1 (List.mem_of_getElem? hL)
    exact z5a L') (by rw [zJy]; exact hib)
  rw [a1] at c4
  refine ⟨⟨s,i.p,B,y.inst,decide (y.side = 2),y.price,y.qty⟩,rfl,vE hys,rfl,rfl,rfl,⟨g.r1,g.b1,by dsimp only;omega,by dsimp only;omega,by dsimp only;omega⟩,fun o ho => ⟨⟨t,mP i.p,mB B,y.inst,!decide (y.side = 2),-y.price,y.qty⟩,rfl,by dsimp only; rw [w3]; exact mU hys,w0.symm,rfl,rfl,⟨g.r2,g.b2,by dsimp only; rw [zJy]; omega,by dsimp only;omega,by dsimp only;omega⟩,fun o2 ho2 => ?_⟩⟩
  have er2 : RunI.r ⟨t,mP i.p,mB B,y.inst,!decide (y.side = 2),-y.price,y.qty⟩ = wE (mP i.p) y.inst (!decide (y.side = 2)) (-y.price) y.qty.toNat (mB B) y.qty := rfl
  have er1 : RunI.r ⟨s,i.p,B,y.inst,decide (y.side = 2),y.price,y.qty⟩ = wE i.p y.inst (decide (y.side = 2)) y.price y.qty.toNat B y.qty := rfl
  have hst : i.st (j + 1) = (wE i.p y.inst (decide (y.side = 2)) y.price y.qty.toNat B y.qty).B := hst
  rw [er2,a1] at ho2
  rw [er1] at ho
  dsimp only at ho ho2 ⊢
  rw [er2,er1,a1]
  generalize wE i.p y.inst (decide (y.side = 2)) y.price y.qty.toNat B y.qty = R at *
  obtain ⟨ts,lf,B'⟩ := R
  dsimp only at ho ho2 hst c1 c2 c3 c4 a2 ⊢
  have f1 : (ts.map zZ).length = ts.length := List.length_map ..
  have f2 : ((ts.map mS).map zZ).length = ts.length := by rw [List.length_map,List.length_map]
  refine Cv.cnd.mk (fun e => by simp at e) (fun _ => Cv.cnd.mk (fun e => by rw [f1,f2] at e; simp at e) (fun _ => ?_))
  refine ⟨0,rfl,fun m => m ≤ ts.length,fun m => ts.length - m,Nat.zero_le _,fun m hm => ?_⟩
  refine zU (fun e => ?_) (fun e => ?_)
  rotate_left
  · refine ⟨(j + 1,o,o2),wjn (by omega),rfl,rfl,⟨?_,by dsimp only;omega⟩,by dsimp only;omega,by (repeat' (first|exact trivial|exact rfl|apply And.intro))⟩
    dsimp only
    rw [hst]
    exact ⟨ho,ho2,c3,c4,a2⟩
  obtain ⟨u,hu⟩ := yC (l := ts) (i := m) (by omega)
  have hu2 : (ts.map mS)[m]? = some (mS u) := by rw [List.getElem?_map,hu]; rfl
  obtain ⟨⟨u1,u2⟩,u3,u4⟩ := c1 u (List.mem_of_getElem? hu)
  obtain ⟨x1,x2,x3⟩ := yBe hu
  obtain ⟨z1,z2,z3⟩ := yBe hu2
  have x4 := z4u hu
  have z4 := z4u hu2
  have i1 : (0 : Int) ≤ (m : Int) ∧ (m : Int) < ((ts.map zZ).length : Int) := ⟨by omega,by omega⟩
  have i2 : (0 : Int) ≤ (m : Int) ∧ (m : Int) < (((ts.map mS).map zZ).length : Int) := ⟨by omega,by omega⟩
  have wu : IntKind.i64.wrap (0 - (mS u).price) = u.price := by
    have : (mS u).price = -u.price := rfl
    rw [this,w64 (by omega)]; omega
  have g1 : (u.fills.map xU).length = u.fills.length := List.length_map ..
  have g2 : ((mS u).fills.map xU).length = u.fills.length := by rw [List.length_map]; exact List.length_map ..
  refine ⟨true,fun b => b = false,⟨i1,u.price,x1,i2,(mS u).price,z1,?_⟩,fun b hb => ?_⟩
  · rw [wu]
    refine Cv.cnd.mk (fun x => by simp at x) (fun _ => ⟨i1,u.qty,x2,i2,(mS u).qty,z2,?_⟩)
    refine Cv.cnd.mk (fun x => by simp [mS] at x) (fun _ => ⟨i1,u.implied,x3,i2,(mS u).implied,z3,?_⟩)
    refine Cv.cnd.mk (fun x => by simp [mS] at x) (fun _ => ⟨i1,_,x4,i2,_,z4,_,rfl,?_,by (repeat' (first|exact trivial|exact rfl|apply And.intro))⟩)
    rw [g1,g2]; simp
  subst hb
  refine Cv.cnd.mk (fun x => by cases x) (fun _ => ?_)
  refine ⟨0,rfl,fun k => k ≤ u.fills.length,fun k => u.fills.length - k,Nat.zero_le _,fun k hk => ⟨i1,_,x4,?_⟩⟩
  refine zU (fun e2 => ?_) (fun _ => ⟨m + 1,wjn (by omega),by dsimp only;omega,by dsimp only;omega,by (repeat' (first|exact trivial|exact rfl|apply And.intro))⟩)
  obtain ⟨f,hf⟩ := yC (l := u.fills) (i := k) (by omega)
  have hf2 : (mS u).fills[k]? = some (mF f) := by
    show (u.fills.map mF)[k]? = _
    rw [List.getElem?_map,hf]; rfl
  obtain ⟨v1,v2,v3⟩ := u3 f (List.mem_of_getElem? hf)
  have wp : IntKind.i64.wrap (0 - (mF f).price) = f.price := by
    have : (mF f).price = -f.price := rfl
    rw [this,w64 (by omega)]; omega
  have ws : IntKind.i64.wrap (3 - (mF f).side) = f.side := by
    have : (mF f).side = 3 - f.side := rfl
    rw [this,w64 (by omega)]; omega
  refine ⟨i2,_,z4,⟨by omega,by omega⟩,_,_,_,_,_,_,yAj hf2,true,fun b => b = false,⟨i1,_,x4,⟨by omega,by omega⟩,_,_,_,_,_,_,yAj hf,_,rfl,?_,by (repeat' (first|exact trivial|exact rfl|apply And.intro))⟩,fun b hb => ?_⟩
  · rw [wp,ws]; simp [mF]
  subst hb
  exact Cv.cnd.mk (fun x => by cases x) (fun _ => ⟨k + 1,wjn (by omega),by dsimp only;omega,by dsimp only;omega,by (repeat' (first|exact trivial|exact rfl|apply And.intro))⟩)
end Sx
