/- Texts of ours, one behind the other: a walk that the kernel reckons, and contracts of functions. No condition. -/
import Derived.Test.YtmkgajpdangkaaaRows
import Derived.Test.YtmkgajpdangkaaaM3
namespace Sx
set_option linter.unusedVariables false
open Go Cv Go.Proofs
theorem mixed : Try.prog.follows .mixedOrders = true := by kernel_rfl
structure Lv where
  price : Int
  qty : Int
  count : Int
def lvV (l : Lv) : V := .agg [zF l.price,zF l.qty,zF l.count]
open Go Cv Go.Proofs
def sb (l : List UInt8) : ByteArray := ⟨l.toArray⟩
@[reducible] def sV (l : List UInt8) : V := .d (.v (.string (sb l)))
def sB (l : List UInt8) : Nat × Nat := Utf8.decode (sb l) 0
def dG : Nat → Nat → List UInt8 → List (Nat × Nat)
  | 0,_,_ => []
  | k + 1,p,l => match l with
    | [] => []
    | _ => (p,(sB l).1) :: dG k (p + (sB l).2) (l.drop (sB l).2)
def wJ (s : List UInt8) (p : Nat) : List (Nat × Nat) := dG (s.length - p) p (s.drop p)
def jF (s : List UInt8) : List Nat := (wJ s 0).map (·.2)
def countC : Con := con1 (List UInt8) (fun s => [sV s]) (fun _ => []) (fun s => s.length ≤ 1099511627776) (fun s => zF (jF s).length) (fun _ => [])
def zYh (s : List UInt8) : List SAnn := [{ ι := Nat × Nat,slots := fun x => [(3,zF x.2),(5,.nm 0 0)],rows := fun x => [.iter (sb s) x.1] }]
def jD (r : Nat) : Bool := (decide (65 ≤ r) && decide (r ≤ 90)) || (decide (913 ≤ r) && decide (r ≤ 937) && decide (r ≠ 930))
def qA (s : List UInt8) : Bool := (jF s).all jD && decide (s ≠ []) && decide ((jF s).length ≤ 4)
def symC : Con := con1 (List UInt8) (fun s => [sV s]) (fun _ => []) (fun s => s.length ≤ 1099511627776) (fun s => yP (qA s)) (fun _ => [])
def yAm (s : List UInt8) : List SAnn := [{ ι := Nat,slots := fun x => [(7,.nm 0 0)],rows := fun x => [.iter (sb s) x] }]
def iE (l : List Int) : List (List D) := l.map fun n => [.v (.int .i64 n)]
@[reducible] def iV (l : List Int) : V := roV 1 (iE l)
structure Prd where
  code : List UInt8
  months : List Int
  tick : Int
  low : Int
  high : Int
  wide : Int
  rule : Int
  top : Int
  least : Int
  part : Int
  settle : List Int
  deriving DecidableEq
@[reducible] def Prd.cells (p : Prd) : List V := [sV p.code,iV p.months,zF p.tick,zF p.low,zF p.high,zF p.wide,zF p.rule,zF p.top,zF p.least,zF p.part,iV p.settle]
@[reducible] def prdV (p : Prd) : V := .agg p.cells
@[reducible] def Prd.small (p : Prd) : Prop := p.code.length ≤ 1099511627776 ∧ p.months.length ≤ 1099511627776 ∧ p.settle.length ≤ 1099511627776
def xN (l : List Int) (k : Nat) : Bool := decide (0 ≤ l.getD k 0) && decide (l.getD k 0 ≤ 1199) && (decide (k = 0) || decide (l.getD (k - 1) 0 < l.getD k 0))
def yL (l : List Int) : Bool := (List.range l.length).all (xN l) && decide (2 ≤ l.length) && decide (l.length ≤ 6)
def monthsC : Con := con1 (List Int) (fun l => [iV l]) (fun _ => []) (fun l => l.length ≤ 1099511627776) (fun l => yP (yL l)) (fun _ => [])
def zOo : List SAnn := [{ ι := Nat,slots := fun j => [(7,zF j)],rows := fun _ => [] }]
structure yEd where
  l : List Int
def uN (l : List Int) : Int := l.tail.foldl min (l.headD 0)
def gC (l : List Int) : Int := l.tail.foldl max (l.headD 0)
def minC : Con := con1 (List Int) (fun l => [iV l]) (fun _ => []) (fun l => 0 < l.length ∧ l.length ≤ 1099511627776) (fun l => zF (uN l)) (fun _ => [])
def maxC : Con := con1 (List Int) (fun l => [iV l]) (fun _ => []) (fun l => 0 < l.length ∧ l.length ≤ 1099511627776) (fun l => zF (gC l)) (fun _ => [])
def yBg (l : List Int) : List SAnn := [{ ι := Nat,slots := fun j => [(3,zF (uN (l.take j))),(4,zF j)],rows := fun _ => [] }]
def yBu (l : List Int) : List SAnn := [{ ι := Nat,slots := fun j => [(3,zF (gC (l.take j))),(4,zF j)],rows := fun _ => [] }]
set_option maxRecDepth 100000
open Go Cv Go.Proofs
def zCd (s : List UInt8) : Prop :=
  ∃ (i0 : Nat × Nat),(↑i0.snd : Int) = 0∧sb s = sb s∧i0.fst = 0∧∃ (I : Nat × Nat→Prop),∃ (μ : Nat × Nat→Nat),I i0∧∀ (i : Nat × Nat),I i→cnd (i.fst.blt (sb s).size) (∃ (i' : Nat × Nat),(↑i'.snd : Int) = IntKind.i64.wrap ((↑i.snd : Int) + 1)∧sb s = sb s∧i'.fst = i.fst + (Utf8.decode (sb s) i.fst).snd∧I i'∧μ i' < μ i∧True) (∃ (o : Unit),(↑(jF s).length : Int) = (↑i.snd : Int)∧True)
theorem z3l (s : List UInt8) : zCd s = walk Try.prog ([]) 0 ([]) (zYh s) [] Try.f61 (Try.f61.body.getD .skip) (countC.pat s) (countC.pre s) (countC.alts s) := by kernel_rfl
theorem z1q (hG : GOk Try.prog ([])) (h : ∀ (s : List UInt8),countC.cnd s → zCd s) : countC.ok Try.prog 61 := zE mixed ([]) hG 0 (fun (s : List UInt8) => []) (fun (s : List UInt8) => zYh s) [] Try.func61 (by kernel_rfl) (by kernel_rfl) (by kernel_rfl) (fun _ => by kernel_rfl) (fun (s : List UInt8) hc => Eq.mp (z3l s) (h s hc))
def z1k (s : List UInt8) : Prop :=
  ∃ (i0 : Nat),sb s = sb s∧i0 = 0∧∃ (I : Nat→Prop),∃ (μ : Nat→Nat),I i0∧∀ (i : Nat),I i→cnd (i.blt (sb s).size) (cnd (decide ((↑(Utf8.decode (sb s) i).fst : Int) ≥ 65)) (cnd (decide ((↑(Utf8.decode (sb s) i).fst : Int) ≤ 90)) (∃ (i' : Nat),sb s = sb s∧i' = i + (Utf8.decode (sb s) i).snd∧I i'∧μ i' < μ i∧True) (cnd (decide ((↑(Utf8.decode (sb s) i).fst : Int) ≥ 913)) (cnd (decide ((↑(Utf8.decode (sb s) i).fst : Int) ≤ 937)) (cnd (!(↑(Utf8.decode (sb s) i).fst : Int) != 930) (∃ (o : Unit),qA s = false∧True) (∃ (i' : Nat),sb s = sb s∧i' = i + (Utf8.decode (sb s) i).snd∧I i'∧μ i' < μ i∧True)) (∃ (o : Unit),qA s = false∧True)) (∃ (o : Unit),qA s = false∧True))) (cnd (decide ((↑(Utf8.decode (sb s) i).fst : Int) ≥ 913)) (cnd (decide ((↑(Utf8.decode (sb s) i).fst : Int) ≤ 937)) (cnd (!(↑(Utf8.decode (sb s) i).fst : Int) != 930) (∃ (o : Unit),qA s = false∧True) (∃ (i' : Nat),sb s = sb s∧i' = i + (Utf8.decode (sb s) i).snd∧I i'∧μ i' < μ i∧True)) (∃ (o : Unit),qA s = false∧True)) (∃ (o : Unit),qA s = false∧True))) (cnd (!(sb s).toList == (ByteArray.mk #[]).toList) (∃ (i : List UInt8),sb i = sb s∧i.length ≤ 1099511627776∧∀ (o : Unit),True→∃ (o : Unit),qA s = decide ((↑(jF i).length : Int) ≤ 4)∧True) (∃ (o : Unit),qA s = false∧True))
theorem yCn (s : List UInt8) : z1k s = walk Try.prog ([(61,countC)]) 0 ([]) (yAm s) [] Try.f38 (Try.f38.body.getD .skip) (symC.pat s) (symC.pre s) (symC.alts s) := by kernel_rfl
theorem yCt (hG : GOk Try.prog ([(61,countC)])) (h : ∀ (s : List UInt8),symC.cnd s → z1k s) : symC.ok Try.prog 38 := zE mixed ([(61,countC)]) hG 0 (fun (s : List UInt8) => []) (fun (s : List UInt8) => yAm s) [] Try.func38 (by kernel_rfl) (by kernel_rfl) (by kernel_rfl) (fun _ => by kernel_rfl) (fun (s : List UInt8) hc => Eq.mp (yCn s) (h s hc))
def rE (l : List Int) : Prop :=
  ∃ (i0 : Nat),(↑i0 : Int) = 0∧∃ (I : Nat→Prop),∃ (μ : Nat→Nat),I i0∧∀ (i : Nat),I i→cnd (decide ((↑i : Int) < (↑(iE l).length : Int))) ((0 ≤ (↑i : Int)∧(↑i : Int) < (↑(iE l).length : Int))∧∃ (n : Int),zH (iE l) (↑i : Int).toNat 0 1 = some [D.v (.int .i64 n)]∧cnd (decide (n < 0)) (∃ (o : Unit),yL l = false∧True) (cnd (decide (n > 1199)) (∃ (o : Unit),yL l = false∧True) (cnd (decide ((↑i : Int) > 0)) ((0 ≤ IntKind.i64.wrap ((↑i : Int) - 1)∧IntKind.i64.wrap ((↑i : Int) - 1) < (↑(iE l).length : Int))∧∃ (n_1 : Int),zH (iE l) (IntKind.i64.wrap ((↑i : Int) - 1)).toNat 0 1 = some [D.v (.int .i64 n_1)]∧cnd (decide (n_1 ≥ n)) (∃ (o : Unit),yL l = false∧True) (∃ (i' : Nat),(↑i' : Int) = IntKind.i64.wrap ((↑i : Int) + 1)∧I i'∧μ i' < μ i∧True)) (∃ (i' : Nat),(↑i' : Int) = IntKind.i64.wrap ((↑i : Int) + 1)∧I i'∧μ i' < μ i∧True)))) (cnd (decide ((↑(iE l).length : Int) ≥ 2)) (∃ (o : Unit),yL l = decide ((↑(iE l).length : Int) ≤ 6)∧True) (∃ (o : Unit),yL l = false∧True))
theorem zXb (l : List Int) : rE l = walk Try.prog ([]) 0 ([]) (zOo) [] Try.f39 (Try.f39.body.getD .skip) (monthsC.pat l) (monthsC.pre l) (monthsC.alts l) := by kernel_rfl
theorem zSc (hG : GOk Try.prog ([])) (h : ∀ (l : List Int),monthsC.cnd l → rE l) : monthsC.ok Try.prog 39 := zE mixed ([]) hG 0 (fun (l : List Int) => []) (fun (l : List Int) => zOo) [] Try.func39 (by kernel_rfl) (by kernel_rfl) (by kernel_rfl) (fun _ => by kernel_rfl) (fun (l : List Int) hc => Eq.mp (zXb l) (h l hc))
def z2o (l : List Int) : Prop :=
  cnd (decide ((↑(iE l).length : Int) < 1)) False (((0 : Int) ≤ (0 : Int)∧0 < (↑(iE l).length : Int))∧∃ (n : Int),zH (iE l) (Int.toNat 0) 0 1 = some [D.v (.int .i64 n)]∧∃ (i0 : Nat),uN (List.take i0 l) = n∧(↑i0 : Int) = 1∧∃ (I : Nat→Prop),∃ (μ : Nat→Nat),I i0∧∀ (i : Nat),I i→cnd (decide ((↑i : Int) < (↑(iE l).length : Int))) ((0 ≤ (↑i : Int)∧(↑i : Int) < (↑(iE l).length : Int))∧∃ (n : Int),zH (iE l) (↑i : Int).toNat 0 1 = some [D.v (.int .i64 n)]∧∃ (i' : Nat),uN (List.take i' l) = min (uN (List.take i l)) n∧(↑i' : Int) = IntKind.i64.wrap ((↑i : Int) + 1)∧I i'∧μ i' < μ i∧True) (∃ (o : Unit),uN l = uN (List.take i l)∧True))
theorem yBb (l : List Int) : z2o l = walk Try.prog ([]) 0 ([]) (yBg l) [] Try.f41 (Try.f41.body.getD .skip) (minC.pat l) (minC.pre l) (minC.alts l) := by kernel_rfl
theorem yBk (hG : GOk Try.prog ([])) (h : ∀ (l : List Int),minC.cnd l → z2o l) : minC.ok Try.prog 41 := zE mixed ([]) hG 0 (fun (l : List Int) => []) (fun (l : List Int) => yBg l) [] Try.func41 (by kernel_rfl) (by kernel_rfl) (by kernel_rfl) (fun _ => by kernel_rfl) (fun (l : List Int) hc => Eq.mp (yBb l) (h l hc))
def zYv (l : List Int) : Prop :=
  cnd (decide ((↑(iE l).length : Int) < 1)) False (((0 : Int) ≤ (0 : Int)∧0 < (↑(iE l).length : Int))∧∃ (n : Int),zH (iE l) (Int.toNat 0) 0 1 = some [D.v (.int .i64 n)]∧∃ (i0 : Nat),gC (List.take i0 l) = n∧(↑i0 : Int) = 1∧∃ (I : Nat→Prop),∃ (μ : Nat→Nat),I i0∧∀ (i : Nat),I i→cnd (decide ((↑i : Int) < (↑(iE l).length : Int))) ((0 ≤ (↑i : Int)∧(↑i : Int) < (↑(iE l).length : Int))∧∃ (n : Int),zH (iE l) (↑i : Int).toNat 0 1 = some [D.v (.int .i64 n)]∧∃ (i' : Nat),(gC (List.take i' l) = if n > gC (List.take i l) then n else gC (List.take i l))∧(↑i' : Int) = IntKind.i64.wrap ((↑i : Int) + 1)∧I i'∧μ i' < μ i∧True) (∃ (o : Unit),gC l = gC (List.take i l)∧True))
theorem yBi (l : List Int) : zYv l = walk Try.prog ([]) 0 ([]) (yBu l) [] Try.f42 (Try.f42.body.getD .skip) (maxC.pat l) (maxC.pre l) (maxC.alts l) := by kernel_rfl
theorem yAg (hG : GOk Try.prog ([])) (h : ∀ (l : List Int),maxC.cnd l → zYv l) : maxC.ok Try.prog 42 := zE mixed ([]) hG 0 (fun (l : List Int) => []) (fun (l : List Int) => yBu l) [] Try.func42 (by kernel_rfl) (by kernel_rfl) (by kernel_rfl) (fun _ => by kernel_rfl) (fun (l : List Int) hc => Eq.mp (yBi l) (h l hc))
set_option linter.unusedSimpArgs false
open Go Cv Go.Proofs
@[simp] theorem zOn (s : List UInt8) : (sb s).size = s.length := by simp [sb,ByteArray.size]
theorem mM (s : List UInt8) : (sb s).toList = s := by rw [ByteArray.toList_eq]; rfl
theorem z8l (s : List UInt8) (p k : Nat) : (sb s).get! (p + k) = (sb (s.drop p)).get! (0 + k) := by
  simp only [sb,ByteArray.get!,Nat.zero_add]
  simp only [List.getElem!_toArray,List.getElem!_eq_getElem?_getD,List.getElem?_drop]
theorem nQ (s : List UInt8) (p : Nat) : Utf8.decode (sb s) p = sB (s.drop p) := by
  have h (k : Nat) : (decide (p + k < (sb s).size)) = decide (0 + k < (sb (s.drop p)).size) := by
    simp only [zOn,List.length_drop]
    by_cases h : p + k < s.length
    · rw [decide_eq_true h,decide_eq_true (by omega)]
    · rw [decide_eq_false h,decide_eq_false (by omega)]
  unfold sB Utf8.decode
  simp only [z8l s p,h]
theorem uK (s : List UInt8) {p : Nat} (h : p < s.length) : 1 ≤ (Utf8.decode (sb s) p).2 ∧ p + (Utf8.decode (sb s) p).2 ≤ s.length := by
  unfold Utf8.decode
  simp only [zOn,Bool.and_eq_true,decide_eq_true_eq]
  split
  · exact ⟨by simp,by simp; omega⟩
  split
  · rename_i h1
    split
    · exact ⟨by simp,by simp; omega⟩
    · exact ⟨by simp,by simp; omega⟩
  split
  · rename_i h1
    split
    · exact ⟨by simp,by simp; omega⟩
    · exact ⟨by simp,by simp; omega⟩
  split
  · rename_i h1
    split
    · exact ⟨by simp,by simp; omega⟩
    · exact ⟨by simp,by simp; omega⟩
  · exact ⟨by simp,by simp; omega⟩
theorem z6g {l : List UInt8} (h : l ≠ []) : 1 ≤ (sB l).2 ∧ (sB l).2 ≤ l.length := by
  have := uK l (p := 0) (by cases l <;> simp_all)
  rw [sB]; omega
theorem h9 : ∀ (k : Nat) (p : Nat) (l : List UInt8),l.length ≤ k → dG k p l = dG l.length p l
  | 0,p,l,h => by
    have : l = [] := List.eq_nil_of_length_eq_zero (by omega)
    subst this; rfl
  | k + 1,p,[],h => rfl
  | k + 1,p,b :: l,h => by
    have hw := z6g (l := b :: l) (by simp)
    have hl : ((b :: l).drop (sB (b :: l)).2).length ≤ l.length := by rw [List.length_drop,List.length_cons]; omega
    rw [List.length_cons]
    simp only [dG]
    rw [h9 k _ _ (by rw [List.length_cons] at h; omega),h9 l.length _ _ hl]
theorem vJ {s : List UInt8} {p : Nat} (h : s.length ≤ p) : wJ s p = [] := by
  rw [wJ,show s.length - p = 0 by omega]; rfl
theorem jW {s : List UInt8} {p : Nat} (h : p < s.length) : wJ s p = (p,(Utf8.decode (sb s) p).1) :: wJ s (p + (Utf8.decode (sb s) p).2) := by
  obtain ⟨k,hk⟩ : ∃ k,s.length - p = k + 1 := ⟨s.length - p - 1,by omega⟩
  have hw := uK s h
  obtain ⟨b,l,hb⟩ : ∃ b l,s.drop p = b :: l := by
    cases hd : s.drop p with
    | nil => rw [List.drop_eq_nil_iff] at hd; omega
    | cons b l => exact ⟨b,l,rfl⟩
  have hlen : (b :: l).length = s.length - p := by rw [← hb,List.length_drop]
  rw [wJ,hk,hb,nQ,hb,wJ]
  rw [nQ,hb] at hw
  simp only [dG]
  have e : (b :: l).drop (sB (b :: l)).2 = s.drop (p + (sB (b :: l)).2) := by rw [← hb,List.drop_drop]
  rw [e,h9 k _ _ (by rw [List.length_drop]; omega),List.length_drop]
theorem eG (s : List UInt8) : ∀ (k p : Nat),s.length - p ≤ k → (wJ s p).length ≤ s.length - p
  | 0,p,h => by rw [vJ (by omega)]; simp
  | k + 1,p,h => by
    by_cases hp : p < s.length
    · have hw := uK s hp
      rw [jW hp,List.length_cons]
      have := eG s k (p + (Utf8.decode (sb s) p).2) (by omega)
      omega
    · rw [vJ (by omega)]; simp
theorem lV (s : List UInt8) : (jF s).length ≤ s.length := by
  rw [jF,List.length_map]
  have := eG s s.length 0 (by omega)
  omega
theorem zUv {a b : Nat} (h : Nat.blt a b = false) : b ≤ a := by
  rcases Nat.lt_or_ge a b with h1 | h1
  · rw [show Nat.blt a b = true by rw [Nat.blt_eq]; exact h1] at h; cases h
  · exact h1
theorem zXc : (ByteArray.mk #[]).toList = [] := mM []
theorem z7x (s : List UInt8) (h : countC.cnd s) : zCd s := by
  have h : s.length ≤ 1099511627776 := h
  have hr := lV s
  unfold zCd
  refine ⟨(0,0),rfl,rfl,rfl,fun x => x.1 ≤ s.length ∧ x.2 + (wJ s x.1).length = (jF s).length,fun x => s.length - x.1,⟨by omega,by rw [jF,List.length_map]; simp⟩,?_⟩
  rintro ⟨p,n⟩ ⟨h1,h2⟩
  dsimp only at h1 h2 ⊢
  refine Cv.cnd.mk (fun hp => ?_) (fun hp => ?_)
  · have hp : p < s.length := by simpa [Nat.blt_eq] using hp
    have hw := uK s hp
    rw [jW hp,List.length_cons] at h2
    refine ⟨(p + (Utf8.decode (sb s) p).2,n + 1),?_,rfl,rfl,⟨hw.2,by (first | omega | (dsimp only; omega))⟩,by (first | omega | (dsimp only; omega)),trivial⟩
    rw [w64 (by omega)]; rfl
  · have hp : s.length ≤ p := by have := zUv hp; simpa using this
    rw [vJ hp] at h2
    exact ⟨(),by rw [← h2]; rfl,trivial⟩
theorem zTr : countC.ok Try.prog 61 := z1q gok0 z7x
theorem yDg (s : List UInt8) (h : symC.cnd s) : z1k s := by
  have h : s.length ≤ 1099511627776 := h
  unfold z1k
  refine ⟨0,rfl,rfl,fun p => p ≤ s.length ∧ (jF s).all jD = (wJ s p).all fun x => jD x.2,fun p => s.length - p,⟨by omega,by rw [jF,List.all_map]; rfl⟩,?_⟩
  rintro p ⟨h1,h2⟩
  refine Cv.cnd.mk (fun hp => ?_) (fun hp => ?_)
  · have hp : p < s.length := by simpa [Nat.blt_eq] using hp
    have hw := uK s hp
    rw [jW hp,List.all_cons] at h2
    generalize hc : (Utf8.decode (sb s) p).1 = c at h2 ⊢
    generalize hww : (Utf8.decode (sb s) p).2 = w at h2 hw ⊢
    dsimp only at h2
    have bad : jD c = false → ∃ (o : Unit),qA s = false ∧ True := fun e => ⟨(),by rw [qA,h2,e]; rfl,trivial⟩
    have good : jD c = true → ∃ i' : Nat,sb s = sb s ∧ i' = p + w ∧ (i' ≤ s.length ∧ (jF s).all jD = (wJ s i').all fun x => jD x.2) ∧ s.length - i' < s.length - p ∧ True := fun e => ⟨p + w,rfl,rfl,⟨hw.2,by rw [h2,e]; rfl⟩,by omega,trivial⟩
    refine zU (fun c1 => zU (fun c2 => ?_) (fun c2 => zU (fun c3 => zU (fun c4 => Cv.cnd.mk (fun c5 => ?_) (fun c5 => ?_)) (fun c4 => ?_)) (fun c3 => ?_))) (fun c1 => zU (fun c3 => zU (fun c4 => Cv.cnd.mk (fun c5 => ?_) (fun c5 => ?_)) (fun c4 => ?_)) (fun c3 => ?_))
    all_goals first | (refine good ?_; simp [jD] at *; omega) | (refine bad ?_; simp [jD] at *; omega)
  · have hp : s.length ≤ p := by have := zUv hp; simpa using this
    rw [vJ hp] at h2
    have h2 : (jF s).all jD = true := h2
    refine Cv.cnd.mk (fun e => ⟨s,rfl,h,fun _ _ => ⟨(),?_,trivial⟩⟩) (fun e => ⟨(),?_,trivial⟩)
    · rw [mM,zXc] at e
      have : s ≠ [] := by simpa using e
      rw [qA,h2,decide_eq_true this]
      simp only [Bool.true_and]
      congr 1
      simp only [eq_iff_iff]; omega
    · have : s = [] := by
        rw [mM,zXc] at e
        simpa using e
      rw [qA,this]; rfl
theorem z6b : symC.ok Try.prog 38 := yCt (gokc zTr gok0) yDg
@[simp] theorem yY (l : List Int) : (iE l).length = l.length := by simp [iE]
theorem elI {l : List Int} {k : Nat} {n : Int} (h : l[k]? = some n) : zH (iE l) k 0 1 = some [D.v (.int .i64 n)] := by
  simp [zH,iE,h]; rfl
theorem yC {α : Type} {l : List α} {i : Nat} (h : i < l.length) : ∃ x,l[i]? = some x := ⟨l[i],List.getElem?_eq_getElem h⟩
theorem zAj {n k : Nat} {f : Nat → Bool} (hk : k < n) (h : f k = false) : (List.range n).all f = false := by
  cases hh : (List.range n).all f
  · rfl
  · rw [List.all_eq_true] at hh
    rw [hh k (by simpa using hk)] at h; cases h
theorem zFx {n : Nat} {f : Nat → Bool} (h : ∀ k < n,f k = true) : (List.range n).all f = true := by
  rw [List.all_eq_true]; intro k hk; exact h k (by simpa using hk)
theorem zZw (l : List Int) (h : monthsC.cnd l) : rE l := by
  have h : l.length ≤ 1099511627776 := h
  unfold rE
  simp only [yY]
  refine ⟨0,rfl,fun j => j ≤ l.length ∧ ∀ k < j,xN l k = true,fun j => l.length - j,⟨by omega,fun k hk => by omega⟩,?_⟩
  rintro j ⟨h1,h2⟩
  have bad : j < l.length → xN l j = false → ∃ (o : Unit),yL l = false ∧ True := fun hj e => ⟨(),by rw [yL,zAj hj e]; rfl,trivial⟩
  have good : j < l.length → xN l j = true → ∃ i' : Nat,(i' : Int) = IntKind.i64.wrap ((j : Int) + 1) ∧ (i' ≤ l.length ∧ ∀ k < i',xN l k = true) ∧ l.length - i' < l.length - j ∧ True := fun hj e => ⟨j + 1,by rw [w64 (by omega)]; rfl,⟨by omega,fun k hk => by
    rcases Nat.lt_or_ge k j with hk' | hk'
    · exact h2 k hk'
    · obtain rfl : k = j := by omega
      exact e⟩,by omega,trivial⟩
  refine zU (fun hj => ?_) (fun hj => ?_)
  · have hj : j < l.length := by omega
    obtain ⟨n,hn⟩ := yC hj
    have hg : l.getD j 0 = n := by simp [hn]
    refine ⟨⟨by omega,by omega⟩,n,elI hn,zU (fun c1 => bad hj (by simp [xN,hn]; omega)) (fun c1 => zU (fun c2 => bad hj (by simp [xN,hn]; omega)) (fun c2 => zU (fun c3 => ?_) (fun c3 => good hj ?_)))⟩
    · have e : IntKind.i64.wrap ((j : Int) - 1) = ((j - 1 : Nat) : Int) := by rw [w64 (by omega)]; omega
      obtain ⟨m,hm⟩ := yC (l := l) (i := j - 1) (by omega)
      rw [e]
      refine ⟨⟨by omega,by omega⟩,m,elI hm,zU (fun c4 => bad hj ?_) (fun c4 => good hj ?_)⟩
      · simp [xN,hn,hm]; omega
      · simp [xN,hn,hm]; omega
    · simp [xN,hn]; omega
  · have e : (List.range l.length).all (xN l) = true := zFx fun k hk => h2 k (by omega)
    refine zU (fun c => ⟨(),?_,trivial⟩) (fun c => ⟨(),?_,trivial⟩)
    · rw [yL,e,decide_eq_true (show 2 ≤ l.length by omega)]
      simp; omega
    · rw [yL,decide_eq_false (show ¬ 2 ≤ l.length by omega)]; simp
theorem zQz : monthsC.ok Try.prog 39 := zSc gok0 zZw
theorem mJ {f : Int → Int → Int} {l : List Int} {j : Nat} {n : Int} (h : l[j + 1]? = some n) : (l.take (j + 2)).tail.foldl f ((l.take (j + 2)).headD 0) = f ((l.take (j + 1)).tail.foldl f ((l.take (j + 1)).headD 0)) n := by
  cases l with
  | nil => simp at h
  | cons a l =>
    simp only [List.getElem?_cons_succ] at h
    simp only [List.take_succ_cons,List.tail_cons,List.headD_cons]
    rw [List.take_add_one,h,List.foldl_append]; rfl
theorem zHx {l : List Int} {n : Int} (h : l[0]? = some n) (f : Int → Int → Int) : (l.take 1).tail.foldl f ((l.take 1).headD 0) = n := by
  cases l with
  | nil => simp at h
  | cons a l => simpa using h
theorem yDt (l : List Int) (h : minC.cnd l) : z2o l := by
  obtain ⟨h0,h⟩ : 0 < l.length ∧ l.length ≤ 1099511627776 := h
  unfold z2o
  simp only [yY]
  obtain ⟨n,hn⟩ := yC h0
  refine zU (fun c => by omega) (fun c => ⟨⟨by omega,by omega⟩,n,elI hn,1,zHx hn min,rfl,fun j => 1 ≤ j ∧ j ≤ l.length,fun j => l.length - j,⟨by omega,by omega⟩,?_⟩)
  rintro j ⟨h1,h2⟩
  refine zU (fun hj => ?_) (fun hj => ⟨(),?_,trivial⟩)
  · obtain ⟨m,hm⟩ := yC (l := l) (i := j) (by omega)
    refine ⟨⟨by omega,by omega⟩,m,elI hm,j + 1,?_,?_,⟨by omega,by omega⟩,by (first | omega | (dsimp only; omega)),trivial⟩
    · obtain ⟨k,rfl⟩ : ∃ k,j = k + 1 := ⟨j - 1,by omega⟩
      first
        | (rw [uN,mJ hm,← uN]; done)
        | (rw [uN,mJ hm,← uN]; generalize uN (l.take (k + 1)) = x; split <;> omega)
    · rw [w64 (by omega)]; rfl
  · rw [List.take_of_length_le (by omega)]
theorem z5q : minC.ok Try.prog 41 := yBk gok0 yDt
theorem yDv (l : List Int) (h : maxC.cnd l) : zYv l := by
  obtain ⟨h0,h⟩ : 0 < l.length ∧ l.length ≤ 1099511627776 := h
  unfold zYv
  simp only [yY]
  obtain ⟨n,hn⟩ := yC h0
  refine zU (fun c => by omega) (fun c => ⟨⟨by omega,by omega⟩,n,elI hn,1,zHx hn max,rfl,fun j => 1 ≤ j ∧ j ≤ l.length,fun j => l.length - j,⟨by omega,by omega⟩,?_⟩)
  rintro j ⟨h1,h2⟩
  refine zU (fun hj => ?_) (fun hj => ⟨(),?_,trivial⟩)
  · obtain ⟨m,hm⟩ := yC (l := l) (i := j) (by omega)
    refine ⟨⟨by omega,by omega⟩,m,elI hm,j + 1,?_,?_,⟨by omega,by omega⟩,by (first | omega | (dsimp only; omega)),trivial⟩
    · obtain ⟨k,rfl⟩ : ∃ k,j = k + 1 := ⟨j - 1,by omega⟩
      rw [gC,mJ hm,← gC]
      generalize gC (l.take (k + 1)) = x
      split <;> omega
    · rw [w64 (by omega)]; rfl
  · rw [List.take_of_length_le (by omega)]
theorem z9m : maxC.ok Try.prog 42 := yAg gok0 yDv
open Go Cv Go.Proofs
@[reducible] def Prd.row (p : Prd) : AObj := .cells p.cells 25
structure pD where
  p : Prd
  n : Int
structure gB where
  p : Prd
  l : List Int
def y8 (t n : Int) : Bool := n.tmod t != 0
def offC : Con := con1 pD (fun i => [zF i.n,.nm 0 0]) (fun i => [i.p.row]) (fun i => 1 ≤ i.p.tick) (fun i => yP (y8 i.p.tick i.n)) (fun i => [i.p.row])
@[reducible] def yAk : V := .fn 62 [] [.nm 0 0]
def nJ (k : Option Nat) : Int := match k with
  | some k => k
  | none => -1
def idxC : Con := con1 gB (fun i => [iV i.l,yAk]) (fun i => [i.p.row]) (fun i => 1 ≤ i.p.tick ∧ i.l.length ≤ 1099511627776) (fun i => zF (nJ (i.l.findIdx? (y8 i.p.tick)))) (fun i => [i.p.row])
def yCr (i : gB) : List SAnn := [{ ι := Nat,slots := fun j => [(8,zF j)],rows := fun _ => [] }]
def containsC : Con := con1 gB (fun i => [iV i.l,yAk]) (fun i => [i.p.row]) (fun i => 1 ≤ i.p.tick ∧ i.l.length ≤ 1099511627776) (fun i => yP (i.l.any (y8 i.p.tick))) (fun i => [i.p.row])
def xA (p : Prd) : Bool := decide (1 ≤ p.tick) && decide (p.tick ≤ 1000) && !y8 p.tick p.low && !y8 p.tick p.high && !y8 p.tick p.wide && !p.settle.any (y8 p.tick)
def ticksC : Con := con1 Prd (fun p => [prdV p]) (fun _ => []) Prd.small (fun p => yP (xA p)) (fun _ => [])
def y9 (p : Prd) : Bool := decide (p.low < -1000000) || decide (p.low ≥ p.high) || decide (p.high > 1000000) || decide (p.wide < 0) || decide (p.wide > p.high - p.low)
def yM (p : Prd) : Bool := decide (p.settle.length ≠ p.months.length) || decide (uN p.settle < p.low) || decide (gC p.settle > p.high)
def xG (p : Prd) : Bool := decide (p.rule < 1) || decide (p.rule > 3)
def y5 (p : Prd) : Bool := decide (p.top < 0) || decide (p.top > 1000000) || decide (p.least < 1) || decide (p.least > 1000) || decide (p.part < 0) || decide (p.part > 100)
def Prd.check (p : Prd) : Int :=
  if !qA p.code then 12 else if !yL p.months then 1 else if !xA p then 22 else if y9 p then 23 else if yM p then 1 else if xG p then 31 else if y5 p then 24 else 0
def checkC : Con := con1 Prd (fun p => [prdV p]) (fun _ => []) Prd.small (fun p => zF p.check) (fun _ => [])
def Prd.count (p : Prd) : Nat := if p.check = 0 then p.months.length + p.months.length * (p.months.length - 1) / 2 else 0
def pcountC : Con := con1 Prd (fun p => [prdV p]) (fun _ => []) Prd.small (fun p => zF p.count) (fun _ => [])
structure wA where
  p : Prd
  n : Int
def z5 (n : Nat) : Nat → Nat
  | 0 => n
  | k + 1 => z5 n k + (n - 1 - k)
def xZ (n inst : Nat) : Nat → Nat → Int × Int × Bool
  | 0,_ => (0,0,false)
  | k + 1,m => if inst < z5 n m + (n - 1 - m) then (m,m + 1 + (inst - z5 n m : Nat),true) else xZ n inst k (m + 1)
def Prd.legs (p : Prd) (i : Int) : Int × Int × Bool :=
  if i < 0 ∨ (p.count : Int) ≤ i then (0,0,false) else if i < p.months.length then (i,i,false) else xZ p.months.length i.toNat p.months.length 0
def legsC : Con := con1 wA (fun i => [prdV i.p,zF i.n]) (fun _ => []) (fun i => i.p.small) (fun i => .tup [zF (i.p.legs i.n).1,zF (i.p.legs i.n).2.1,yP (i.p.legs i.n).2.2]) (fun _ => [])
structure wZ where
  p : Prd
  a : Int
  b : Int
def Prd.spread (p : Prd) (a b : Int) : Int × Bool :=
  if p.check ≠ 0 ∨ a < 0 ∨ b ≤ a ∨ (p.months.length : Int) ≤ b then (0,false) else ((z5 p.months.length a.toNat : Int) + b - a - 1,true)
def spreadC : Con := con1 wZ (fun i => [prdV i.p,zF i.a,zF i.b]) (fun _ => []) (fun i => i.p.small) (fun i => .tup [zF (i.p.spread i.a i.b).1,yP (i.p.spread i.a i.b).2]) (fun _ => [])
def Prd.price (p : Prd) (i n : Int) : Int :=
  if p.count = 0 then 1 else if i < 0 ∨ (p.count : Int) ≤ i then 20 else if y8 p.tick n then 22 else
  if n < (if (p.months.length : Int) ≤ i then -p.wide else p.low) ∨ (if (p.months.length : Int) ≤ i then p.wide else p.high) < n then 23 else 0
def priceC : Con := con1 wZ (fun i => [prdV i.p,zF i.a,zF i.b]) (fun _ => []) (fun i => i.p.small) (fun i => zF (i.p.price i.a i.b)) (fun _ => [])
structure I2 where
  x : Int
  y : Int
@[reducible] def yN (n : Int) : Prop := -9223372036854775808 ≤ n∧n ≤ 9223372036854775807
def kP (x y : Int) : Int × Bool := if yN (x + y) then (x + y,true) else (0,false)
def kM (x y : Int) : Int × Bool := if yN (x - y) then (x - y,true) else (0,false)
def addC : Con := con1 I2 (fun i => [zF i.x,zF i.y]) (fun _ => []) (fun i => yN i.x ∧ yN i.y) (fun i => .tup [zF (kP i.x i.y).1,yP (kP i.x i.y).2]) (fun _ => [])
def subC : Con := con1 I2 (fun i => [zF i.x,zF i.y]) (fun _ => []) (fun i => yN i.x ∧ yN i.y) (fun i => .tup [zF (kM i.x i.y).1,yP (kM i.x i.y).2]) (fun _ => [])
def z4w (i : wA) : List SAnn := [{ ι := Nat,slots := fun m => [(8,zF (z5 i.p.months.length m)),(33,zF m)],rows := fun _ => [] }]
def zLx (i : wZ) : List SAnn := [{ ι := Nat,slots := fun m => [(9,zF (z5 i.p.months.length m)),(33,zF m)],rows := fun _ => [] }]
open Go Cv Go.Proofs
def z0c (i : pD) : Prop :=
  IntKind.i64 = IntKind.i64∧i.p.tick ≠ 0∧∃ (o : Unit),y8 i.p.tick i.n = (i.n.tmod i.p.tick != 0)∧sb i.p.code = sb i.p.code∧iE i.p.months = iE i.p.months∧i.p.tick = i.p.tick∧i.p.low = i.p.low∧i.p.high = i.p.high∧i.p.wide = i.p.wide∧i.p.rule = i.p.rule∧i.p.top = i.p.top∧i.p.least = i.p.least∧i.p.part = i.p.part∧iE i.p.settle = iE i.p.settle∧True
theorem yAx (i : pD) : z0c i = walk Try.prog ([]) 0 ([]) ([]) [] Try.f62 (Try.f62.body.getD .skip) (offC.pat i) (offC.pre i) (offC.alts i) := by kernel_rfl
theorem yAl (hG : GOk Try.prog ([])) (h : ∀ (i : pD),offC.cnd i → z0c i) : offC.ok Try.prog 62 := zE mixed ([]) hG 0 (fun (i : pD) => []) (fun (i : pD) => []) [] Try.func62 (by kernel_rfl) (by kernel_rfl) (by kernel_rfl) (fun _ => by kernel_rfl) (fun (i : pD) hc => Eq.mp (yAx i) (h i hc))
def z3v (i : gB) : Prop :=
  ∃ (i0 : Nat),(↑i0 : Int) = 0∧∃ (I : Nat→Prop),∃ (μ : Nat→Nat),I i0∧∀ (i_1 : Nat),I i_1→cnd (decide ((↑i_1 : Int) < (↑(iE i.l).length : Int))) ((0 ≤ (↑i_1 : Int)∧(↑i_1 : Int) < (↑(iE i.l).length : Int))∧∃ (n : Int),zH (iE i.l) (↑i_1 : Int).toNat 0 1 = some [D.v (.int .i64 n)]∧∃ (i_2 : pD),i_2.n = n∧sb i_2.p.code = sb i.p.code∧iE i_2.p.months = iE i.p.months∧i_2.p.tick = i.p.tick∧i_2.p.low = i.p.low∧i_2.p.high = i.p.high∧i_2.p.wide = i.p.wide∧i_2.p.rule = i.p.rule∧i_2.p.top = i.p.top∧i_2.p.least = i.p.least∧i_2.p.part = i.p.part∧iE i_2.p.settle = iE i.p.settle∧1 ≤ i_2.p.tick∧∀ (o : Unit),True→cnd (y8 i_2.p.tick i_2.n) (∃ (o : Unit),nJ (List.findIdx? (y8 i.p.tick) i.l) = (↑i_1 : Int)∧sb i.p.code = sb i_2.p.code∧iE i.p.months = iE i_2.p.months∧i.p.tick = i_2.p.tick∧i.p.low = i_2.p.low∧i.p.high = i_2.p.high∧i.p.wide = i_2.p.wide∧i.p.rule = i_2.p.rule∧i.p.top = i_2.p.top∧i.p.least = i_2.p.least∧i.p.part = i_2.p.part∧iE i.p.settle = iE i_2.p.settle∧True) (∃ (i' : Nat),(↑i' : Int) = IntKind.i64.wrap ((↑i_1 : Int) + 1)∧I i'∧μ i' < μ i_1∧Sx.AObj.cells (gG (cD 1 ((1 : Nat) + (0 : Nat)) ((1 : Nat) - (1 : Nat)) [((0 : Nat),(0 : Nat))]) i_2.p.cells) (25 : TypeId) = i.p.row)) (∃ (o : Unit),nJ (List.findIdx? (y8 i.p.tick) i.l) = (-1)∧sb i.p.code = sb i.p.code∧iE i.p.months = iE i.p.months∧i.p.tick = i.p.tick∧i.p.low = i.p.low∧i.p.high = i.p.high∧i.p.wide = i.p.wide∧i.p.rule = i.p.rule∧i.p.top = i.p.top∧i.p.least = i.p.least∧i.p.part = i.p.part∧iE i.p.settle = iE i.p.settle∧True)
theorem yAv (i : gB) : z3v i = walk Try.prog ([(62,offC)]) 0 ([]) (yCr i) [] Try.f81 (Try.f81.body.getD .skip) (idxC.pat i) (idxC.pre i) (idxC.alts i) := by kernel_rfl
theorem yCu (hG : GOk Try.prog ([(62,offC)])) (h : ∀ (i : gB),idxC.cnd i → z3v i) : idxC.ok Try.prog 81 := zE mixed ([(62,offC)]) hG 0 (fun (i : gB) => []) (fun (i : gB) => yCr i) [] Try.func81 (by kernel_rfl) (by kernel_rfl) (by kernel_rfl) (fun _ => by kernel_rfl) (fun (i : gB) hc => Eq.mp (yAv i) (h i hc))
def m8 (i : gB) : Prop :=
  ∃ (i_1 : gB),iE i_1.l = iE i.l∧sb i_1.p.code = sb i.p.code∧iE i_1.p.months = iE i.p.months∧i_1.p.tick = i.p.tick∧i_1.p.low = i.p.low∧i_1.p.high = i.p.high∧i_1.p.wide = i.p.wide∧i_1.p.rule = i.p.rule∧i_1.p.top = i.p.top∧i_1.p.least = i.p.least∧i_1.p.part = i.p.part∧iE i_1.p.settle = iE i.p.settle∧(1 ≤ i_1.p.tick∧i_1.l.length ≤ 1099511627776)∧∀ (o : Unit),True→∃ (o : Unit),i.l.any (y8 i.p.tick) = decide (nJ (List.findIdx? (y8 i_1.p.tick) i_1.l) ≥ 0)∧sb i.p.code = sb i_1.p.code∧iE i.p.months = iE i_1.p.months∧i.p.tick = i_1.p.tick∧i.p.low = i_1.p.low∧i.p.high = i_1.p.high∧i.p.wide = i_1.p.wide∧i.p.rule = i_1.p.rule∧i.p.top = i_1.p.top∧i.p.least = i_1.p.least∧i.p.part = i_1.p.part∧iE i.p.settle = iE i_1.p.settle∧True
theorem zKa (i : gB) : m8 i = walk Try.prog ([(81,idxC)]) 0 ([]) ([]) [] Try.f63 (Try.f63.body.getD .skip) (containsC.pat i) (containsC.pre i) (containsC.alts i) := by kernel_rfl
theorem zJx (hG : GOk Try.prog ([(81,idxC)])) (h : ∀ (i : gB),containsC.cnd i → m8 i) : containsC.ok Try.prog 63 := zE mixed ([(81,idxC)]) hG 0 (fun (i : gB) => []) (fun (i : gB) => []) [] Try.func63 (by kernel_rfl) (by kernel_rfl) (by kernel_rfl) (fun _ => by kernel_rfl) (fun (i : gB) hc => Eq.mp (zKa i) (h i hc))
def zEr (p : Prd) : Prop :=
  cnd (decide (p.tick < 1)) (∃ (o : Unit),xA p = false∧True) (cnd (decide (p.tick > 1000)) (∃ (o : Unit),xA p = false∧True) (∃ (i : pD),i.n = p.low∧sb i.p.code = sb p.code∧iE i.p.months = iE p.months∧i.p.tick = p.tick∧i.p.low = p.low∧i.p.high = p.high∧i.p.wide = p.wide∧i.p.rule = p.rule∧i.p.top = p.top∧i.p.least = p.least∧i.p.part = p.part∧iE i.p.settle = iE p.settle∧1 ≤ i.p.tick∧∀ (o : Unit),True→cnd (!y8 i.p.tick i.n) (∃ (i_1 : pD),i_1.n = i.p.high∧sb i_1.p.code = sb i.p.code∧iE i_1.p.months = iE i.p.months∧i_1.p.tick = i.p.tick∧i_1.p.low = i.p.low∧i_1.p.high = i.p.high∧i_1.p.wide = i.p.wide∧i_1.p.rule = i.p.rule∧i_1.p.top = i.p.top∧i_1.p.least = i.p.least∧i_1.p.part = i.p.part∧iE i_1.p.settle = iE i.p.settle∧1 ≤ i_1.p.tick∧∀ (o : Unit),True→cnd (!y8 i_1.p.tick i_1.n) (∃ (i : pD),i.n = i_1.p.wide∧sb i.p.code = sb i_1.p.code∧iE i.p.months = iE i_1.p.months∧i.p.tick = i_1.p.tick∧i.p.low = i_1.p.low∧i.p.high = i_1.p.high∧i.p.wide = i_1.p.wide∧i.p.rule = i_1.p.rule∧i.p.top = i_1.p.top∧i.p.least = i_1.p.least∧i.p.part = i_1.p.part∧iE i.p.settle = iE i_1.p.settle∧1 ≤ i.p.tick∧∀ (o : Unit),True→cnd (!y8 i.p.tick i.n) (∃ (i_2 : gB),iE i_2.l = iE i.p.settle∧sb i_2.p.code = sb i.p.code∧iE i_2.p.months = iE i.p.months∧i_2.p.tick = i.p.tick∧i_2.p.low = i.p.low∧i_2.p.high = i.p.high∧i_2.p.wide = i.p.wide∧i_2.p.rule = i.p.rule∧i_2.p.top = i.p.top∧i_2.p.least = i.p.least∧i_2.p.part = i.p.part∧iE i_2.p.settle = iE i.p.settle∧(1 ≤ i_2.p.tick∧i_2.l.length ≤ 1099511627776)∧∀ (o : Unit),True→∃ (o : Unit),xA p = !i_2.l.any (y8 i_2.p.tick)∧True) (∃ (o : Unit),xA p = false∧True)) (∃ (o : Unit),xA p = false∧True)) (∃ (o : Unit),xA p = false∧True)))
theorem z3h (p : Prd) : zEr p = walk Try.prog ([(62,offC),(63,containsC)]) 0 ([]) ([]) [] Try.f40 (Try.f40.body.getD .skip) (ticksC.pat p) (ticksC.pre p) (ticksC.alts p) := by kernel_rfl
theorem zZn (hG : GOk Try.prog ([(62,offC),(63,containsC)])) (h : ∀ (p : Prd),ticksC.cnd p → zEr p) : ticksC.ok Try.prog 40 := zE mixed ([(62,offC),(63,containsC)]) hG 0 (fun (p : Prd) => []) (fun (p : Prd) => []) [] Try.func40 (by kernel_rfl) (by kernel_rfl) (by kernel_rfl) (fun _ => by kernel_rfl) (fun (p : Prd) hc => Eq.mp (z3h p) (h p hc))
def zCt (p : Prd) : Prop :=
  ∃ (i : List UInt8),sb i = sb p.code∧i.length ≤ 1099511627776∧∀ (o : Unit),True→cnd (!qA i) (∃ (o : Unit),p.check = 12∧True) (∃ (i : List Int),iE i = iE p.months∧i.length ≤ 1099511627776∧∀ (o : Unit),True→cnd (!yL i) (∃ (o : Unit),p.check = 1∧True) (∃ (i : Prd),sb i.code = sb p.code∧iE i.months = iE p.months∧i.tick = p.tick∧i.low = p.low∧i.high = p.high∧i.wide = p.wide∧i.rule = p.rule∧i.top = p.top∧i.least = p.least∧i.part = p.part∧iE i.settle = iE p.settle∧(i.code.length ≤ 1099511627776∧i.months.length ≤ 1099511627776∧i.settle.length ≤ 1099511627776)∧∀ (o : Unit),True→cnd (!xA i) (∃ (o : Unit),p.check = 22∧True) (cnd (decide (p.low < (-1000000))) (∃ (o : Unit),p.check = 23∧True) (cnd (decide (p.low ≥ p.high)) (∃ (o : Unit),p.check = 23∧True) (cnd (decide (p.high > 1000000)) (∃ (o : Unit),p.check = 23∧True) (cnd (decide (p.wide < 0)) (∃ (o : Unit),p.check = 23∧True) (cnd (decide (p.wide > IntKind.i64.wrap (p.high - p.low))) (∃ (o : Unit),p.check = 23∧True) (cnd ((↑(iE p.settle).length : Int) != (↑(iE p.months).length : Int)) (∃ (o : Unit),p.check = 1∧True) (∃ (i : List Int),iE i = iE p.settle∧(0 < i.length∧i.length ≤ 1099511627776)∧∀ (o : Unit),True→p.low = p.low∧cnd (decide (uN i < p.low)) (∃ (o : Unit),p.check = 1∧True) (∃ (i : List Int),iE i = iE p.settle∧(0 < i.length∧i.length ≤ 1099511627776)∧∀ (o : Unit),True→p.high = p.high∧cnd (decide (gC i > p.high)) (∃ (o : Unit),p.check = 1∧True) (cnd (decide (p.rule < 1)) (∃ (o : Unit),p.check = 31∧True) (cnd (decide (p.rule > 3)) (∃ (o : Unit),p.check = 31∧True) (cnd (decide (p.top < 0)) (∃ (o : Unit),p.check = 24∧True) (cnd (decide (p.top > 1000000)) (∃ (o : Unit),p.check = 24∧True) (cnd (decide (p.least < 1)) (∃ (o : Unit),p.check = 24∧True) (cnd (decide (p.least > 1000)) (∃ (o : Unit),p.check = 24∧True) (cnd (decide (p.part < 0)) (∃ (o : Unit),p.check = 24∧True) (cnd (decide (p.part > 100)) (∃ (o : Unit),p.check = 24∧True) (∃ (o : Unit),p.check = 0∧True)))))))))))))))))))
theorem z4h (p : Prd) : zCt p = walk Try.prog ([(38,symC),(39,monthsC),(40,ticksC),(41,minC),(42,maxC)]) 0 ([]) ([]) [] Try.f17 (Try.f17.body.getD .skip) (checkC.pat p) (checkC.pre p) (checkC.alts p) := by kernel_rfl
theorem z2f (hG : GOk Try.prog ([(38,symC),(39,monthsC),(40,ticksC),(41,minC),(42,maxC)])) (h : ∀ (p : Prd),checkC.cnd p → zCt p) : checkC.ok Try.prog 17 := zE mixed ([(38,symC),(39,monthsC),(40,ticksC),(41,minC),(42,maxC)]) hG 0 (fun (p : Prd) => []) (fun (p : Prd) => []) [] Try.func17 (by kernel_rfl) (by kernel_rfl) (by kernel_rfl) (fun _ => by kernel_rfl) (fun (p : Prd) hc => Eq.mp (z4h p) (h p hc))
def zCm (p : Prd) : Prop :=
  ∃ (i : Prd),sb i.code = sb p.code∧iE i.months = iE p.months∧i.tick = p.tick∧i.low = p.low∧i.high = p.high∧i.wide = p.wide∧i.rule = p.rule∧i.top = p.top∧i.least = p.least∧i.part = p.part∧iE i.settle = iE p.settle∧(i.code.length ≤ 1099511627776∧i.months.length ≤ 1099511627776∧i.settle.length ≤ 1099511627776)∧∀ (o : Unit),True→cnd (i.check != 0) (∃ (o : Unit),(↑p.count : Int) = 0∧True) (IntKind.i64 = IntKind.i64∧(2 : Int) ≠ (0 : Int)∧∃ (o : Unit),(↑p.count : Int) = IntKind.i64.wrap ((↑(iE p.months).length : Int) + IntKind.i64.wrap ((IntKind.i64.wrap ((↑(iE p.months).length : Int) * IntKind.i64.wrap ((↑(iE p.months).length : Int) - 1))).tdiv 2))∧True)
theorem zVq (p : Prd) : zCm p = walk Try.prog ([(17,checkC)]) 0 ([]) ([]) [] Try.f18 (Try.f18.body.getD .skip) (pcountC.pat p) (pcountC.pre p) (pcountC.alts p) := by kernel_rfl
theorem zXl (hG : GOk Try.prog ([(17,checkC)])) (h : ∀ (p : Prd),pcountC.cnd p → zCm p) : pcountC.ok Try.prog 18 := zE mixed ([(17,checkC)]) hG 0 (fun (p : Prd) => []) (fun (p : Prd) => []) [] Try.func18 (by kernel_rfl) (by kernel_rfl) (by kernel_rfl) (fun _ => by kernel_rfl) (fun (p : Prd) hc => Eq.mp (zVq p) (h p hc))
@[reducible] def zMp (i : wA) : AObj := Sx.AObj.cells [V.d (D.v (Value.string (sb i.p.code))),V.own (0 : Nat),V.d (D.v (.int .i64 i.p.tick)),V.d (D.v (.int .i64 i.p.low)),V.d (D.v (.int .i64 i.p.high)),V.d (D.v (.int .i64 i.p.wide)),V.d (D.v (.int .i64 i.p.rule)),V.d (D.v (.int .i64 i.p.top)),V.d (D.v (.int .i64 i.p.least)),V.d (D.v (.int .i64 i.p.part)),V.own ((0 : Nat) + (1 : Nat))] (25 : Nat)
def zSs (i : wA) : Prop :=
  ∃ (i_1 : Prd),sb i_1.code = sb i.p.code∧iE i_1.months = iE i.p.months∧i_1.tick = i.p.tick∧i_1.low = i.p.low∧i_1.high = i.p.high∧i_1.wide = i.p.wide∧i_1.rule = i.p.rule∧i_1.top = i.p.top∧i_1.least = i.p.least∧i_1.part = i.p.part∧iE i_1.settle = iE i.p.settle∧(i_1.code.length ≤ 1099511627776∧i_1.months.length ≤ 1099511627776∧i_1.settle.length ≤ 1099511627776)∧∀ (o : Unit),True→cnd (decide (i.n < 0)) (∃ (o : Unit),(i.p.legs i.n).fst = 0∧(i.p.legs i.n).snd.fst = 0∧(i.p.legs i.n).snd.snd = false∧True) (cnd (decide (i.n ≥ (↑i_1.count : Int))) (∃ (o : Unit),(i.p.legs i.n).fst = 0∧(i.p.legs i.n).snd.fst = 0∧(i.p.legs i.n).snd.snd = false∧True) (cnd (decide (i.n < (↑(iE i.p.months).length : Int))) (∃ (o : Unit),(i.p.legs i.n).fst = i.n∧(i.p.legs i.n).snd.fst = i.n∧(i.p.legs i.n).snd.snd = false∧True) (∃ (i0 : Nat),(↑(z5 i.p.months.length i0) : Int) = (↑(iE i.p.months).length : Int)∧(↑i0 : Int) = 0∧∃ (I : Nat→Prop),∃ (μ : Nat→Nat),I i0∧∀ (i_2 : Nat),I i_2→cnd (decide ((↑i_2 : Int) < (↑(iE i.p.months).length : Int))) (cnd (decide (i.n < IntKind.i64.wrap ((↑(z5 i.p.months.length i_2) : Int) + IntKind.i64.wrap (IntKind.i64.wrap ((↑(iE i.p.months).length : Int) - 1) - (↑i_2 : Int))))) (∃ (o : Unit),(i.p.legs i.n).fst = (↑i_2 : Int)∧(i.p.legs i.n).snd.fst = IntKind.i64.wrap (IntKind.i64.wrap (IntKind.i64.wrap ((↑i_2 : Int) + 1) + i.n) - (↑(z5 i.p.months.length i_2) : Int))∧(i.p.legs i.n).snd.snd = true∧True) (∃ (i' : Nat),(↑(z5 i.p.months.length i') : Int) = IntKind.i64.wrap ((↑(z5 i.p.months.length i_2) : Int) + IntKind.i64.wrap (IntKind.i64.wrap ((↑(iE i.p.months).length : Int) - 1) - (↑i_2 : Int)))∧(↑i' : Int) = IntKind.i64.wrap ((↑i_2 : Int) + 1)∧I i'∧μ i' < μ i_2∧zMp i = zMp i∧AObj.fro 1 (iE i.p.settle) = AObj.fro 1 (iE i.p.settle)∧AObj.fro 1 (iE i.p.months) = AObj.fro 1 (iE i.p.months))) (∃ (o : Unit),(i.p.legs i.n).fst = 0∧(i.p.legs i.n).snd.fst = 0∧(i.p.legs i.n).snd.snd = false∧True))))
theorem z6d (i : wA) : zSs i = walk Try.prog ([(18,pcountC)]) 0 ([]) (z4w i) [] Try.f85 (Try.f85.body.getD .skip) (legsC.pat i) (legsC.pre i) (legsC.alts i) := by kernel_rfl
theorem yAe (hG : GOk Try.prog ([(18,pcountC)])) (h : ∀ (i : wA),legsC.cnd i → zSs i) : legsC.ok Try.prog 85 := zE mixed ([(18,pcountC)]) hG 0 (fun (i : wA) => []) (fun (i : wA) => z4w i) [] Try.func85 (by kernel_rfl) (by kernel_rfl) (by kernel_rfl) (fun _ => by kernel_rfl) (fun (i : wA) hc => Eq.mp (z6d i) (h i hc))
@[reducible] def zAn (i : wZ) : AObj := Sx.AObj.cells [V.d (D.v (Value.string (sb i.p.code))),V.own (0 : Nat),V.d (D.v (.int .i64 i.p.tick)),V.d (D.v (.int .i64 i.p.low)),V.d (D.v (.int .i64 i.p.high)),V.d (D.v (.int .i64 i.p.wide)),V.d (D.v (.int .i64 i.p.rule)),V.d (D.v (.int .i64 i.p.top)),V.d (D.v (.int .i64 i.p.least)),V.d (D.v (.int .i64 i.p.part)),V.own ((0 : Nat) + (1 : Nat))] (25 : Nat)
def zDx (i : wZ) : Prop :=
  ∃ (i_1 : Prd),sb i_1.code = sb i.p.code∧iE i_1.months = iE i.p.months∧i_1.tick = i.p.tick∧i_1.low = i.p.low∧i_1.high = i.p.high∧i_1.wide = i.p.wide∧i_1.rule = i.p.rule∧i_1.top = i.p.top∧i_1.least = i.p.least∧i_1.part = i.p.part∧iE i_1.settle = iE i.p.settle∧(i_1.code.length ≤ 1099511627776∧i_1.months.length ≤ 1099511627776∧i_1.settle.length ≤ 1099511627776)∧∀ (o : Unit),True→cnd (i_1.check != 0) (∃ (o : Unit),(i.p.spread i.a i.b).fst = 0∧(i.p.spread i.a i.b).snd = false∧True) (cnd (decide (i.a < 0)) (∃ (o : Unit),(i.p.spread i.a i.b).fst = 0∧(i.p.spread i.a i.b).snd = false∧True) (cnd (decide (i.a ≥ i.b)) (∃ (o : Unit),(i.p.spread i.a i.b).fst = 0∧(i.p.spread i.a i.b).snd = false∧True) (cnd (decide (i.b ≥ (↑(iE i.p.months).length : Int))) (∃ (o : Unit),(i.p.spread i.a i.b).fst = 0∧(i.p.spread i.a i.b).snd = false∧True) (∃ (i0 : Nat),(↑(z5 i.p.months.length i0) : Int) = (↑(iE i.p.months).length : Int)∧(↑i0 : Int) = 0∧∃ (I : Nat→Prop),∃ (μ : Nat→Nat),I i0∧∀ (i_2 : Nat),I i_2→cnd (decide ((↑i_2 : Int) < i.a)) (∃ (i' : Nat),(↑(z5 i.p.months.length i') : Int) = IntKind.i64.wrap ((↑(z5 i.p.months.length i_2) : Int) + IntKind.i64.wrap (IntKind.i64.wrap ((↑(iE i.p.months).length : Int) - 1) - (↑i_2 : Int)))∧(↑i' : Int) = IntKind.i64.wrap ((↑i_2 : Int) + 1)∧I i'∧μ i' < μ i_2∧zAn i = zAn i∧AObj.fro 1 (iE i.p.settle) = AObj.fro 1 (iE i.p.settle)∧AObj.fro 1 (iE i.p.months) = AObj.fro 1 (iE i.p.months)) (∃ (o : Unit),(i.p.spread i.a i.b).fst = IntKind.i64.wrap (IntKind.i64.wrap (IntKind.i64.wrap ((↑(z5 i.p.months.length i_2) : Int) + i.b) - i.a) - 1)∧(i.p.spread i.a i.b).snd = true∧True)))))
theorem zWm (i : wZ) : zDx i = walk Try.prog ([(17,checkC)]) 0 ([]) (zLx i) [] Try.f88 (Try.f88.body.getD .skip) (spreadC.pat i) (spreadC.pre i) (spreadC.alts i) := by kernel_rfl
theorem zWi (hG : GOk Try.prog ([(17,checkC)])) (h : ∀ (i : wZ),spreadC.cnd i → zDx i) : spreadC.ok Try.prog 88 := zE mixed ([(17,checkC)]) hG 0 (fun (i : wZ) => []) (fun (i : wZ) => zLx i) [] Try.func88 (by kernel_rfl) (by kernel_rfl) (by kernel_rfl) (fun _ => by kernel_rfl) (fun (i : wZ) hc => Eq.mp (zWm i) (h i hc))
def zJc (i : wZ) : Prop :=
  ∃ (i_1 : Prd),sb i_1.code = sb i.p.code∧iE i_1.months = iE i.p.months∧i_1.tick = i.p.tick∧i_1.low = i.p.low∧i_1.high = i.p.high∧i_1.wide = i.p.wide∧i_1.rule = i.p.rule∧i_1.top = i.p.top∧i_1.least = i.p.least∧i_1.part = i.p.part∧iE i_1.settle = iE i.p.settle∧(i_1.code.length ≤ 1099511627776∧i_1.months.length ≤ 1099511627776∧i_1.settle.length ≤ 1099511627776)∧∀ (o : Unit),True→cnd ((↑i_1.count : Int) == 0) (∃ (o : Unit),i.p.price i.a i.b = 1∧True) (cnd (decide (i.a < 0)) (∃ (o : Unit),i.p.price i.a i.b = 20∧True) (cnd (decide (i.a ≥ (↑i_1.count : Int))) (∃ (o : Unit),i.p.price i.a i.b = 20∧True) (IntKind.i64 = IntKind.i64∧i.p.tick ≠ 0∧cnd (i.b.tmod i.p.tick != 0) (∃ (o : Unit),i.p.price i.a i.b = 22∧True) (cnd (decide (i.a ≥ (↑(iE i.p.months).length : Int))) (cnd (decide (i.b < IntKind.i64.wrap (0 - i.p.wide))) (∃ (o : Unit),i.p.price i.a i.b = 23∧True) (cnd (decide (i.b > i.p.wide)) (∃ (o : Unit),i.p.price i.a i.b = 23∧True) (∃ (o : Unit),i.p.price i.a i.b = 0∧True))) (cnd (decide (i.b < i.p.low)) (∃ (o : Unit),i.p.price i.a i.b = 23∧True) (cnd (decide (i.b > i.p.high)) (∃ (o : Unit),i.p.price i.a i.b = 23∧True) (∃ (o : Unit),i.p.price i.a i.b = 0∧True)))))))
theorem z1t (i : wZ) : zJc i = walk Try.prog ([(18,pcountC)]) 0 ([]) ([]) [] Try.f22 (Try.f22.body.getD .skip) (priceC.pat i) (priceC.pre i) (priceC.alts i) := by kernel_rfl
theorem z2l (hG : GOk Try.prog ([(18,pcountC)])) (h : ∀ (i : wZ),priceC.cnd i → zJc i) : priceC.ok Try.prog 22 := zE mixed ([(18,pcountC)]) hG 0 (fun (i : wZ) => []) (fun (i : wZ) => []) [] Try.func22 (by kernel_rfl) (by kernel_rfl) (by kernel_rfl) (fun _ => by kernel_rfl) (fun (i : wZ) hc => Eq.mp (z1t i) (h i hc))
def z1e (i : I2) : Prop :=
  cnd (decide (i.x < 0) == decide (i.y < 0)) (cnd (!decide (IntKind.i64.wrap (i.x + i.y) < 0) == decide (i.x < 0)) (∃ (o : Unit),(kP i.x i.y).fst = 0∧(kP i.x i.y).snd = false∧True) (∃ (o : Unit),(kP i.x i.y).fst = IntKind.i64.wrap (i.x + i.y)∧(kP i.x i.y).snd = true∧True)) (∃ (o : Unit),(kP i.x i.y).fst = IntKind.i64.wrap (i.x + i.y)∧(kP i.x i.y).snd = true∧True)
theorem yBd (i : I2) : z1e i = walk Try.prog ([]) 0 ([]) ([]) [] Try.f95 (Try.f95.body.getD .skip) (addC.pat i) (addC.pre i) (addC.alts i) := by kernel_rfl
theorem yBq (hG : GOk Try.prog ([])) (h : ∀ (i : I2),addC.cnd i → z1e i) : addC.ok Try.prog 95 := zE mixed ([]) hG 0 (fun (i : I2) => []) (fun (i : I2) => []) [] Try.func95 (by kernel_rfl) (by kernel_rfl) (by kernel_rfl) (fun _ => by kernel_rfl) (fun (i : I2) hc => Eq.mp (yBd i) (h i hc))
def z3m (i : I2) : Prop :=
  cnd (!decide (i.x < 0) == decide (i.y < 0)) (cnd (!decide (IntKind.i64.wrap (i.x - i.y) < 0) == decide (i.x < 0)) (∃ (o : Unit),(kM i.x i.y).fst = 0∧(kM i.x i.y).snd = false∧True) (∃ (o : Unit),(kM i.x i.y).fst = IntKind.i64.wrap (i.x - i.y)∧(kM i.x i.y).snd = true∧True)) (∃ (o : Unit),(kM i.x i.y).fst = IntKind.i64.wrap (i.x - i.y)∧(kM i.x i.y).snd = true∧True)
theorem yCd (i : I2) : z3m i = walk Try.prog ([]) 0 ([]) ([]) [] Try.f96 (Try.f96.body.getD .skip) (subC.pat i) (subC.pre i) (subC.alts i) := by kernel_rfl
theorem yCe (hG : GOk Try.prog ([])) (h : ∀ (i : I2),subC.cnd i → z3m i) : subC.ok Try.prog 96 := zE mixed ([]) hG 0 (fun (i : I2) => []) (fun (i : I2) => []) [] Try.func96 (by kernel_rfl) (by kernel_rfl) (by kernel_rfl) (fun _ => by kernel_rfl) (fun (i : I2) hc => Eq.mp (yCd i) (h i hc))
open Go Cv Go.Proofs
theorem yDy (i : pD) (h : offC.cnd i) : z0c i := by
  have h : 1 ≤ i.p.tick := h
  unfold z0c; (repeat' (first|exact rfl|exact trivial|assumption|apply And.intro|refine fun (_:Unit) (_:True)=>?_|refine Exists.intro () ?_|omega|(dsimp only;omega)))
theorem zUl : offC.ok Try.prog 62 := yAl gok0 yDy
theorem mK {α : Type} {f : α → Bool} {l : List α} (h : ∀ (k : Nat) (x : α),l[k]? = some x → f x = false) : l.findIdx? f = none := by
  rw [List.findIdx?_eq_none_iff]
  intro x hx
  obtain ⟨k,hk⟩ := List.getElem?_of_mem hx
  exact h k x hk
theorem mY {α : Type} {f : α → Bool} {l : List α} {j : Nat} {x : α} (h1 : l[j]? = some x) (h2 : f x = true) (h : ∀ k < j,∀ x : α,l[k]? = some x → f x = false) : l.findIdx? f = some j := by
  rw [List.findIdx?_eq_some_iff_getElem]
  obtain ⟨hj,rfl⟩ := List.getElem?_eq_some_iff.1 h1
  exact ⟨hj,h2,fun k hk => by rw [h k hk _ (List.getElem?_eq_getElem (by omega))]; simp⟩
theorem yDo (i : gB) (h : idxC.cnd i) : z3v i := by
  obtain ⟨h1,h2⟩ : 1 ≤ i.p.tick ∧ i.l.length ≤ 1099511627776 := h
  unfold z3v
  simp only [yY]
  refine ⟨0,rfl,fun j => j ≤ i.l.length ∧ ∀ k < j,∀ x,i.l[k]? = some x → y8 i.p.tick x = false,fun j => i.l.length - j,⟨by omega,fun k hk => by omega⟩,?_⟩
  rintro j ⟨h3,h4⟩
  refine zU (fun hj => ?_) (fun hj => ?_)
  · obtain ⟨n,hn⟩ := yC (l := i.l) (i := j) (by omega)
    refine ⟨⟨by omega,by omega⟩,n,elI hn,⟨i.p,n⟩,?_⟩
    (repeat' (first|exact rfl|exact trivial|assumption|apply And.intro|refine fun (_:Unit) (_:True)=>?_|refine Exists.intro () ?_|omega|(dsimp only;omega)))
    refine Cv.cnd.mk (fun e => ?_) (fun e => ?_)
    · rw [mY hn e h4]; (repeat' (first|exact rfl|exact trivial|assumption|apply And.intro|refine fun (_:Unit) (_:True)=>?_|refine Exists.intro () ?_|omega|(dsimp only;omega)))
    · refine ⟨j + 1,by rw [w64 (by omega)]; rfl,⟨by omega,fun k hk x hx => ?_⟩,by (first | omega | (dsimp only; omega)),rfl⟩
      rcases Nat.lt_or_ge k j with hk' | hk'
      · exact h4 k hk' x hx
      · obtain rfl : k = j := by omega
        rw [hn] at hx; cases hx; exact e
  · rw [mK fun k x hx => h4 k (by have := (List.getElem?_eq_some_iff.1 hx).1; omega) x hx]; (repeat' (first|exact rfl|exact trivial|assumption|apply And.intro|refine fun (_:Unit) (_:True)=>?_|refine Exists.intro () ?_|omega|(dsimp only;omega)))
theorem z9x : idxC.ok Try.prog 81 := yCu (gokc zUl gok0) yDo
theorem zRr {l : List Int} {f : Int → Bool} : l.any f = decide (nJ (l.findIdx? f) ≥ 0) := by
  cases hf : l.findIdx? f with
  | none =>
    rw [List.findIdx?_eq_none_iff] at hf
    have : l.any f = false := by rw [List.any_eq_false]; intro x hx; simp [hf x hx]
    rw [this]; rfl
  | some k =>
    rw [List.findIdx?_eq_some_iff_getElem] at hf
    obtain ⟨hk,h1,_⟩ := hf
    have : l.any f = true := by rw [List.any_eq_true]; exact ⟨_,List.getElem_mem hk,h1⟩
    rw [this,nJ,decide_eq_true (by omega)]
theorem zRn (i : gB) (h : containsC.cnd i) : m8 i := by
  have h' : 1 ≤ i.p.tick ∧ i.l.length ≤ 1099511627776 := h
  refine ⟨i,?_⟩
  (repeat' (first|exact rfl|exact trivial|assumption|apply And.intro|refine fun (_:Unit) (_:True)=>?_|refine Exists.intro () ?_|omega|(dsimp only;omega)))
  exact zRr
theorem zGd : containsC.ok Try.prog 63 := zJx (gokc z9x gok0) zRn
theorem z9e (p : Prd) (h : ticksC.cnd p) : zEr p := by
  obtain ⟨h1,h2,h3⟩ : p.small := h
  unfold zEr
  refine zU (fun c1 => ⟨(),by rw [xA,decide_eq_false (by omega)]; rfl,trivial⟩) (fun c1 => zU (fun c2 => ⟨(),by rw [xA,decide_eq_false (show ¬ p.tick ≤ 1000 by omega)]; simp,trivial⟩) (fun c2 => ⟨⟨p,p.low⟩,?_⟩))
  have e1 : xA p = (!y8 p.tick p.low && !y8 p.tick p.high && !y8 p.tick p.wide && !p.settle.any (y8 p.tick)) := by
    rw [xA,decide_eq_true (by omega),decide_eq_true (by omega)]; rfl
  rw [e1]
  (repeat' (first|exact rfl|exact trivial|assumption|apply And.intro|refine fun (_:Unit) (_:True)=>?_|refine Exists.intro () ?_|omega|(dsimp only;omega)))
  refine Cv.cnd.mk (fun c3 => ⟨⟨p,p.high⟩,?_⟩) (fun c3 => ⟨(),?_,trivial⟩)
  · dsimp only at c3
    (repeat' (first|exact rfl|exact trivial|assumption|apply And.intro|refine fun (_:Unit) (_:True)=>?_|refine Exists.intro () ?_|omega|(dsimp only;omega)))
    refine Cv.cnd.mk (fun c4 => ⟨⟨p,p.wide⟩,?_⟩) (fun c4 => ⟨(),?_,trivial⟩)
    · dsimp only at c4
      (repeat' (first|exact rfl|exact trivial|assumption|apply And.intro|refine fun (_:Unit) (_:True)=>?_|refine Exists.intro () ?_|omega|(dsimp only;omega)))
      refine Cv.cnd.mk (fun c5 => ⟨⟨p,p.settle⟩,?_⟩) (fun c5 => ⟨(),?_,trivial⟩)
      · dsimp only at c5
        (repeat' (first|exact rfl|exact trivial|assumption|apply And.intro|refine fun (_:Unit) (_:True)=>?_|refine Exists.intro () ?_|omega|(dsimp only;omega)))
        rw [c3,c4,c5]; simp
      · dsimp only at c5
        rw [c5]; simp
    · dsimp only at c4
      rw [c4]; simp
  · dsimp only at c3
    rw [c3]; simp
theorem zYo : ticksC.ok Try.prog 40 := zZn (gokc zUl (gokc zGd gok0)) z9e
theorem z5s (p : Prd) (h : checkC.cnd p) : zCt p := by
  obtain ⟨h1,h2,h3⟩ : p.small := h
  unfold zCt
  simp only [yY]
  refine ⟨p.code,rfl,h1,fun _ _ => Cv.cnd.mk (fun c1 => ⟨(),by rw [Prd.check,if_pos c1],trivial⟩) (fun c1 => ⟨p.months,rfl,h2,fun _ _ => Cv.cnd.mk (fun c2 => ⟨(),by rw [Prd.check,if_neg (by simp [c1]),if_pos c2],trivial⟩) (fun c2 => ⟨p,?_⟩)⟩)⟩
  (repeat' (first|exact rfl|exact trivial|assumption|apply And.intro|refine fun (_:Unit) (_:True)=>?_|refine Exists.intro () ?_|omega|(dsimp only;omega)))
  refine Cv.cnd.mk (fun c3 => ⟨(),by rw [Prd.check,if_neg (by simp [c1]),if_neg (by simp [c2]),if_pos c3],trivial⟩) (fun c3 => ?_)
  have e0 : p.check = if y9 p then 23 else if yM p then 1 else if xG p then 31 else if y5 p then 24 else 0 := by
    rw [Prd.check,if_neg (by simp [c1]),if_neg (by simp [c2]),if_neg (by simp [c3])]
  have b (hb : y9 p = true) : ∃ (o : Unit),p.check = 23 ∧ True := ⟨(),by rw [e0,if_pos hb],trivial⟩
  refine zU (fun d1 => b (by simp [y9,d1])) fun d1 => zU (fun d2 => b (by simp [y9]; omega)) fun d2 => zU (fun d3 => b (by simp [y9]; omega)) fun d3 => zU (fun d4 => b (by simp [y9]; omega)) fun d4 => ?_
  rw [w64 (by omega)]
  refine zU (fun d5 => b (by simp [y9]; omega)) fun d5 => ?_
  have e1 : p.check = if yM p then 1 else if xG p then 31 else if y5 p then 24 else 0 := by
    rw [e0,if_neg (by simp [y9]; omega)]
  have s (hb : yM p = true) : ∃ (o : Unit),p.check = 1 ∧ True := ⟨(),by rw [e1,if_pos hb],trivial⟩
  have hm : 2 ≤ p.months.length := by
    have c2 : yL p.months = true := by simpa using c2
    simp [yL] at c2; omega
  refine Cv.cnd.mk (fun d6 => s (by have d6 : ¬ (p.settle.length : Int) = p.months.length := (by simpa using d6); simp [yM]; omega)) fun d6 => ?_
  have d6 : p.settle.length = p.months.length := by
    have : (p.settle.length : Int) = p.months.length := by simpa using d6
    omega
  refine ⟨p.settle,rfl,⟨by omega,by omega⟩,fun _ _ => ⟨by (repeat' (first|exact rfl|exact trivial|assumption|apply And.intro|refine fun (_:Unit) (_:True)=>?_|refine Exists.intro () ?_|omega|(dsimp only;omega))),zU (fun d7 => s (by simp [yM]; left; right; omega)) fun d7 => ⟨p.settle,rfl,⟨by omega,by omega⟩,fun _ _ => ⟨by (repeat' (first|exact rfl|exact trivial|assumption|apply And.intro|refine fun (_:Unit) (_:True)=>?_|refine Exists.intro () ?_|omega|(dsimp only;omega))),zU (fun d8 => s (by simp [yM]; right; omega)) fun d8 => ?_⟩⟩⟩⟩
  have e2 : p.check = if xG p then 31 else if y5 p then 24 else 0 := by
    rw [e1,if_neg (by simp [yM]; omega)]
  have r (hb : xG p = true) : ∃ (o : Unit),p.check = 31 ∧ True := ⟨(),by rw [e2,if_pos hb],trivial⟩
  refine zU (fun d9 => r (by simp [xG]; omega)) fun d9 => zU (fun d10 => r (by simp [xG]; omega)) fun d10 => ?_
  have e3 : p.check = if y5 p then 24 else 0 := by
    rw [e2,if_neg (by simp [xG]; omega)]
  have q (hb : y5 p = true) : ∃ (o : Unit),p.check = 24 ∧ True := ⟨(),by rw [e3,if_pos hb],trivial⟩
  refine zU (fun f1 => q (by simp [y5]; omega)) fun f1 => zU (fun f2 => q (by simp [y5]; omega)) fun f2 => zU (fun f3 => q (by simp [y5]; omega)) fun f3 => zU (fun f4 => q (by simp [y5]; omega)) fun f4 => zU (fun f5 => q (by simp [y5]; omega)) fun f5 => zU (fun f6 => q (by simp [y5]; omega)) fun f6 => ?_
  exact ⟨(),by rw [e3,if_neg (by simp [y5]; omega)],trivial⟩
theorem eD : checkC.ok Try.prog 17 := z2f (gokc z6b (gokc zQz (gokc zYo (gokc z5q (gokc z9m gok0))))) z5s
structure Prd.Ok (p : Prd) : Prop where
  sym : qA p.code = true
  months : yL p.months = true
  ticks : xA p = true
  m2 : 2 ≤ p.months.length
  m6 : p.months.length ≤ 6
  t1 : 1 ≤ p.tick
  t2 : p.tick ≤ 1000
  b1 : -1000000 ≤ p.low
  b2 : p.low < p.high
  b3 : p.high ≤ 1000000
  b4 : 0 ≤ p.wide
  b5 : p.wide ≤ p.high - p.low
  s1 : p.settle.length = p.months.length
  s2 : p.low ≤ uN p.settle
  s3 : gC p.settle ≤ p.high
  r1 : 1 ≤ p.rule
  r2 : p.rule ≤ 3
  q1 : 0 ≤ p.top
  q2 : p.top ≤ 1000000
  q3 : 1 ≤ p.least
  q4 : p.least ≤ 1000
  q5 : 0 ≤ p.part
  q6 : p.part ≤ 100
theorem xL {p : Prd} (h : p.check = 0) : p.Ok := by
  unfold Prd.check at h
  split at h <;> first | (exfalso; revert h; decide) | skip
  rename_i c1
  split at h <;> first | (exfalso; revert h; decide) | skip
  rename_i c2
  split at h <;> first | (exfalso; revert h; decide) | skip
  rename_i c3
  split at h <;> first | (exfalso; revert h; decide) | skip
  rename_i c4
  split at h <;> first | (exfalso; revert h; decide) | skip
  rename_i c5
  split at h <;> first | (exfalso; revert h; decide) | skip
  rename_i c6
  split at h <;> first | (exfalso; revert h; decide) | skip
  rename_i c7
  simp only [Bool.not_eq_true',Bool.not_eq_false,Bool.not_eq_true] at c1 c2 c3
  have m := c2
  have t := c3
  simp [yL] at m
  simp [xA] at t
  simp [y9] at c4
  simp [yM] at c5
  simp [xG] at c6
  simp [y5] at c7
  exact ⟨c1,c2,c3,by omega,by omega,by omega,by omega,by omega,by omega,by omega,by omega,by omega,by omega,by omega,by omega,by omega,by omega,by omega,by omega,by omega,by omega,by omega,by omega⟩
theorem zVz {n : Nat} (h : n ≤ 6) : n + n * (n - 1) / 2 ≤ 21 := by
  have : ∀ n ≤ 6,n + n * (n - 1) / 2 ≤ 21 := by decide
  exact this n h
theorem z3g (p : Prd) (h : pcountC.cnd p) : zCm p := by
  obtain ⟨h1,h2,h3⟩ : p.small := h
  refine ⟨p,?_⟩
  simp only [yY]
  (repeat' (first|exact rfl|exact trivial|assumption|apply And.intro|refine fun (_:Unit) (_:True)=>?_|refine Exists.intro () ?_|omega|(dsimp only;omega)))
  refine Cv.cnd.mk (fun c => ⟨(),by rw [Prd.count,if_neg (by simpa using c)]; rfl,trivial⟩) (fun c => ?_)
  have c : p.check = 0 := by simpa using c
  have ok := xL c
  refine ⟨by (repeat' (first|exact rfl|exact trivial|assumption|apply And.intro|refine fun (_:Unit) (_:True)=>?_|refine Exists.intro () ?_|omega|(dsimp only;omega))),by decide,(),?_,trivial⟩
  rw [Prd.count,if_pos c]
  obtain ⟨n,hn⟩ : ∃ n,p.months.length = n := ⟨_,rfl⟩
  have m2 := ok.m2
  have m6 := ok.m6
  rw [hn] at m2 m6 ⊢
  have : n = 2 ∨ n = 3 ∨ n = 4 ∨ n = 5 ∨ n = 6 := by omega
  rcases this with rfl | rfl | rfl | rfl | rfl <;> rfl
theorem uL : pcountC.ok Try.prog 18 := zXl (gokc eD gok0) z3g
theorem fF {p : Prd} (h : p.count ≠ 0) : p.check = 0 := by
  unfold Prd.count at h
  split at h
  · assumption
  · exact absurd rfl h
theorem j1 (p : Prd) : p.count ≤ 21 := by
  unfold Prd.count
  split
  · rename_i h; exact zVz (xL h).m6
  · omega
theorem tG {n m : Nat} (h : n ≤ 6) (hm : m ≤ n) : z5 n m ≤ 21 := by
  have : ∀ n ≤ 6,∀ m ≤ n,z5 n m ≤ 21 := by decide
  exact this n h m hm
theorem yCh (i : wA) (h : legsC.cnd i) : zSs i := by
  obtain ⟨h1,h2,h3⟩ : i.p.small := h
  refine ⟨i.p,?_⟩
  simp only [yY]
  (repeat' (first|exact rfl|exact trivial|assumption|apply And.intro|refine fun (_:Unit) (_:True)=>?_|refine Exists.intro () ?_|omega|(dsimp only;omega)))
  refine zU (fun c1 => ?_) (fun c1 => zU (fun c2 => ?_) (fun c2 => ?_))
  · rw [Prd.legs,if_pos (by omega)]; (repeat' (first|exact rfl|exact trivial|assumption|apply And.intro|refine fun (_:Unit) (_:True)=>?_|refine Exists.intro () ?_|omega|(dsimp only;omega)))
  · rw [Prd.legs,if_pos (by omega)]; (repeat' (first|exact rfl|exact trivial|assumption|apply And.intro|refine fun (_:Unit) (_:True)=>?_|refine Exists.intro () ?_|omega|(dsimp only;omega)))
  have c2 : ¬ i.n ≥ (i.p.count : Int) := c2
  have hc := j1 i.p
  have ok := xL (fF (p := i.p) (by omega))
  have m6 := ok.m6
  refine zU (fun c3 => ?_) (fun c3 => ?_)
  · rw [Prd.legs,if_neg (by omega),if_pos c3]; (repeat' (first|exact rfl|exact trivial|assumption|apply And.intro|refine fun (_:Unit) (_:True)=>?_|refine Exists.intro () ?_|omega|(dsimp only;omega)))
  have e0 : i.p.legs i.n = xZ i.p.months.length i.n.toNat i.p.months.length 0 := by
    rw [Prd.legs,if_neg (by omega),if_neg c3]
  rw [e0]
  generalize hn : i.p.months.length = n at c3 m6 ⊢
  obtain ⟨k,hk⟩ : ∃ k : Nat,i.n = k := ⟨i.n.toNat,by omega⟩
  rw [hk] at c2 c3 ⊢
  refine ⟨0,rfl,rfl,fun m => m ≤ n ∧ z5 n m ≤ k ∧ xZ n k n 0 = xZ n k (n - m) m,fun m => n - m,⟨by omega,by show n ≤ k; omega,rfl⟩,?_⟩
  rintro m ⟨g1,g2,g3⟩
  have hf := tG m6 g1
  refine zU (fun c4 => ?_) (fun c4 => ?_)
  · obtain ⟨r,hr⟩ : ∃ r,n - m = r + 1 := ⟨n - m - 1,by omega⟩
    have e1 : (k : Int).toNat = k := by omega
    rw [e1,g3,hr,w64 (x := (n : Int) - 1) (by omega),w64 (x := (n : Int) - 1 - m) (by omega),w64 (x := (z5 n m : Int) + ((n : Int) - 1 - m)) (by omega),w64 (x := (m : Int) + 1) (by omega)]
    rw [hr] at g3
    refine zU (fun c5 => ?_) (fun c5 => ?_)
    · rw [w64 (x := (m : Int) + 1 + k) (by omega),w64 (x := (m : Int) + 1 + k - (z5 n m : Int)) (by omega),xZ,if_pos (by omega)]
      refine ⟨(),rfl,?_,rfl,trivial⟩
      dsimp only; omega
    · refine ⟨m + 1,?_,rfl,⟨by omega,?_,?_⟩,by (first | omega | (dsimp only; omega)),by (repeat' (first|exact rfl|exact trivial|assumption|apply And.intro|refine fun (_:Unit) (_:True)=>?_|refine Exists.intro () ?_|omega|(dsimp only;omega)))⟩
      · rw [z5]; omega
      · rw [z5]; omega
      · rw [xZ,if_neg (by omega),show n - (m + 1) = r by omega]
  · have e1 : (k : Int).toNat = k := by omega
    rw [e1,g3,show n - m = 0 by omega]
    exact ⟨(),rfl,rfl,rfl,trivial⟩
theorem zNz : legsC.ok Try.prog 85 := yAe (gokc uL gok0) yCh
theorem z1p (i : wZ) (h : spreadC.cnd i) : zDx i := by
  obtain ⟨h1,h2,h3⟩ : i.p.small := h
  refine ⟨i.p,?_⟩
  simp only [yY]
  (repeat' (first|exact rfl|exact trivial|assumption|apply And.intro|refine fun (_:Unit) (_:True)=>?_|refine Exists.intro () ?_|omega|(dsimp only;omega)))
  have bad (hb : i.p.check ≠ 0 ∨ i.a < 0 ∨ i.b ≤ i.a ∨ (i.p.months.length : Int) ≤ i.b) : ∃ (o : Unit),(i.p.spread i.a i.b).fst = 0 ∧ (i.p.spread i.a i.b).snd = false ∧ True := ⟨(),by rw [Prd.spread,if_pos hb],by rw [Prd.spread,if_pos hb],trivial⟩
  refine Cv.cnd.mk (fun c1 => bad (.inl (by simpa using c1))) fun c1 => zU (fun c2 => bad (by omega)) fun c2 => zU (fun c3 => bad (by omega)) fun c3 => zU (fun c4 => bad (by omega)) fun c4 => ?_
  have c1 : i.p.check = 0 := by simpa using c1
  have m6 := (xL c1).m6
  rw [Prd.spread,if_neg (by omega)]
  generalize hn : i.p.months.length = n at c4 m6 ⊢
  obtain ⟨a,ha⟩ : ∃ k : Nat,i.a = k := ⟨i.a.toNat,by omega⟩
  rw [ha] at c3 ⊢
  refine ⟨0,rfl,rfl,fun m => m ≤ a,fun m => a - m,by omega,?_⟩
  intro m hm
  have hm : m ≤ a := hm
  have hf := tG (m := m) m6 (by omega)
  refine zU (fun c5 => ?_) (fun c5 => ?_)
  · rw [w64 (x := (n : Int) - 1) (by omega),w64 (x := (n : Int) - 1 - m) (by omega),w64 (x := (z5 n m : Int) + ((n : Int) - 1 - m)) (by omega),w64 (x := (m : Int) + 1) (by omega)]
    refine ⟨m + 1,?_,rfl,by omega,by (first | omega | (dsimp only; omega)),by (repeat' (first|exact rfl|exact trivial|assumption|apply And.intro|refine fun (_:Unit) (_:True)=>?_|refine Exists.intro () ?_|omega|(dsimp only;omega)))⟩
    rw [z5]; omega
  · obtain rfl : m = a := by omega
    rw [w64 (x := (z5 n m : Int) + i.b) (by omega),w64 (x := (z5 n m : Int) + i.b - m) (by omega),w64 (x := (z5 n m : Int) + i.b - m - 1) (by omega)]
    exact ⟨(),rfl,rfl,trivial⟩
theorem zAg : spreadC.ok Try.prog 88 := zWi (gokc eD gok0) z1p
theorem z8w (i : wZ) (h : priceC.cnd i) : zJc i := by
  obtain ⟨h1,h2,h3⟩ : i.p.small := h
  refine ⟨i.p,?_⟩
  simp only [yY]
  (repeat' (first|exact rfl|exact trivial|assumption|apply And.intro|refine fun (_:Unit) (_:True)=>?_|refine Exists.intro () ?_|omega|(dsimp only;omega)))
  refine Cv.cnd.mk (fun c1 => ⟨(),by rw [Prd.price,if_pos (by have : (i.p.count : Int) = 0 := (by simpa using c1); omega)],trivial⟩) fun c1 => ?_
  have c1 : i.p.count ≠ 0 := by
    have : ¬ (i.p.count : Int) = 0 := by simpa using c1
    omega
  have e0 : i.p.price i.a i.b = if i.a < 0 ∨ (i.p.count : Int) ≤ i.a then 20 else if y8 i.p.tick i.b then 22 else
      if i.b < (if (i.p.months.length : Int) ≤ i.a then -i.p.wide else i.p.low) ∨ (if (i.p.months.length : Int) ≤ i.a then i.p.wide else i.p.high) < i.b then 23 else 0 := by rw [Prd.price,if_neg c1]
  rw [e0]
  have ok := xL (fF c1)
  obtain ⟨t1,b3,b1,b2,b4,b5⟩ := (⟨ok.t1,ok.b3,ok.b1,ok.b2,ok.b4,ok.b5⟩ : _ ∧ _ ∧ _ ∧ _ ∧ _ ∧ _)
  refine zU (fun c2 => ⟨(),by rw [if_pos (.inl c2)],trivial⟩) fun c2 => zU (fun c3 => ⟨(),by rw [if_pos (.inr c3)],trivial⟩) fun c3 => ⟨by (repeat' (first|exact rfl|exact trivial|assumption|apply And.intro|refine fun (_:Unit) (_:True)=>?_|refine Exists.intro () ?_|omega|(dsimp only;omega))),by omega,?_⟩
  have c3 : ¬ i.a ≥ (i.p.count : Int) := c3
  rw [if_neg (by omega)]
  refine Cv.cnd.mk (fun c4 => ⟨(),if_pos c4,trivial⟩) fun c4 => ?_
  rw [if_neg (by rw [y8,c4]; simp),w64 (x := 0 - i.p.wide) (by omega)]
  refine zU (fun c5 => ?_) (fun c5 => ?_)
  · have c5 : (i.p.months.length : Int) ≤ i.a := c5
    simp only [if_pos c5]
    refine zU (fun c6 => ⟨(),if_pos (.inl (by omega)),trivial⟩) fun c6 => zU (fun c7 => ⟨(),if_pos (.inr (by omega)),trivial⟩) fun c7 => ⟨(),if_neg (by omega),trivial⟩
  · have c5 : ¬ (i.p.months.length : Int) ≤ i.a := c5
    simp only [if_neg c5]
    refine zU (fun c6 => ⟨(),if_pos (.inl (by omega)),trivial⟩) fun c6 => zU (fun c7 => ⟨(),if_pos (.inr (by omega)),trivial⟩) fun c7 => ⟨(),if_neg (by omega),trivial⟩
theorem zIm : priceC.ok Try.prog 22 := z2l (gokc uL gok0) z8w
theorem z4o (x : Int) (h : -18446744073709551616 ≤ x ∧ x < 18446744073709551616) : (yN x ∧ IntKind.i64.wrap x = x) ∨ (9223372036854775807 < x ∧ IntKind.i64.wrap x = x - 18446744073709551616) ∨ (x < -9223372036854775808 ∧ IntKind.i64.wrap x = x + 18446744073709551616) := by
  have e : IntKind.i64.wrap x = if (decide (x % 18446744073709551616 ≥ 9223372036854775808)) = true then x % 18446744073709551616 - 18446744073709551616 else x % 18446744073709551616 := by
    have : IntKind.i64.wrap x = if (true && decide (x % 18446744073709551616 ≥ 9223372036854775808)) = true then x % 18446744073709551616 - 18446744073709551616 else x % 18446744073709551616 := rfl
    rw [this,Bool.true_and]
  have e : IntKind.i64.wrap x = (x + 9223372036854775808) % 18446744073709551616 - 9223372036854775808 := by
    rw [e]
    by_cases h2 : x % 18446744073709551616 ≥ 9223372036854775808
    · rw [if_pos (decide_eq_true h2)]; omega
    · rw [if_neg (by simpa using h2)]; omega
  rw [e]
  by_cases h1 : yN x
  · exact .inl ⟨h1,by unfold yN at h1; omega⟩
  · unfold yN at h1
    omega
theorem yDp (i : I2) (h : addC.cnd i) : z1e i := by
  obtain ⟨⟨x1,x2⟩,y1,y2⟩ : yN i.x ∧ yN i.y := h
  have hw := z4o (i.x + i.y) (by omega)
  unfold z1e kP
  generalize IntKind.i64.wrap (i.x + i.y) = w at hw ⊢
  unfold yN at hw ⊢
  refine Cv.cnd.mk (fun c1 => Cv.cnd.mk (fun c2 => ?_) (fun c2 => ?_)) (fun c1 => ?_)
  all_goals (simp at *)
  · rw [if_neg (by omega)]; (repeat' (first|exact rfl|exact trivial|assumption|apply And.intro|refine fun (_:Unit) (_:True)=>?_|refine Exists.intro () ?_|omega|(dsimp only;omega)))
  · rw [if_pos (by omega)]; refine ⟨?_,rfl⟩; dsimp only; omega
  · rw [if_pos (by omega)]; refine ⟨?_,rfl⟩; dsimp only; omega
theorem zEy : addC.ok Try.prog 95 := yBq gok0 yDp
theorem yDa (i : I2) (h : subC.cnd i) : z3m i := by
  obtain ⟨⟨x1,x2⟩,y1,y2⟩ : yN i.x ∧ yN i.y := h
  have hw := z4o (i.x - i.y) (by omega)
  unfold z3m kM
  generalize IntKind.i64.wrap (i.x - i.y) = w at hw ⊢
  unfold yN at hw ⊢
  refine Cv.cnd.mk (fun c1 => Cv.cnd.mk (fun c2 => ?_) (fun c2 => ?_)) (fun c1 => ?_)
  all_goals (simp at *)
  · rw [if_neg (by omega)]; (repeat' (first|exact rfl|exact trivial|assumption|apply And.intro|refine fun (_:Unit) (_:True)=>?_|refine Exists.intro () ?_|omega|(dsimp only;omega)))
  · rw [if_pos (by omega)]; refine ⟨?_,rfl⟩; dsimp only; omega
  · rw [if_pos (by omega)]; refine ⟨?_,rfl⟩; dsimp only; omega
theorem zCx : subC.ok Try.prog 96 := yCe gok0 yDa
open Go Cv Go.Proofs
structure Slot where
  used : Bool
  n : Int
  id : Int
  qty : Int
  top : Bool
  queue : Int
  ahead : Int
  back : Int
  deriving DecidableEq
structure qW where
  first : Int
  last : Int
  total : Int
  count : Int
  deriving DecidableEq
structure Arena where
  slots : List Slot
  queues : List qW
  free : Int
  deriving DecidableEq
def zN (s : Slot) : List D := [.v (.bool s.used),.v (.int .i64 s.n),.v (.int .i64 s.id),.v (.int .i64 s.qty),.v (.bool s.top),.v (.int .i64 s.queue),.v (.int .i64 s.ahead),.v (.int .i64 s.back)]
def zJ (q : qW) : List D := [.v (.int .i64 q.first),.v (.int .i64 q.last),.v (.int .i64 q.total),.v (.int .i64 q.count)]
def slot0 : Slot := ⟨false,0,0,0,false,0,0,0⟩
def zD (a : Arena) : Nat → AObj
  | 0 => .cells [.own 1,.own 2,zF a.free] 136
  | 1 => .own 142 8 (a.slots.map zN)
  | 2 => .own 146 4 (a.queues.map zJ)
  | _ => .gone
def kG (a : Arena) : AObj := .adt Arena 3 zD a
structure xB where
  price : Int
  queue : Int
  deriving DecidableEq
structure Place where
  side : Int
  price : Int
  slot : Int
  deriving DecidableEq
structure Book where
  a : Arena
  buys : List xB
  sells : List xB
  at_ : List (Int × Place)
  top1 : Int
  top2 : Int
  spare : List Int
  has1 : Bool
  has2 : Bool
  deriving DecidableEq
def zA (r : xB) : List D := [.v (.int .i64 r.price),.v (.int .i64 r.queue)]
def zJm (p : Place) : List D := [.v (.int .i64 p.side),.v (.int .i64 p.price),.v (.int .i64 p.slot)]
def atE (l : List (Int × Place)) : List (Value × List D) := l.map fun x => (.int .i64 x.1,zJm x.2)
def zQ (b : Book) : Nat → AObj
  | 0 => .cells [.nm 1 0,.own 2,.own 3,.mp 4,zF b.top1,zF b.top2,.own 5,yP b.has1,yP b.has2] 104
  | 1 => kG b.a
  | 2 => .own 109 2 (b.buys.map zA)
  | 3 => .own 109 2 (b.sells.map zA)
  | 4 => .map (atE b.at_)
  | 5 => .own 3 1 (iE b.spare)
  | _ => .gone
def yF (b : Book) : AObj := .adt Book 6 zQ b
structure MSt where
  p : Prd
  books : List Book
  wh : List (Int × Int)
def yJ (l : List (Int × Int)) : List (Value × List D) := l.map fun x => (.int .i64 x.1,[.v (.int .i64 x.2)])
def yA (s : MSt) : Nat → AObj
  | 0 => .cells [sV s.p.code,.own 3,zF s.p.tick,zF s.p.low,zF s.p.high,zF s.p.wide,zF s.p.rule,zF s.p.top,zF s.p.least,zF s.p.part,.own 4,.own 1,.mp 2] 63
  | 1 => .objs 64 Book 6 zQ s.books none
  | 2 => .map (yJ s.wh)
  | 3 => .fro 1 (iE s.p.months)
  | 4 => .fro 1 (iE s.p.settle)
  | _ => .gone
def zO (s : MSt) : AObj := .adt MSt 5 yA s
def rM (n : Nat) : Arena := ⟨List.replicate n slot0,[],n⟩
def book0 : Book := ⟨rM 250,[],[],[],0,0,[],false,false⟩
def newAC : Con := con1 Nat (fun n => [zF n]) (fun _ => []) (fun n => 1 ≤ n ∧ n ≤ 4096) (fun _ => .tup [.nm 0 0,zF 0]) (fun n => [kG (rM n)])
def newBC : Con := con1 Unit (fun _ => []) (fun _ => []) (fun _ => True) (fun _ => .nm 0 0) (fun _ => [yF book0])
def wW (p : Prd) : MSt := ⟨p,List.replicate p.count book0,[]⟩
def newSC : Con where
  ι := Prd
  pat := fun p => [prdV p]
  pre := fun _ => []
  cnd := fun p => p.small
  alts := fun p => [{ o := Unit,res := fun _ => .tup [.nm 0 0,zF 0],post := fun _ => [zO (wW p)],rel := fun _ => p.check = 0 },{ o := Unit,res := fun _ => .tup [.d (.v (.pointer none)),zF p.check],post := fun _ => [],rel := fun _ => p.check ≠ 0 }]
def z5g (p : Prd) : List SAnn := [{ ι := Nat,slots := fun j => [(5,.nm 0 0),(27,zF j)],rows := fun j => (List.range 5).map (yA ⟨p,List.replicate j book0,[]⟩) }]
@[reducible] def Arena.small (a : Arena) : Prop := a.slots.length ≤ 1000000 ∧ a.queues.length ≤ 1000000
@[reducible] def Book.small (b : Book) : Prop := b.a.small ∧ b.buys.length ≤ 1000000 ∧ b.sells.length ≤ 1000000 ∧ b.spare.length ≤ 1000000
@[reducible] def MSt.small (s : MSt) : Prop := s.books.length ≤ 1000000 ∧ ∀ b ∈ s.books,b.small
open Go Cv Go.Proofs
def zNv (n : Nat) : Prop :=
  cnd (decide ((↑n : Int) < 1)) (∃ (o : Unit),False) (cnd (decide ((↑n : Int) > 4096)) (∃ (o : Unit),False) ((0 ≤ (↑n : Int)∧(↑n : Int) ≤ (↑n : Int)∧(↑n : Int) ≤ 9223372036854775807∧(↑(64 : Nat) : Int) * (↑n : Int) ≤ 2 ^ (48 : Nat))∧∃ (o : Unit),(0 : Int) = (0 : Int)∧(↑n : Int) = (↑n : Int)∧List.map zN (List.replicate n slot0) = List.replicate (↑n : Int).toNat [D.v (.bool false),D.v (.int .i64 0),D.v (.int .i64 0),D.v (.int .i64 0),D.v (.bool false),D.v (.int .i64 0),D.v (.int .i64 0),D.v (.int .i64 0)]∧([] : List (List D)) = []∧True))
theorem z8u (n : Nat) : zNv n = walk Try.prog ([]) 0 ([]) ([]) [] Try.f43 (Try.f43.body.getD .skip) (newAC.pat n) (newAC.pre n) (newAC.alts n) := by kernel_rfl
theorem z9u (hG : GOk Try.prog ([])) (h : ∀ (n : Nat),newAC.cnd n → zNv n) : newAC.ok Try.prog 43 := zE mixed ([]) hG 0 (fun (n : Nat) => []) (fun (n : Nat) => []) [] Try.func43 (by kernel_rfl) (by kernel_rfl) (by kernel_rfl) (fun _ => by kernel_rfl) (fun (n : Nat) hc => Eq.mp (z8u n) (h n hc))
def z4p (u : Unit) : Prop :=
  ∃ (i : Nat),(↑i : Int) = 250∧(1 ≤ i∧i ≤ 4096)∧∀ (o : Unit),True→∃ (o : Unit),(0 : Int) = (0 : Int)∧(0 : Int) = (0 : Int)∧false = false∧false = false∧AObj.adt Arena 3 zD (rM 250) = AObj.adt Arena 3 zD (rM i)∧([] : List (List D)) = []∧([] : List (List D)) = []∧atE [] = []∧iE [] = []∧True
theorem z7l (u : Unit) : z4p u = walk Try.prog ([(43,newAC)]) 0 ([]) ([]) [] Try.f19 (Try.f19.body.getD .skip) (newBC.pat u) (newBC.pre u) (newBC.alts u) := by kernel_rfl
theorem yAb (hG : GOk Try.prog ([(43,newAC)])) (h : ∀ (u : Unit),newBC.cnd u → z4p u) : newBC.ok Try.prog 19 := zE mixed ([(43,newAC)]) hG 0 (fun (u : Unit) => []) (fun (u : Unit) => []) [] Try.func19 (by kernel_rfl) (by kernel_rfl) (by kernel_rfl) (fun _ => by kernel_rfl) (fun (u : Unit) hc => Eq.mp (z7l u) (h u hc))
@[reducible] def zNm (p : Prd) : AObj := Sx.AObj.cells [V.d (D.v (Value.string (sb p.code))),V.own ((0 : Nat) + (1 : Nat) + (1 : Nat) + (1 : Nat) + ((0 : Nat) - (0 : Nat)) + (1 : Nat)),V.d (D.v (.int .i64 p.tick)),V.d (D.v (.int .i64 p.low)),V.d (D.v (.int .i64 p.high)),V.d (D.v (.int .i64 p.wide)),V.d (D.v (.int .i64 p.rule)),V.d (D.v (.int .i64 p.top)),V.d (D.v (.int .i64 p.least)),V.d (D.v (.int .i64 p.part)),V.own ((0 : Nat) + (1 : Nat) + (1 : Nat) + (1 : Nat) + ((0 : Nat) - (0 : Nat)) + (1 : Nat) + (1 : Nat) + (1 : Nat))] (25 : Nat)
@[reducible] def rJ (p : Prd) : AObj := Sx.AObj.cells [V.d (D.v (Value.string (sb p.code))),V.own ((0 : Nat) + (1 : Nat) + (1 : Nat) + (1 : Nat) + ((0 : Nat) - (0 : Nat)) + (1 : Nat) + (1 : Nat)),V.d (D.v (.int .i64 p.tick)),V.d (D.v (.int .i64 p.low)),V.d (D.v (.int .i64 p.high)),V.d (D.v (.int .i64 p.wide)),V.d (D.v (.int .i64 p.rule)),V.d (D.v (.int .i64 p.top)),V.d (D.v (.int .i64 p.least)),V.d (D.v (.int .i64 p.part)),V.own ((0 : Nat) + (1 : Nat) + (1 : Nat) + (1 : Nat) + ((0 : Nat) - (0 : Nat)) + (1 : Nat) + (1 : Nat) + (1 : Nat))] (25 : Nat)
def zYk (p : Prd) : Prop :=
  ∃ (i : Prd),sb i.code = sb p.code∧iE i.months = iE p.months∧i.tick = p.tick∧i.low = p.low∧i.high = p.high∧i.wide = p.wide∧i.rule = p.rule∧i.top = p.top∧i.least = p.least∧i.part = p.part∧iE i.settle = iE p.settle∧(i.code.length ≤ 1099511627776∧i.months.length ≤ 1099511627776∧i.settle.length ≤ 1099511627776)∧∀ (o : Unit),True→cnd (i.check != 0) ((∃ (o : Unit),False) ∨ ∃ (o : Unit),True∧p.check = i.check∧(p.check = 0→False)) ((True∧True∧((0 + (iE p.months).length) * (8 : Nat) ≤ (70368744177664 : Nat)∧True∧True∧(0 + (iE p.settle).length) * (8 : Nat) ≤ (70368744177664 : Nat)∧∃ (i : Prd),sb i.code = sb p.code∧iE i.months = [] ++ iE p.months∧i.tick = p.tick∧i.low = p.low∧i.high = p.high∧i.wide = p.wide∧i.rule = p.rule∧i.top = p.top∧i.least = p.least∧i.part = p.part∧iE i.settle = [] ++ iE p.settle∧(i.code.length ≤ 1099511627776∧i.months.length ≤ 1099511627776∧i.settle.length ≤ 1099511627776)∧∀ (o : Unit),True→∃ (i0 : Nat),(↑i0 : Int) = 0∧sb p.code = sb p.code∧p.tick = p.tick∧p.low = p.low∧p.high = p.high∧p.wide = p.wide∧p.rule = p.rule∧p.top = p.top∧p.least = p.least∧p.part = p.part∧List.replicate i0 book0 = []∧(none : Option Nat) = none∧yJ [] = []∧AObj.fro 1 (iE p.months) = AObj.fro 1 ([] ++ iE p.months)∧AObj.fro 1 (iE p.settle) = AObj.fro 1 ([] ++ iE p.settle)∧∃ (I : Nat→Prop),∃ (μ : Nat→Nat),I i0∧∀ (i_1 : Nat),I i_1→cnd (decide ((↑i_1 : Int) < (↑i.count : Int))) (∃ (i : Unit),True∧∀ (o : Unit),True→True∧True∧∃ (l1' : List Book),AObj.objs 64 Book 6 zQ (List.replicate i_1 book0) none = AObj.objs 64 Book 6 zQ l1' none∧(l1'.length + 1) * (8 : Nat) ≤ (70368744177664 : Nat)∧∃ (i' : Nat),(↑i' : Int) = IntKind.i64.wrap ((↑i_1 : Int) + 1)∧sb p.code = sb p.code∧p.tick = p.tick∧p.low = p.low∧p.high = p.high∧p.wide = p.wide∧p.rule = p.rule∧p.top = p.top∧p.least = p.least∧p.part = p.part∧AObj.objs 64 Book 6 zQ (List.replicate i' book0) none = AObj.objs 64 Book 6 zQ (l1' ++ [book0]) none∧yJ [] = yJ []∧AObj.fro 1 (iE p.months) = AObj.fro 1 (iE p.months)∧AObj.fro 1 (iE p.settle) = AObj.fro 1 (iE p.settle)∧I i'∧μ i' < μ i_1∧AObj.fro 1 ([] ++ iE p.settle) = AObj.fro 1 ([] ++ iE p.settle)∧AObj.fro 1 ([] ++ iE p.months) = AObj.fro 1 ([] ++ iE p.months)∧zNm p = zNm p∧AObj.fro 1 (iE p.settle) = AObj.fro 1 (iE p.settle)∧AObj.fro 1 (iE p.months) = AObj.fro 1 (iE p.months)) ((∃ (o : Unit),(0 : Int) = (0 : Int)∧sb p.code = sb p.code∧p.tick = p.tick∧p.low = p.low∧p.high = p.high∧p.wide = p.wide∧p.rule = p.rule∧p.top = p.top∧p.least = p.least∧p.part = p.part∧AObj.objs 64 Book 6 zQ (List.replicate p.count book0) none = AObj.objs 64 Book 6 zQ (List.replicate i_1 book0) none∧yJ [] = yJ []∧AObj.fro 1 (iE p.months) = AObj.fro 1 (iE p.months)∧AObj.fro 1 (iE p.settle) = AObj.fro 1 (iE p.settle)∧p.check = 0) ∨ ∃ (o : Unit),False))∧True∧True∧(0 + (iE p.months).length) * (8 : Nat) ≤ (70368744177664 : Nat)∧True∧(0 + (iE p.settle).length) * (8 : Nat) ≤ (70368744177664 : Nat)∧∃ (i : Prd),sb i.code = sb p.code∧iE i.months = [] ++ iE p.months∧i.tick = p.tick∧i.low = p.low∧i.high = p.high∧i.wide = p.wide∧i.rule = p.rule∧i.top = p.top∧i.least = p.least∧i.part = p.part∧iE i.settle = [] ++ iE p.settle∧(i.code.length ≤ 1099511627776∧i.months.length ≤ 1099511627776∧i.settle.length ≤ 1099511627776)∧∀ (o : Unit),True→∃ (i0 : Nat),(↑i0 : Int) = 0∧sb p.code = sb p.code∧p.tick = p.tick∧p.low = p.low∧p.high = p.high∧p.wide = p.wide∧p.rule = p.rule∧p.top = p.top∧p.least = p.least∧p.part = p.part∧List.replicate i0 book0 = []∧(none : Option Nat) = none∧yJ [] = []∧AObj.fro 1 (iE p.months) = AObj.fro 1 ([] ++ iE p.months)∧AObj.fro 1 (iE p.settle) = AObj.fro 1 ([] ++ iE p.settle)∧∃ (I : Nat→Prop),∃ (μ : Nat→Nat),I i0∧∀ (i_1 : Nat),I i_1→cnd (decide ((↑i_1 : Int) < (↑i.count : Int))) (∃ (i : Unit),True∧∀ (o : Unit),True→True∧True∧∃ (l1' : List Book),AObj.objs 64 Book 6 zQ (List.replicate i_1 book0) none = AObj.objs 64 Book 6 zQ l1' none∧(l1'.length + 1) * (8 : Nat) ≤ (70368744177664 : Nat)∧∃ (i' : Nat),(↑i' : Int) = IntKind.i64.wrap ((↑i_1 : Int) + 1)∧sb p.code = sb p.code∧p.tick = p.tick∧p.low = p.low∧p.high = p.high∧p.wide = p.wide∧p.rule = p.rule∧p.top = p.top∧p.least = p.least∧p.part = p.part∧AObj.objs 64 Book 6 zQ (List.replicate i' book0) none = AObj.objs 64 Book 6 zQ (l1' ++ [book0]) none∧yJ [] = yJ []∧AObj.fro 1 (iE p.months) = AObj.fro 1 (iE p.months)∧AObj.fro 1 (iE p.settle) = AObj.fro 1 (iE p.settle)∧I i'∧μ i' < μ i_1∧AObj.fro 1 ([] ++ iE p.settle) = AObj.fro 1 ([] ++ iE p.settle)∧AObj.fro 1 ([] ++ iE p.months) = AObj.fro 1 ([] ++ iE p.months)∧rJ p = rJ p∧AObj.fro 1 (iE p.settle) = AObj.fro 1 (iE p.settle)∧AObj.fro 1 (iE p.months) = AObj.fro 1 (iE p.months)) ((∃ (o : Unit),(0 : Int) = (0 : Int)∧sb p.code = sb p.code∧p.tick = p.tick∧p.low = p.low∧p.high = p.high∧p.wide = p.wide∧p.rule = p.rule∧p.top = p.top∧p.least = p.least∧p.part = p.part∧AObj.objs 64 Book 6 zQ (List.replicate p.count book0) none = AObj.objs 64 Book 6 zQ (List.replicate i_1 book0) none∧yJ [] = yJ []∧AObj.fro 1 (iE p.months) = AObj.fro 1 (iE p.months)∧AObj.fro 1 (iE p.settle) = AObj.fro 1 (iE p.settle)∧p.check = 0) ∨ ∃ (o : Unit),False))∧True∧True∧True∧True∧(0 + (iE p.months).length) * (8 : Nat) ≤ (70368744177664 : Nat)∧True∧(0 + (iE p.settle).length) * (8 : Nat) ≤ (70368744177664 : Nat)∧∃ (i : Prd),sb i.code = sb p.code∧iE i.months = [] ++ iE p.months∧i.tick = p.tick∧i.low = p.low∧i.high = p.high∧i.wide = p.wide∧i.rule = p.rule∧i.top = p.top∧i.least = p.least∧i.part = p.part∧iE i.settle = [] ++ iE p.settle∧(i.code.length ≤ 1099511627776∧i.months.length ≤ 1099511627776∧i.settle.length ≤ 1099511627776)∧∀ (o : Unit),True→∃ (i0 : Nat),(↑i0 : Int) = 0∧sb p.code = sb p.code∧p.tick = p.tick∧p.low = p.low∧p.high = p.high∧p.wide = p.wide∧p.rule = p.rule∧p.top = p.top∧p.least = p.least∧p.part = p.part∧List.replicate i0 book0 = []∧(none : Option Nat) = none∧yJ [] = []∧AObj.fro 1 (iE p.months) = AObj.fro 1 ([] ++ iE p.months)∧AObj.fro 1 (iE p.settle) = AObj.fro 1 ([] ++ iE p.settle)∧∃ (I : Nat→Prop),∃ (μ : Nat→Nat),I i0∧∀ (i_1 : Nat),I i_1→cnd (decide ((↑i_1 : Int) < (↑i.count : Int))) (∃ (i : Unit),True∧∀ (o : Unit),True→True∧True∧∃ (l1' : List Book),AObj.objs 64 Book 6 zQ (List.replicate i_1 book0) none = AObj.objs 64 Book 6 zQ l1' none∧(l1'.length + 1) * (8 : Nat) ≤ (70368744177664 : Nat)∧∃ (i' : Nat),(↑i' : Int) = IntKind.i64.wrap ((↑i_1 : Int) + 1)∧sb p.code = sb p.code∧p.tick = p.tick∧p.low = p.low∧p.high = p.high∧p.wide = p.wide∧p.rule = p.rule∧p.top = p.top∧p.least = p.least∧p.part = p.part∧AObj.objs 64 Book 6 zQ (List.replicate i' book0) none = AObj.objs 64 Book 6 zQ (l1' ++ [book0]) none∧yJ [] = yJ []∧AObj.fro 1 (iE p.months) = AObj.fro 1 (iE p.months)∧AObj.fro 1 (iE p.settle) = AObj.fro 1 (iE p.settle)∧I i'∧μ i' < μ i_1∧AObj.fro 1 ([] ++ iE p.settle) = AObj.fro 1 ([] ++ iE p.settle)∧AObj.fro 1 ([] ++ iE p.months) = AObj.fro 1 ([] ++ iE p.months)∧rJ p = rJ p∧AObj.fro 1 (iE p.settle) = AObj.fro 1 (iE p.settle)∧AObj.fro 1 (iE p.months) = AObj.fro 1 (iE p.months)) ((∃ (o : Unit),(0 : Int) = (0 : Int)∧sb p.code = sb p.code∧p.tick = p.tick∧p.low = p.low∧p.high = p.high∧p.wide = p.wide∧p.rule = p.rule∧p.top = p.top∧p.least = p.least∧p.part = p.part∧AObj.objs 64 Book 6 zQ (List.replicate p.count book0) none = AObj.objs 64 Book 6 zQ (List.replicate i_1 book0) none∧yJ [] = yJ []∧AObj.fro 1 (iE p.months) = AObj.fro 1 (iE p.months)∧AObj.fro 1 (iE p.settle) = AObj.fro 1 (iE p.settle)∧p.check = 0) ∨ ∃ (o : Unit),False))
theorem z6t (p : Prd) : zYk p = walk Try.prog ([(17,checkC),(18,pcountC),(19,newBC)]) 0 ([]) (z5g p) [] Try.f7 (Try.f7.body.getD .skip) (newSC.pat p) (newSC.pre p) (newSC.alts p) := by kernel_rfl
theorem z6o (hG : GOk Try.prog ([(17,checkC),(18,pcountC),(19,newBC)])) (h : ∀ (p : Prd),newSC.cnd p → zYk p) : newSC.ok Try.prog 7 := zE mixed ([(17,checkC),(18,pcountC),(19,newBC)]) hG 0 (fun (p : Prd) => []) (fun (p : Prd) => z5g p) [] Try.func7 (by kernel_rfl) (by kernel_rfl) (by kernel_rfl) (fun _ => by kernel_rfl) (fun (p : Prd) hc => Eq.mp (z6t p) (h p hc))
open Go Cv Go.Proofs
theorem yAi (n : Nat) (h : newAC.cnd n) : zNv n := by
  obtain ⟨h1,h2⟩ : 1 ≤ n ∧ n ≤ 4096 := h
  unfold zNv
  refine zU (fun c => by omega) fun c => zU (fun c => by omega) fun c => ?_
  refine ⟨⟨by omega,by omega,by omega,?_⟩,?_⟩
  · have : (2 : Int) ^ (48 : Nat) = 281474976710656 := by decide
    rw [this]; omega
  · refine ⟨(),rfl,rfl,?_,rfl,trivial⟩
    rw [List.map_replicate]; rfl
theorem z3s : newAC.ok Try.prog 43 := z9u gok0 yAi
theorem zZz : newBC.ok Try.prog 19 := yAb (gokc z3s gok0) fun u _ => by
  refine ⟨250,rfl,⟨by omega,by omega⟩,?_⟩; (repeat' (first|exact rfl|exact trivial|assumption|apply And.intro|refine fun (_:Unit) (_:True)=>?_|refine Exists.intro () ?_|omega|(dsimp only;omega)))
theorem yCl (p : Prd) (h : newSC.cnd p) : zYk p := by
  have hs : p.small := h
  obtain ⟨h1,h2,h3⟩ : p.small := h
  refine ⟨p,?_⟩
  simp only [yY]
  (repeat' (first|exact rfl|exact trivial|assumption|apply And.intro|refine fun (_:Unit) (_:True)=>?_|refine Exists.intro () ?_|omega|(dsimp only;omega)))
  refine Cv.cnd.mk (fun c => .inr ⟨(),trivial,by (repeat' (first|exact rfl|exact trivial|assumption|apply And.intro|refine fun (_:Unit) (_:True)=>?_|refine Exists.intro () ?_|omega|(dsimp only;omega))),by simpa using c⟩) fun c => ?_
  have c : p.check = 0 := by simpa using c
  have hc := j1 p
  (repeat' (first|exact rfl|exact trivial|assumption|apply And.intro|refine fun (_:Unit) (_:True)=>?_|refine Exists.intro () ?_|omega|(dsimp only;omega)))
  all_goals (refine ⟨p,?_⟩; (repeat' (first|exact rfl|exact trivial|assumption|apply And.intro|refine fun (_:Unit) (_:True)=>?_|refine Exists.intro () ?_|omega|(dsimp only;omega))))
  all_goals (refine ⟨0,?_⟩; (repeat' (first|exact rfl|exact trivial|assumption|apply And.intro|refine fun (_:Unit) (_:True)=>?_|refine Exists.intro () ?_|omega|(dsimp only;omega))))
  all_goals (refine ⟨fun j => j ≤ p.count,fun j => p.count - j,by omega,fun j hj => zU (fun hlt => ?_) (fun hlt => ?_)⟩; all_goals dsimp only at hj hlt)
  all_goals first
    | (refine .inl ⟨(),?_⟩
       obtain rfl : j = p.count := by omega
       (repeat' (first|exact rfl|exact trivial|assumption|apply And.intro|refine fun (_:Unit) (_:True)=>?_|refine Exists.intro () ?_|omega|(dsimp only;omega))))
    | (refine ⟨(),trivial,fun _ _ => ⟨trivial,trivial,List.replicate j book0,rfl,?_,j + 1,?_⟩⟩
       · rw [List.length_replicate]; omega
       · rw [w64 (by omega),← List.replicate_succ']
         (repeat' (first|exact rfl|exact trivial|assumption|apply And.intro|refine fun (_:Unit) (_:True)=>?_|refine Exists.intro () ?_|omega|(dsimp only;omega))))
theorem newS_ok : newSC.ok Try.prog 7 := z6o (gokc eD (gokc uL (gokc zZz gok0))) yCl
open Go Cv Go.Proofs
structure ArN where
  a : Arena
  n : Int
def Arena.qAt (a : Arena) (n : Int) : qW := if 0 ≤ n ∧ n < a.queues.length then a.queues.getD n.toNat ⟨0,0,0,0⟩ else ⟨0,0,0,0⟩
def atotalC : Con := con1 ArN (fun i => [.nm 0 0,zF i.n]) (fun i => [kG i.a]) (fun i => True) (fun i => zF (i.a.qAt i.n).total) (fun i => [kG i.a])
def acountC : Con := con1 ArN (fun i => [.nm 0 0,zF i.n]) (fun i => [kG i.a]) (fun i => True) (fun i => zF (i.a.qAt i.n).count) (fun i => [kG i.a])
def bisC : Con := con1 Int (fun n => [zF n]) (fun _ => []) (fun _ => True) (fun n => yP (decide (n = 1) || decide (n = 2))) (fun _ => [])
structure BkR where
  b : Book
  r : xB
def Book.told (b : Book) (r : xB) : Lv := ⟨r.price,(b.a.qAt r.queue).total,(b.a.qAt r.queue).count⟩
@[reducible] def Book.cntOk (b : Book) : Prop := ∀ q ∈ b.a.queues,yN q.count
def toldC : Con := con1 BkR (fun i => [.nm 0 0,.agg [zF i.r.price,zF i.r.queue]]) (fun i => [yF i.b]) (fun i => i.b.cntOk) (fun i => lvV (i.b.told i.r)) (fun i => [yF i.b])
def Book.best (b : Book) (l : List xB) : Lv × Bool := match l with
  | [] => (⟨0,0,0⟩,false)
  | r :: _ => (b.told r,true)
structure BkS where
  side : Bool
  b : Book
def Book.side (b : Book) (s : Bool) : List xB := if s then b.sells else b.buys
@[reducible] def zKu (b : Book) (l : List xB) : V := .tup [lvV (b.best l).1,yP (b.best l).2]
def best1C : Con := con1 Book (fun _ => [.nm 0 0,zF 1]) (fun b => [yF b]) Book.cntOk (fun b => zKu b b.buys) (fun b => [yF b])
def best2C : Con := con1 Book (fun _ => [.nm 0 0,zF 2]) (fun b => [yF b]) Book.cntOk (fun b => zKu b b.sells) (fun b => [yF b])
def zB (s : Bool) : Int := if s then 2 else 1
def bestC : Con := con1 BkS (fun i => [.nm 0 0,zF (zB i.side)]) (fun i => [yF i.b]) (fun i => i.b.cntOk) (fun i => zKu i.b (i.b.side i.side)) (fun i => [yF i.b])
structure Top where
  has1 : Bool
  has2 : Bool
  p1 : Int
  p2 : Int
  q1 : Int
  q2 : Int
  deriving DecidableEq
def zR (t : Top) : List D := [.v (.bool t.has1),.v (.bool t.has2),.v (.int .i64 t.p1),.v (.int .i64 t.p2),.v (.int .i64 t.q1),.v (.int .i64 t.q2)]
def top0 : Top := ⟨false,false,0,0,0,0⟩
def Top.buy (t : Top) (x : Lv × Bool) : Top := if x.2 then { t with has1 := true,p1 := x.1.price,q1 := x.1.qty } else t
def Top.sell (t : Top) (x : Lv × Bool) : Top := if x.2 then { t with has2 := true,p2 := x.1.price,q2 := x.1.qty } else t
def Book.top (b : Book) : Top := (top0.buy (b.best b.buys)).sell (b.best b.sells)
def MSt.tops (s : MSt) : List Top := s.books.map Book.top
@[reducible] def MSt.cntOk (s : MSt) : Prop := s.books.length ≤ 1000000 ∧ ∀ b ∈ s.books,b.cntOk
def yK (s : MSt) (j : Nat) (x : Top) : List Top := (s.tops.take j) ++ x :: List.replicate (s.books.length - j - 1) top0
def kC (s : MSt) (j : Nat) : List Top := (s.tops.take j) ++ List.replicate (s.books.length - j) top0
def z5i (s : MSt) : List SAnn := [
  { ι := Nat,slots := fun j => [(3,.own 0),(21,zF j)],rows := fun j => [.own 151 6 ((kC s j).map zR)] },
  { ι := Unit,slots := fun _ => [],rows := fun _ => [],un := 3 }]
def z4n (s : MSt) : List (Nat × SAnn) := [(15,{ ι := Nat × Top,slots := fun x => [(3,.own 0)],slots0 := fun x => [(3,.own 0)],rows0 := fun x => [.own 151 6 ((yK s x.1 x.2).map zR)],rows := fun x => [.own 151 6 ((yK s x.1 x.2).map zR)] })]
open Go Cv Go.Proofs
def zDp (i : ArN) : Prop :=
  cnd (decide (i.n ≥ 0)) (cnd (!decide (i.n < (↑(List.map zJ i.a.queues).length : Int))) (∃ (o : Unit),(i.a.qAt i.n).total = 0∧i.a.free = i.a.free∧List.map zN i.a.slots = List.map zN i.a.slots∧List.map zJ i.a.queues = List.map zJ i.a.queues∧True) ((0 ≤ i.n∧i.n < (↑(List.map zJ i.a.queues).length : Int))∧∃ (n : Int),zH (List.map zJ i.a.queues) i.n.toNat ((0 : Nat) + (2 : Nat)) 1 = some [D.v (.int .i64 n)]∧∃ (o : Unit),(i.a.qAt i.n).total = n∧i.a.free = i.a.free∧List.map zN i.a.slots = List.map zN i.a.slots∧List.map zJ i.a.queues = List.map zJ i.a.queues∧True)) (∃ (o : Unit),(i.a.qAt i.n).total = 0∧i.a.free = i.a.free∧List.map zN i.a.slots = List.map zN i.a.slots∧List.map zJ i.a.queues = List.map zJ i.a.queues∧True)
theorem zUs (i : ArN) : zDp i = walk Try.prog ([]) 1 ([]) ([]) [0] Try.f79 (Try.f79.body.getD .skip) (atotalC.pat i) (atotalC.pre i) (atotalC.alts i) := by kernel_rfl
theorem zXe (hG : GOk Try.prog ([])) (h : ∀ (i : ArN),atotalC.cnd i → zDp i) : atotalC.ok Try.prog 79 := zE mixed ([]) hG 1 (fun (i : ArN) => []) (fun (i : ArN) => []) [0] Try.func79 (by kernel_rfl) (by kernel_rfl) (by kernel_rfl) (fun _ => by kernel_rfl) (fun (i : ArN) hc => Eq.mp (zUs i) (h i hc))
def zDj (i : ArN) : Prop :=
  cnd (decide (i.n ≥ 0)) (cnd (!decide (i.n < (↑(List.map zJ i.a.queues).length : Int))) (∃ (o : Unit),(i.a.qAt i.n).count = 0∧i.a.free = i.a.free∧List.map zN i.a.slots = List.map zN i.a.slots∧List.map zJ i.a.queues = List.map zJ i.a.queues∧True) ((0 ≤ i.n∧i.n < (↑(List.map zJ i.a.queues).length : Int))∧∃ (n : Int),zH (List.map zJ i.a.queues) i.n.toNat ((0 : Nat) + (3 : Nat)) 1 = some [D.v (.int .i64 n)]∧∃ (o : Unit),(i.a.qAt i.n).count = n∧i.a.free = i.a.free∧List.map zN i.a.slots = List.map zN i.a.slots∧List.map zJ i.a.queues = List.map zJ i.a.queues∧True)) (∃ (o : Unit),(i.a.qAt i.n).count = 0∧i.a.free = i.a.free∧List.map zN i.a.slots = List.map zN i.a.slots∧List.map zJ i.a.queues = List.map zJ i.a.queues∧True)
theorem zVg (i : ArN) : zDj i = walk Try.prog ([]) 1 ([]) ([]) [0] Try.f80 (Try.f80.body.getD .skip) (acountC.pat i) (acountC.pre i) (acountC.alts i) := by kernel_rfl
theorem zVt (hG : GOk Try.prog ([])) (h : ∀ (i : ArN),acountC.cnd i → zDj i) : acountC.ok Try.prog 80 := zE mixed ([]) hG 1 (fun (i : ArN) => []) (fun (i : ArN) => []) [0] Try.func80 (by kernel_rfl) (by kernel_rfl) (by kernel_rfl) (fun _ => by kernel_rfl) (fun (i : ArN) hc => Eq.mp (zVg i) (h i hc))
def yAa (n : Int) : Prop :=
  cnd (n == 1) (∃ (o : Unit),(decide (n = 1) || decide (n = 2)) = true∧True) (∃ (o : Unit),(decide (n = 1) || decide (n = 2)) = (n == 2)∧True)
theorem yAt (n : Int) : yAa n = walk Try.prog ([]) 0 ([]) ([]) [] Try.f44 (Try.f44.body.getD .skip) (bisC.pat n) (bisC.pre n) (bisC.alts n) := by kernel_rfl
theorem yCy (hG : GOk Try.prog ([])) (h : ∀ (n : Int),bisC.cnd n → yAa n) : bisC.ok Try.prog 44 := zE mixed ([]) hG 0 (fun (n : Int) => []) (fun (n : Int) => []) [] Try.func44 (by kernel_rfl) (by kernel_rfl) (by kernel_rfl) (fun _ => by kernel_rfl) (fun (n : Int) hc => Eq.mp (yAt n) (h n hc))
def z4s (i : BkR) : Prop :=
  ∃ (i_1 : ArN),i_1.n = i.r.queue∧AObj.adt Arena 3 zD i_1.a = AObj.adt Arena 3 zD i.b.a∧True∧∀ (o : Unit),True→i.r.queue = i.r.queue∧True∧i.r.price = i.r.price∧∃ (i_2 : ArN),i_2.n = i.r.queue∧AObj.adt Arena 3 zD i_2.a = AObj.adt Arena 3 zD i_1.a∧True∧∀ (o : Unit),True→i.r.price = i.r.price∧∃ (o : Unit),i.r.price = i.r.price∧(i.b.a.qAt i.r.queue).total = (i_1.a.qAt i_1.n).total∧(i.b.a.qAt i.r.queue).count = (i_2.a.qAt i_2.n).count∧i.b.top1 = i.b.top1∧i.b.top2 = i.b.top2∧i.b.has1 = i.b.has1∧i.b.has2 = i.b.has2∧AObj.adt Arena 3 zD i.b.a = AObj.adt Arena 3 zD i_2.a∧List.map zA i.b.buys = List.map zA i.b.buys∧List.map zA i.b.sells = List.map zA i.b.sells∧atE i.b.at_ = atE i.b.at_∧iE i.b.spare = iE i.b.spare∧True
theorem z6a (i : BkR) : z4s i = walk Try.prog ([(79,atotalC),(80,acountC)]) 0 ([]) ([]) [0] Try.f60 (Try.f60.body.getD .skip) (toldC.pat i) (toldC.pre i) (toldC.alts i) := by kernel_rfl
theorem z8e (hG : GOk Try.prog ([(79,atotalC),(80,acountC)])) (h : ∀ (i : BkR),toldC.cnd i → z4s i) : toldC.ok Try.prog 60 := zE mixed ([(79,atotalC),(80,acountC)]) hG 0 (fun (i : BkR) => []) (fun (i : BkR) => []) [0] Try.func60 (by kernel_rfl) (by kernel_rfl) (by kernel_rfl) (fun _ => by kernel_rfl) (fun (i : BkR) hc => Eq.mp (z6a i) (h i hc))
def zSe (b : Book) : Prop :=
  ∃ (i : Int),i = 1∧True∧∀ (o : Unit),True→cnd (!(decide (i = 1) || decide (i = 2))) (∃ (o : Unit),(b.best b.buys).fst.price = 0∧(b.best b.buys).fst.qty = 0∧(b.best b.buys).fst.count = 0∧(b.best b.buys).snd = false∧b.top1 = b.top1∧b.top2 = b.top2∧b.has1 = b.has1∧b.has2 = b.has2∧AObj.adt Arena 3 zD b.a = AObj.adt Arena 3 zD b.a∧List.map zA b.buys = List.map zA b.buys∧List.map zA b.sells = List.map zA b.sells∧atE b.at_ = atE b.at_∧iE b.spare = iE b.spare∧True) (cnd ((↑(List.map zA b.buys).length : Int) == 0) (∃ (o : Unit),(b.best b.buys).fst.price = 0∧(b.best b.buys).fst.qty = 0∧(b.best b.buys).fst.count = 0∧(b.best b.buys).snd = false∧b.top1 = b.top1∧b.top2 = b.top2∧b.has1 = b.has1∧b.has2 = b.has2∧AObj.adt Arena 3 zD b.a = AObj.adt Arena 3 zD b.a∧List.map zA b.buys = List.map zA b.buys∧List.map zA b.sells = List.map zA b.sells∧atE b.at_ = atE b.at_∧iE b.spare = iE b.spare∧True) (((0 : Int) ≤ (0 : Int)∧0 < (↑(List.map zA b.buys).length : Int))∧∃ (n : Int),∃ (n_1 : Int),zH (List.map zA b.buys) (Int.toNat 0) 0 2 = some [D.v (.int .i64 n),D.v (.int .i64 n_1)]∧∃ (i : BkR),i.r.price = n∧i.r.queue = n_1∧i.b.top1 = b.top1∧i.b.top2 = b.top2∧i.b.has1 = b.has1∧i.b.has2 = b.has2∧AObj.adt Arena 3 zD i.b.a = AObj.adt Arena 3 zD b.a∧List.map zA i.b.buys = List.map zA b.buys∧List.map zA i.b.sells = List.map zA b.sells∧atE i.b.at_ = atE b.at_∧iE i.b.spare = iE b.spare∧(∀ (q : qW),q ∈ i.b.a.queues→(-9223372036854775808) ≤ q.count∧q.count ≤ 9223372036854775807)∧∀ (o : Unit),True→∃ (o : Unit),(b.best b.buys).fst.price = i.r.price∧(b.best b.buys).fst.qty = (i.b.a.qAt i.r.queue).total∧(b.best b.buys).fst.count = (i.b.a.qAt i.r.queue).count∧(b.best b.buys).snd = true∧yF b = yF i.b∧True))
theorem zZh (b : Book) : zSe b = walk Try.prog ([(44,bisC),(60,toldC)]) 0 ([]) ([]) [0] Try.f52 (Try.f52.body.getD .skip) (best1C.pat b) (best1C.pre b) (best1C.alts b) := by kernel_rfl
theorem z2n (hG : GOk Try.prog ([(44,bisC),(60,toldC)])) (h : ∀ (b : Book),best1C.cnd b → zSe b) : best1C.ok Try.prog 52 := zE mixed ([(44,bisC),(60,toldC)]) hG 0 (fun (b : Book) => []) (fun (b : Book) => []) [0] Try.func52 (by kernel_rfl) (by kernel_rfl) (by kernel_rfl) (fun _ => by kernel_rfl) (fun (b : Book) hc => Eq.mp (zZh b) (h b hc))
def zVw (b : Book) : Prop :=
  ∃ (i : Int),i = 2∧True∧∀ (o : Unit),True→cnd (!(decide (i = 1) || decide (i = 2))) (∃ (o : Unit),(b.best b.sells).fst.price = 0∧(b.best b.sells).fst.qty = 0∧(b.best b.sells).fst.count = 0∧(b.best b.sells).snd = false∧b.top1 = b.top1∧b.top2 = b.top2∧b.has1 = b.has1∧b.has2 = b.has2∧AObj.adt Arena 3 zD b.a = AObj.adt Arena 3 zD b.a∧List.map zA b.buys = List.map zA b.buys∧List.map zA b.sells = List.map zA b.sells∧atE b.at_ = atE b.at_∧iE b.spare = iE b.spare∧True) (cnd ((↑(List.map zA b.sells).length : Int) == 0) (∃ (o : Unit),(b.best b.sells).fst.price = 0∧(b.best b.sells).fst.qty = 0∧(b.best b.sells).fst.count = 0∧(b.best b.sells).snd = false∧b.top1 = b.top1∧b.top2 = b.top2∧b.has1 = b.has1∧b.has2 = b.has2∧AObj.adt Arena 3 zD b.a = AObj.adt Arena 3 zD b.a∧List.map zA b.buys = List.map zA b.buys∧List.map zA b.sells = List.map zA b.sells∧atE b.at_ = atE b.at_∧iE b.spare = iE b.spare∧True) (((0 : Int) ≤ (0 : Int)∧0 < (↑(List.map zA b.sells).length : Int))∧∃ (n : Int),∃ (n_1 : Int),zH (List.map zA b.sells) (Int.toNat 0) 0 2 = some [D.v (.int .i64 n),D.v (.int .i64 n_1)]∧∃ (i : BkR),i.r.price = n∧i.r.queue = n_1∧i.b.top1 = b.top1∧i.b.top2 = b.top2∧i.b.has1 = b.has1∧i.b.has2 = b.has2∧AObj.adt Arena 3 zD i.b.a = AObj.adt Arena 3 zD b.a∧List.map zA i.b.buys = List.map zA b.buys∧List.map zA i.b.sells = List.map zA b.sells∧atE i.b.at_ = atE b.at_∧iE i.b.spare = iE b.spare∧(∀ (q : qW),q ∈ i.b.a.queues→(-9223372036854775808) ≤ q.count∧q.count ≤ 9223372036854775807)∧∀ (o : Unit),True→∃ (o : Unit),(b.best b.sells).fst.price = i.r.price∧(b.best b.sells).fst.qty = (i.b.a.qAt i.r.queue).total∧(b.best b.sells).fst.count = (i.b.a.qAt i.r.queue).count∧(b.best b.sells).snd = true∧yF b = yF i.b∧True))
theorem z1h (b : Book) : zVw b = walk Try.prog ([(44,bisC),(60,toldC)]) 0 ([]) ([]) [0] Try.f52 (Try.f52.body.getD .skip) (best2C.pat b) (best2C.pre b) (best2C.alts b) := by kernel_rfl
theorem z0q (hG : GOk Try.prog ([(44,bisC),(60,toldC)])) (h : ∀ (b : Book),best2C.cnd b → zVw b) : best2C.ok Try.prog 52 := zE mixed ([(44,bisC),(60,toldC)]) hG 0 (fun (b : Book) => []) (fun (b : Book) => []) [0] Try.func52 (by kernel_rfl) (by kernel_rfl) (by kernel_rfl) (fun _ => by kernel_rfl) (fun (b : Book) hc => Eq.mp (z1h b) (h b hc))
open Go Cv Go.Proofs
theorem elA {α : Type} {f : α → List D} {l : List α} {i g n : Nat} {x : α} {r : List D} (h : l[i]? = some x) (hn : g + n ≤ (f x).length) (hr : ((f x).drop g).take n = r) : zH (l.map f) i g n = some r := by
  unfold zH
  rw [List.getElem?_map,h]
  simp only [Option.map_some,Nat.ble_eq_true_of_le hn,cond_true,hr]
theorem zDk {a : Arena} {n : Int} {q : qW} (h0 : 0 ≤ n) (h : a.queues[n.toNat]? = some q) : a.qAt n = q := by
  have := (List.getElem?_eq_some_iff.1 h).1
  rw [Arena.qAt,if_pos ⟨h0,by omega⟩,List.getD_eq_getElem?_getD,h]; rfl
theorem pY {a : Arena} {n : Int} (h : ¬ (0 ≤ n ∧ n < a.queues.length)) : a.qAt n = ⟨0,0,0,0⟩ := by rw [Arena.qAt,if_neg h]
theorem zPy : atotalC.ok Try.prog 79 := zXe gok0 fun i _ => by
  unfold zDp
  simp only [List.length_map]
  refine zU (fun c => Cv.cnd.mk (fun d => ?_) (fun d => ?_)) (fun c => ?_)
  · have d : ¬ i.n < (i.a.queues.length : Int) := by simpa using d
    rw [pY (by omega)]; (repeat' (first|exact rfl|exact trivial|assumption|apply And.intro|refine fun (_:Unit) (_:True)=>?_|refine Exists.intro () ?_|omega|(dsimp only;omega)))
  · have d : i.n < (i.a.queues.length : Int) := by simpa using d
    obtain ⟨q,hq⟩ := yC (l := i.a.queues) (i := i.n.toNat) (by omega)
    rw [zDk (by omega) hq]
    refine ⟨⟨by omega,by omega⟩,q.total,elA hq (by simp [zJ]) rfl,?_⟩; (repeat' (first|exact rfl|exact trivial|assumption|apply And.intro|refine fun (_:Unit) (_:True)=>?_|refine Exists.intro () ?_|omega|(dsimp only;omega)))
  · rw [pY (by omega)]; (repeat' (first|exact rfl|exact trivial|assumption|apply And.intro|refine fun (_:Unit) (_:True)=>?_|refine Exists.intro () ?_|omega|(dsimp only;omega)))
theorem m7 : acountC.ok Try.prog 80 := zVt gok0 fun i _ => by
  unfold zDj
  simp only [List.length_map]
  refine zU (fun c => Cv.cnd.mk (fun d => ?_) (fun d => ?_)) (fun c => ?_)
  · have d : ¬ i.n < (i.a.queues.length : Int) := by simpa using d
    rw [pY (by omega)]; (repeat' (first|exact rfl|exact trivial|assumption|apply And.intro|refine fun (_:Unit) (_:True)=>?_|refine Exists.intro () ?_|omega|(dsimp only;omega)))
  · have d : i.n < (i.a.queues.length : Int) := by simpa using d
    obtain ⟨q,hq⟩ := yC (l := i.a.queues) (i := i.n.toNat) (by omega)
    rw [zDk (by omega) hq]
    refine ⟨⟨by omega,by omega⟩,q.count,elA hq (by simp [zJ]) rfl,?_⟩; (repeat' (first|exact rfl|exact trivial|assumption|apply And.intro|refine fun (_:Unit) (_:True)=>?_|refine Exists.intro () ?_|omega|(dsimp only;omega)))
  · rw [pY (by omega)]; (repeat' (first|exact rfl|exact trivial|assumption|apply And.intro|refine fun (_:Unit) (_:True)=>?_|refine Exists.intro () ?_|omega|(dsimp only;omega)))
theorem m5 : bisC.ok Try.prog 44 := yCy gok0 fun n _ => by
  unfold yAa
  refine Cv.cnd.mk (fun c => ⟨(),?_,trivial⟩) (fun c => ⟨(),?_,trivial⟩)
  all_goals simp at c
  · simp [c]
  · by_cases h : n = 2 <;> simp [c,h]
theorem zMo : toldC.ok Try.prog 60 := z8e (gokc zPy (gokc m7 gok0)) fun i h => by
  refine ⟨⟨i.b.a,i.r.queue⟩,?_⟩; (repeat' (first|exact rfl|exact trivial|assumption|apply And.intro|refine fun (_:Unit) (_:True)=>?_|refine Exists.intro () ?_|omega|(dsimp only;omega)))
  refine ⟨⟨i.b.a,i.r.queue⟩,?_⟩; (repeat' (first|exact rfl|exact trivial|assumption|apply And.intro|refine fun (_:Unit) (_:True)=>?_|refine Exists.intro () ?_|omega|(dsimp only;omega)))
theorem zSg : best1C.ok Try.prog 52 := z2n (gokc m5 (gokc zMo gok0)) fun b h => by
  have h : b.cntOk := h
  refine ⟨1,rfl,trivial,fun _ _ => Cv.cnd.mk (fun c => absurd c (by decide)) fun _ => ?_⟩
  simp only [List.length_map]
  refine Cv.cnd.mk (fun c => ?_) (fun c => ?_)
  · have hl : b.buys = [] := List.eq_nil_of_length_eq_zero (by have : (b.buys.length : Int) = 0 := (by simpa using c); omega)
    have e : b.best b.buys = (⟨0,0,0⟩,false) := by rw [hl]; rfl
    rw [e]; (repeat' (first|exact rfl|exact trivial|assumption|apply And.intro|refine fun (_:Unit) (_:True)=>?_|refine Exists.intro () ?_|omega|(dsimp only;omega)))
  · obtain ⟨r,l,hl⟩ : ∃ r l,b.buys = r :: l := by
      cases hb : b.buys with
      | nil => rw [hb] at c; exact absurd c (by decide)
      | cons r l => exact ⟨r,l,rfl⟩
    have e : b.best b.buys = (b.told r,true) := by rw [hl]; rfl
    rw [e]
    refine ⟨⟨by omega,by rw [hl,List.length_cons]; omega⟩,r.price,r.queue,elA (x := r) (by rw [hl]; rfl) (by simp [zA]) rfl,⟨b,r⟩,?_⟩
    (repeat' (first|exact rfl|exact trivial|assumption|apply And.intro|refine fun (_:Unit) (_:True)=>?_|refine Exists.intro () ?_|omega|(dsimp only;omega)))
theorem zXa : best2C.ok Try.prog 52 := z0q (gokc m5 (gokc zMo gok0)) fun b h => by
  have h : b.cntOk := h
  refine ⟨2,rfl,trivial,fun _ _ => Cv.cnd.mk (fun c => absurd c (by decide)) fun _ => ?_⟩
  simp only [List.length_map]
  refine Cv.cnd.mk (fun c => ?_) (fun c => ?_)
  · have hl : b.sells = [] := List.eq_nil_of_length_eq_zero (by have : (b.sells.length : Int) = 0 := (by simpa using c); omega)
    have e : b.best b.sells = (⟨0,0,0⟩,false) := by rw [hl]; rfl
    rw [e]; (repeat' (first|exact rfl|exact trivial|assumption|apply And.intro|refine fun (_:Unit) (_:True)=>?_|refine Exists.intro () ?_|omega|(dsimp only;omega)))
  · obtain ⟨r,l,hl⟩ : ∃ r l,b.sells = r :: l := by
      cases hb : b.sells with
      | nil => rw [hb] at c; exact absurd c (by decide)
      | cons r l => exact ⟨r,l,rfl⟩
    have e : b.best b.sells = (b.told r,true) := by rw [hl]; rfl
    rw [e]
    refine ⟨⟨by omega,by rw [hl,List.length_cons]; omega⟩,r.price,r.queue,elA (x := r) (by rw [hl]; rfl) (by simp [zA]) rfl,⟨b,r⟩,?_⟩
    (repeat' (first|exact rfl|exact trivial|assumption|apply And.intro|refine fun (_:Unit) (_:True)=>?_|refine Exists.intro () ?_|omega|(dsimp only;omega)))
theorem zDl : bestC.ok Try.prog 52 := fun i => match i with
  | ⟨false,b⟩ => zSg b
  | ⟨true,b⟩ => zXa b
theorem tA {α : Type} (f : α → α) (x : α) (b : List α) : ∀ a : List α,(a ++ x :: b).modify a.length f = a ++ f x :: b
  | [] => rfl
  | y :: a => by
    show y :: (a ++ x :: b).modify a.length f = _
    rw [tA f x b a]; rfl
theorem zAo {els : List (List D)} {a b : List (List D)} {x y ds : List D} {j f : Nat} (h : els = a ++ x :: b) (hl : a.length = j) (hy : x.take f ++ (ds ++ x.drop (f + ds.length)) = y) : zK els j f ds = a ++ y :: b := by
  rw [zK,h,← hl,tA,hy]
theorem wC {s : MSt} {j : Nat} {x y : Top} {f : Nat} {ds : List D} (hj : j < s.books.length) (hy : (zR x).take f ++ (ds ++ (zR x).drop (f + ds.length)) = zR y) :
    zK (List.map zR (yK s j x)) j f ds = List.map zR (yK s j y) := by
  rw [zAo (a := (s.tops.take j).map zR) (b := (List.replicate (s.books.length - j - 1) top0).map zR) (by rw [yK,List.map_append,List.map_cons]) (by
    rw [List.length_map,List.length_take,MSt.tops,List.length_map]; omega) hy,yK,List.map_append,List.map_cons]
theorem zLa {s : MSt} {j : Nat} {x : Top} (hj : j < s.books.length) : (yK s j x).length = s.books.length := by
  rw [yK,List.length_append,List.length_cons,List.length_take,MSt.tops,List.length_map,List.length_replicate]; omega
theorem zIc {s : MSt} {j : Nat} (hj : j < s.books.length) : yK s j top0 = kC s j := by
  rw [yK,kC]
  obtain ⟨m,hm⟩ : ∃ m,s.books.length - j = m + 1 := ⟨s.books.length - j - 1,by omega⟩
  rw [hm,List.replicate_succ]; rfl
theorem zHq {s : MSt} {j : Nat} {b : Book} (hb : s.books[j]? = some b) : yK s j b.top = kC s (j + 1) := by
  have hj := (List.getElem?_eq_some_iff.1 hb).1
  rw [yK,kC,List.take_add_one,show s.tops[j]? = some b.top by rw [MSt.tops,List.getElem?_map,hb]; rfl]
  simp only [Option.toList_some,List.append_assoc,List.cons_append,List.nil_append]
  rw [show s.books.length - j - 1 = s.books.length - (j + 1) by omega]
theorem bK {α : Type} {l : List α} {j : Nat} {x : α} (h : l[j]? = some x) : l.set j x = l := by
  obtain ⟨hj,rfl⟩ := List.getElem?_eq_some_iff.1 h
  exact List.set_getElem_self hj
open Go Cv Go.Proofs
structure Leg where
  inst : Int
  side : Int
  deriving DecidableEq
structure Quote where
  price : Int
  qty : Int
  a : Leg
  b : Leg
  deriving DecidableEq
def zI (q : Quote) : List D := [.v (.int .i64 q.price),.v (.int .i64 q.qty),.v (.int .i64 q.a.inst),.v (.int .i64 q.a.side),.v (.int .i64 q.b.inst),.v (.int .i64 q.b.side)]
@[reducible] def zKj (q : Quote) : V := .agg [zF q.price,zF q.qty,zF q.a.inst,zF q.a.side,zF q.b.inst,zF q.b.side]
def z5r : Quote := ⟨0,0,⟨0,0⟩,⟨0,0⟩⟩
structure I3' where
  side : Int
  x : Int
  y : Int
def btr (side x y : Int) : Bool := if side = 1 then decide (y < x) else decide (x < y)
def iotherC : Con := con1 Int (fun n => [zF n]) (fun _ => []) (fun n => n = 1 ∨ n = 2) (fun n => zF (3 - n)) (fun _ => [])
def ibetterC : Con := con1 I3' (fun i => [zF i.side,zF i.x,zF i.y]) (fun _ => []) (fun _ => True) (fun i => yP (btr i.side i.x i.y)) (fun _ => [])
structure CrI where
  x : Int
  y : Int
  b : Bool
def Top.has (t : Top) (s : Int) : Bool := if s = 1 then t.has1 else t.has2
def Top.price (t : Top) (s : Int) : Int := if s = 1 then t.p1 else t.p2
def Top.qty (t : Top) (s : Int) : Int := if s = 1 then t.q1 else t.q2
def mkq (tops : List Top) (a b : Leg) (less : Bool) : List Quote :=
  let x := tops.getD a.inst.toNat top0
  let y := tops.getD b.inst.toNat top0
  let r := if less then kM (y.price b.side) (x.price a.side) else kP (x.price a.side) (y.price b.side)
  if x.has a.side && y.has b.side && r.2 then [⟨r.1,min (x.qty a.side) (y.qty b.side),a,b⟩] else []
structure MkI where
  tops : List Top
  out : List Quote
  a : Int
  b : Int
  less : Bool
@[reducible] def jA (l : List Top) : Prop := l.length ≤ 1000000∧∀ t ∈ l,yN t.p1∧yN t.p2
def MkU (x : List Top × List Quote) : Nat → AObj
  | 0 => .cells [.own 1,.own 2] 169
  | 1 => .fro 6 (x.1.map zR)
  | 2 => .own 77 6 (x.2.map zI)
  | _ => .gone
@[reducible] def MkR (tops : List Top) (out : List Quote) : List AObj := [MkU (tops,out) 0,MkU (tops,out) 1,MkU (tops,out) 2]
@[reducible] def MkP (tops : List Top) (out : List Quote) : List AObj := [.cells [.own 1,.own 3] 169,MkU (tops,out) 1,.gone,MkU (tops,out) 2]
def mkC (sa sb : Int) : Con := con1 MkI (fun i => [.nm 0 0,.agg [zF i.a,zF sa],.agg [zF i.b,zF sb],yP i.less]) (fun i => MkR i.tops i.out)
  (fun i => 0 ≤ i.a ∧ i.a < i.tops.length ∧ 0 ≤ i.b ∧ i.b < i.tops.length ∧ jA i.tops ∧ i.out.length ≤ 1000) (fun _ => zHk) (fun i => MkP i.tops (i.out ++ mkq i.tops ⟨i.a,sa⟩ ⟨i.b,sb⟩ i.less))
def mk11 : Con := mkC 1 1
def mk12 : Con := mkC 1 2
def mk21 : Con := mkC 2 1
def mk22 : Con := mkC 2 2
open Go Cv Go.Proofs
def zNw (n : Int) : Prop :=
  ∃ (o : Unit),3 - n = IntKind.i64.wrap (3 - n)∧True
theorem zUg (n : Int) : zNw n = walk Try.prog ([]) 0 ([]) ([]) [] Try.f86 (Try.f86.body.getD .skip) (iotherC.pat n) (iotherC.pre n) (iotherC.alts n) := by kernel_rfl
theorem zWy (hG : GOk Try.prog ([])) (h : ∀ (n : Int),iotherC.cnd n → zNw n) : iotherC.ok Try.prog 86 := zE mixed ([]) hG 0 (fun (n : Int) => []) (fun (n : Int) => []) [] Try.func86 (by kernel_rfl) (by kernel_rfl) (by kernel_rfl) (fun _ => by kernel_rfl) (fun (n : Int) hc => Eq.mp (zUg n) (h n hc))
def zIn (i : I3') : Prop :=
  cnd (i.side == 1) (∃ (o : Unit),btr i.side i.x i.y = decide (i.x > i.y)∧True) (∃ (o : Unit),btr i.side i.x i.y = decide (i.x < i.y)∧True)
theorem zPf (i : I3') : zIn i = walk Try.prog ([]) 0 ([]) ([]) [] Try.f71 (Try.f71.body.getD .skip) (ibetterC.pat i) (ibetterC.pre i) (ibetterC.alts i) := by kernel_rfl
theorem zPx (hG : GOk Try.prog ([])) (h : ∀ (i : I3'),ibetterC.cnd i → zIn i) : ibetterC.ok Try.prog 71 := zE mixed ([]) hG 0 (fun (i : I3') => []) (fun (i : I3') => []) [] Try.func71 (by kernel_rfl) (by kernel_rfl) (by kernel_rfl) (fun _ => by kernel_rfl) (fun (i : I3') hc => Eq.mp (zPf i) (h i hc))
@[reducible] def zEd (i : MkI) (b : Bool) (n : Int) (n_2 : Int) (n_4 : Int) (n_6 : Int) : Prop := ∃ (i_1 : I2),i_1.x = n∧i_1.y = n_4∧(((-9223372036854775808) ≤ i_1.x∧i_1.x ≤ 9223372036854775807)∧(-9223372036854775808) ≤ i_1.y∧i_1.y ≤ 9223372036854775807)∧∀ (o : Unit),True→cnd i.less (∃ (i_2 : I2),i_2.x = n_4∧i_2.y = n∧(((-9223372036854775808) ≤ i_2.x∧i_2.x ≤ 9223372036854775807)∧(-9223372036854775808) ≤ i_2.y∧i_2.y ≤ 9223372036854775807)∧∀ (o : Unit),True→cnd (kM i_2.x i_2.y).snd (True∧((List.map zI i.out).length + 1) * (48 : Nat) ≤ (70368744177664 : Nat)∧∃ (o : Unit),AObj.fro 6 (List.map zR i.tops) = MkU (i.tops,i.out) 1∧List.map zI (i.out ++ mkq i.tops (Leg.mk i.a 1) (Leg.mk i.b 1) i.less) = List.map zI i.out ++ [[D.v (.int .i64 (kM i_2.x i_2.y).fst),D.v (.int .i64 (min n_2 n_6)),D.v (.int .i64 i.a),D.v (.int .i64 1),D.v (.int .i64 i.b),D.v (.int .i64 1)]]∧True) (∃ (o : Unit),AObj.fro 6 (List.map zR i.tops) = MkU (i.tops,i.out) 1∧List.map zI (i.out ++ mkq i.tops (Leg.mk i.a 1) (Leg.mk i.b 1) i.less) = List.map zI i.out∧True)) (cnd (kP i_1.x i_1.y).snd (True∧((List.map zI i.out).length + 1) * (48 : Nat) ≤ (70368744177664 : Nat)∧∃ (o : Unit),AObj.fro 6 (List.map zR i.tops) = MkU (i.tops,i.out) 1∧List.map zI (i.out ++ mkq i.tops (Leg.mk i.a 1) (Leg.mk i.b 1) i.less) = List.map zI i.out ++ [[D.v (.int .i64 (kP i_1.x i_1.y).fst),D.v (.int .i64 (min n_2 n_6)),D.v (.int .i64 i.a),D.v (.int .i64 1),D.v (.int .i64 i.b),D.v (.int .i64 1)]]∧True) (∃ (o : Unit),AObj.fro 6 (List.map zR i.tops) = MkU (i.tops,i.out) 1∧List.map zI (i.out ++ mkq i.tops (Leg.mk i.a 1) (Leg.mk i.b 1) i.less) = List.map zI i.out∧True))
@[reducible] def bW (i : MkI) (b : Bool) : Prop := ∃ (o : Unit),AObj.fro 6 (List.map zR i.tops) = MkU (i.tops,i.out) 1∧List.map zI (i.out ++ mkq i.tops (Leg.mk i.a 1) (Leg.mk i.b 1) i.less) = List.map zI i.out∧True
def zMa (i : MkI) : Prop :=
  (0 ≤ i.a∧i.a < (↑(List.map zR i.tops).length : Int))∧∃ (b : Bool),∃ (b_1 : Bool),∃ (n : Int),∃ (n_1 : Int),∃ (n_2 : Int),∃ (n_3 : Int),zH (List.map zR i.tops) i.a.toNat 0 6 = some [D.v (.bool b),D.v (.bool b_1),D.v (.int .i64 n),D.v (.int .i64 n_1),D.v (.int .i64 n_2),D.v (.int .i64 n_3)]∧(0 ≤ i.b∧i.b < (↑(List.map zR i.tops).length : Int))∧∃ (b_2 : Bool),∃ (b_3 : Bool),∃ (n_4 : Int),∃ (n_5 : Int),∃ (n_6 : Int),∃ (n_7 : Int),zH (List.map zR i.tops) i.b.toNat 0 6 = some [D.v (.bool b_2),D.v (.bool b_3),D.v (.int .i64 n_4),D.v (.int .i64 n_5),D.v (.int .i64 n_6),D.v (.int .i64 n_7)]∧(True∧((0 ≤ i.b∧i.b < (↑(List.map zR i.tops).length : Int))∧i.b.toNat = i.b.toNat)∧i.b = i.b∧True∧True∧((0 ≤ i.a∧i.a < (↑(List.map zR i.tops).length : Int))∧i.a.toNat = i.a.toNat)∧i.a = i.a∧True∧True∧((0 ≤ i.b∧i.b < (↑(List.map zR i.tops).length : Int))∧i.b.toNat = i.b.toNat)∧i.b = i.b∧True∧True∧((0 ≤ i.a∧i.a < (↑(List.map zR i.tops).length : Int))∧i.a.toNat = i.a.toNat)∧i.a = i.a∧True∧True∧((0 ≤ i.b∧i.b < (↑(List.map zR i.tops).length : Int))∧i.b.toNat = i.b.toNat)∧i.b = i.b∧True∧cnd (!b) (bW i b) (cnd (!b_2) (bW i b) (zEd i b n n_2 n_4 n_6)))∧True∧((0 ≤ i.b∧i.b < (↑(List.map zR i.tops).length : Int))∧i.b.toNat = i.b.toNat)∧i.b = i.b∧True∧True∧((0 ≤ i.a∧i.a < (↑(List.map zR i.tops).length : Int))∧i.a.toNat = i.a.toNat)∧i.a = i.a∧True∧True∧((0 ≤ i.b∧i.b < (↑(List.map zR i.tops).length : Int))∧i.b.toNat = i.b.toNat)∧i.b = i.b∧True∧True∧((0 ≤ i.a∧i.a < (↑(List.map zR i.tops).length : Int))∧i.a.toNat = i.a.toNat)∧i.a = i.a∧True∧True∧((0 ≤ i.b∧i.b < (↑(List.map zR i.tops).length : Int))∧i.b.toNat = i.b.toNat)∧i.b = i.b∧True∧cnd (!b) (bW i b) (cnd (!b_2) (bW i b) (zEd i b n n_2 n_4 n_6))
theorem z5v (i : MkI) : zMa i = walk Try.prog ([(95,addC),(96,subC)]) 0 ([]) ([]) [] Try.f87 (Try.f87.body.getD .skip) (mk11.pat i) (mk11.pre i) (mk11.alts i) := by kernel_rfl
theorem z6p (hG : GOk Try.prog ([(95,addC),(96,subC)])) (h : ∀ (i : MkI),mk11.cnd i → zMa i) : mk11.ok Try.prog 87 := zE mixed ([(95,addC),(96,subC)]) hG 0 (fun (i : MkI) => []) (fun (i : MkI) => []) [] Try.func87 (by kernel_rfl) (by kernel_rfl) (by kernel_rfl) (fun _ => by kernel_rfl) (fun (i : MkI) hc => Eq.mp (z5v i) (h i hc))
@[reducible] def zDc (i : MkI) (b : Bool) (n : Int) (n_2 : Int) (n_5 : Int) (n_7 : Int) : Prop := ∃ (i_1 : I2),i_1.x = n∧i_1.y = n_5∧(((-9223372036854775808) ≤ i_1.x∧i_1.x ≤ 9223372036854775807)∧(-9223372036854775808) ≤ i_1.y∧i_1.y ≤ 9223372036854775807)∧∀ (o : Unit),True→cnd i.less (∃ (i_2 : I2),i_2.x = n_5∧i_2.y = n∧(((-9223372036854775808) ≤ i_2.x∧i_2.x ≤ 9223372036854775807)∧(-9223372036854775808) ≤ i_2.y∧i_2.y ≤ 9223372036854775807)∧∀ (o : Unit),True→cnd (kM i_2.x i_2.y).snd (True∧((List.map zI i.out).length + 1) * (48 : Nat) ≤ (70368744177664 : Nat)∧∃ (o : Unit),AObj.fro 6 (List.map zR i.tops) = MkU (i.tops,i.out) 1∧List.map zI (i.out ++ mkq i.tops (Leg.mk i.a 1) (Leg.mk i.b 2) i.less) = List.map zI i.out ++ [[D.v (.int .i64 (kM i_2.x i_2.y).fst),D.v (.int .i64 (min n_2 n_7)),D.v (.int .i64 i.a),D.v (.int .i64 1),D.v (.int .i64 i.b),D.v (.int .i64 2)]]∧True) (∃ (o : Unit),AObj.fro 6 (List.map zR i.tops) = MkU (i.tops,i.out) 1∧List.map zI (i.out ++ mkq i.tops (Leg.mk i.a 1) (Leg.mk i.b 2) i.less) = List.map zI i.out∧True)) (cnd (kP i_1.x i_1.y).snd (True∧((List.map zI i.out).length + 1) * (48 : Nat) ≤ (70368744177664 : Nat)∧∃ (o : Unit),AObj.fro 6 (List.map zR i.tops) = MkU (i.tops,i.out) 1∧List.map zI (i.out ++ mkq i.tops (Leg.mk i.a 1) (Leg.mk i.b 2) i.less) = List.map zI i.out ++ [[D.v (.int .i64 (kP i_1.x i_1.y).fst),D.v (.int .i64 (min n_2 n_7)),D.v (.int .i64 i.a),D.v (.int .i64 1),D.v (.int .i64 i.b),D.v (.int .i64 2)]]∧True) (∃ (o : Unit),AObj.fro 6 (List.map zR i.tops) = MkU (i.tops,i.out) 1∧List.map zI (i.out ++ mkq i.tops (Leg.mk i.a 1) (Leg.mk i.b 2) i.less) = List.map zI i.out∧True))
@[reducible] def aE (i : MkI) (b : Bool) : Prop := ∃ (o : Unit),AObj.fro 6 (List.map zR i.tops) = MkU (i.tops,i.out) 1∧List.map zI (i.out ++ mkq i.tops (Leg.mk i.a 1) (Leg.mk i.b 2) i.less) = List.map zI i.out∧True
def zNs (i : MkI) : Prop :=
  (0 ≤ i.a∧i.a < (↑(List.map zR i.tops).length : Int))∧∃ (b : Bool),∃ (b_1 : Bool),∃ (n : Int),∃ (n_1 : Int),∃ (n_2 : Int),∃ (n_3 : Int),zH (List.map zR i.tops) i.a.toNat 0 6 = some [D.v (.bool b),D.v (.bool b_1),D.v (.int .i64 n),D.v (.int .i64 n_1),D.v (.int .i64 n_2),D.v (.int .i64 n_3)]∧(0 ≤ i.b∧i.b < (↑(List.map zR i.tops).length : Int))∧∃ (b_2 : Bool),∃ (b_3 : Bool),∃ (n_4 : Int),∃ (n_5 : Int),∃ (n_6 : Int),∃ (n_7 : Int),zH (List.map zR i.tops) i.b.toNat 0 6 = some [D.v (.bool b_2),D.v (.bool b_3),D.v (.int .i64 n_4),D.v (.int .i64 n_5),D.v (.int .i64 n_6),D.v (.int .i64 n_7)]∧(True∧((0 ≤ i.b∧i.b < (↑(List.map zR i.tops).length : Int))∧i.b.toNat = i.b.toNat)∧i.b = i.b∧True∧True∧((0 ≤ i.a∧i.a < (↑(List.map zR i.tops).length : Int))∧i.a.toNat = i.a.toNat)∧i.a = i.a∧True∧True∧((0 ≤ i.b∧i.b < (↑(List.map zR i.tops).length : Int))∧i.b.toNat = i.b.toNat)∧i.b = i.b∧True∧True∧((0 ≤ i.a∧i.a < (↑(List.map zR i.tops).length : Int))∧i.a.toNat = i.a.toNat)∧i.a = i.a∧True∧True∧((0 ≤ i.b∧i.b < (↑(List.map zR i.tops).length : Int))∧i.b.toNat = i.b.toNat)∧i.b = i.b∧True∧cnd (!b) (aE i b) (cnd (!b_3) (aE i b) (zDc i b n n_2 n_5 n_7)))∧True∧((0 ≤ i.b∧i.b < (↑(List.map zR i.tops).length : Int))∧i.b.toNat = i.b.toNat)∧i.b = i.b∧True∧True∧((0 ≤ i.a∧i.a < (↑(List.map zR i.tops).length : Int))∧i.a.toNat = i.a.toNat)∧i.a = i.a∧True∧True∧((0 ≤ i.b∧i.b < (↑(List.map zR i.tops).length : Int))∧i.b.toNat = i.b.toNat)∧i.b = i.b∧True∧True∧((0 ≤ i.a∧i.a < (↑(List.map zR i.tops).length : Int))∧i.a.toNat = i.a.toNat)∧i.a = i.a∧True∧True∧((0 ≤ i.b∧i.b < (↑(List.map zR i.tops).length : Int))∧i.b.toNat = i.b.toNat)∧i.b = i.b∧True∧cnd (!b) (aE i b) (cnd (!b_3) (aE i b) (zDc i b n n_2 n_5 n_7))
theorem z6v (i : MkI) : zNs i = walk Try.prog ([(95,addC),(96,subC)]) 0 ([]) ([]) [] Try.f87 (Try.f87.body.getD .skip) (mk12.pat i) (mk12.pre i) (mk12.alts i) := by kernel_rfl
theorem z5z (hG : GOk Try.prog ([(95,addC),(96,subC)])) (h : ∀ (i : MkI),mk12.cnd i → zNs i) : mk12.ok Try.prog 87 := zE mixed ([(95,addC),(96,subC)]) hG 0 (fun (i : MkI) => []) (fun (i : MkI) => []) [] Try.func87 (by kernel_rfl) (by kernel_rfl) (by kernel_rfl) (fun _ => by kernel_rfl) (fun (i : MkI) hc => Eq.mp (z6v i) (h i hc))
@[reducible] def zDu (i : MkI) (b : Bool) (n : Int) (n_1 : Int) (n_3 : Int) (n_5 : Int) : Prop := ∃ (i_1 : I2),i_1.x = n_1∧i_1.y = n∧(((-9223372036854775808) ≤ i_1.x∧i_1.x ≤ 9223372036854775807)∧(-9223372036854775808) ≤ i_1.y∧i_1.y ≤ 9223372036854775807)∧∀ (o : Unit),True→cnd i.less (∃ (i_2 : I2),i_2.x = n∧i_2.y = n_1∧(((-9223372036854775808) ≤ i_2.x∧i_2.x ≤ 9223372036854775807)∧(-9223372036854775808) ≤ i_2.y∧i_2.y ≤ 9223372036854775807)∧∀ (o : Unit),True→cnd (kM i_2.x i_2.y).snd (True∧((List.map zI i.out).length + 1) * (48 : Nat) ≤ (70368744177664 : Nat)∧∃ (o : Unit),AObj.fro 6 (List.map zR i.tops) = MkU (i.tops,i.out) 1∧List.map zI (i.out ++ mkq i.tops (Leg.mk i.a 2) (Leg.mk i.b 1) i.less) = List.map zI i.out ++ [[D.v (.int .i64 (kM i_2.x i_2.y).fst),D.v (.int .i64 (min n_3 n_5)),D.v (.int .i64 i.a),D.v (.int .i64 2),D.v (.int .i64 i.b),D.v (.int .i64 1)]]∧True) (∃ (o : Unit),AObj.fro 6 (List.map zR i.tops) = MkU (i.tops,i.out) 1∧List.map zI (i.out ++ mkq i.tops (Leg.mk i.a 2) (Leg.mk i.b 1) i.less) = List.map zI i.out∧True)) (cnd (kP i_1.x i_1.y).snd (True∧((List.map zI i.out).length + 1) * (48 : Nat) ≤ (70368744177664 : Nat)∧∃ (o : Unit),AObj.fro 6 (List.map zR i.tops) = MkU (i.tops,i.out) 1∧List.map zI (i.out ++ mkq i.tops (Leg.mk i.a 2) (Leg.mk i.b 1) i.less) = List.map zI i.out ++ [[D.v (.int .i64 (kP i_1.x i_1.y).fst),D.v (.int .i64 (min n_3 n_5)),D.v (.int .i64 i.a),D.v (.int .i64 2),D.v (.int .i64 i.b),D.v (.int .i64 1)]]∧True) (∃ (o : Unit),AObj.fro 6 (List.map zR i.tops) = MkU (i.tops,i.out) 1∧List.map zI (i.out ++ mkq i.tops (Leg.mk i.a 2) (Leg.mk i.b 1) i.less) = List.map zI i.out∧True))
@[reducible] def aW (i : MkI) (b : Bool) : Prop := ∃ (o : Unit),AObj.fro 6 (List.map zR i.tops) = MkU (i.tops,i.out) 1∧List.map zI (i.out ++ mkq i.tops (Leg.mk i.a 2) (Leg.mk i.b 1) i.less) = List.map zI i.out∧True
def zLn (i : MkI) : Prop :=
  (0 ≤ i.a∧i.a < (↑(List.map zR i.tops).length : Int))∧∃ (b : Bool),∃ (b_1 : Bool),∃ (n : Int),∃ (n_1 : Int),∃ (n_2 : Int),∃ (n_3 : Int),zH (List.map zR i.tops) i.a.toNat 0 6 = some [D.v (.bool b),D.v (.bool b_1),D.v (.int .i64 n),D.v (.int .i64 n_1),D.v (.int .i64 n_2),D.v (.int .i64 n_3)]∧(0 ≤ i.b∧i.b < (↑(List.map zR i.tops).length : Int))∧∃ (b : Bool),∃ (b_2 : Bool),∃ (n : Int),∃ (n_4 : Int),∃ (n_5 : Int),∃ (n_6 : Int),zH (List.map zR i.tops) i.b.toNat 0 6 = some [D.v (.bool b),D.v (.bool b_2),D.v (.int .i64 n),D.v (.int .i64 n_4),D.v (.int .i64 n_5),D.v (.int .i64 n_6)]∧(True∧((0 ≤ i.b∧i.b < (↑(List.map zR i.tops).length : Int))∧i.b.toNat = i.b.toNat)∧i.b = i.b∧True∧True∧((0 ≤ i.a∧i.a < (↑(List.map zR i.tops).length : Int))∧i.a.toNat = i.a.toNat)∧i.a = i.a∧True∧True∧((0 ≤ i.b∧i.b < (↑(List.map zR i.tops).length : Int))∧i.b.toNat = i.b.toNat)∧i.b = i.b∧True∧True∧((0 ≤ i.a∧i.a < (↑(List.map zR i.tops).length : Int))∧i.a.toNat = i.a.toNat)∧i.a = i.a∧True∧True∧((0 ≤ i.b∧i.b < (↑(List.map zR i.tops).length : Int))∧i.b.toNat = i.b.toNat)∧i.b = i.b∧True∧cnd (!b_1) (aW i b) (cnd (!b) (aW i b) (zDu i b n n_1 n_3 n_5)))∧True∧((0 ≤ i.b∧i.b < (↑(List.map zR i.tops).length : Int))∧i.b.toNat = i.b.toNat)∧i.b = i.b∧True∧True∧((0 ≤ i.a∧i.a < (↑(List.map zR i.tops).length : Int))∧i.a.toNat = i.a.toNat)∧i.a = i.a∧True∧True∧((0 ≤ i.b∧i.b < (↑(List.map zR i.tops).length : Int))∧i.b.toNat = i.b.toNat)∧i.b = i.b∧True∧True∧((0 ≤ i.a∧i.a < (↑(List.map zR i.tops).length : Int))∧i.a.toNat = i.a.toNat)∧i.a = i.a∧True∧True∧((0 ≤ i.b∧i.b < (↑(List.map zR i.tops).length : Int))∧i.b.toNat = i.b.toNat)∧i.b = i.b∧True∧cnd (!b_1) (aW i b) (cnd (!b) (aW i b) (zDu i b n n_1 n_3 n_5))
theorem z8y (i : MkI) : zLn i = walk Try.prog ([(95,addC),(96,subC)]) 0 ([]) ([]) [] Try.f87 (Try.f87.body.getD .skip) (mk21.pat i) (mk21.pre i) (mk21.alts i) := by kernel_rfl
theorem z7i (hG : GOk Try.prog ([(95,addC),(96,subC)])) (h : ∀ (i : MkI),mk21.cnd i → zLn i) : mk21.ok Try.prog 87 := zE mixed ([(95,addC),(96,subC)]) hG 0 (fun (i : MkI) => []) (fun (i : MkI) => []) [] Try.func87 (by kernel_rfl) (by kernel_rfl) (by kernel_rfl) (fun _ => by kernel_rfl) (fun (i : MkI) hc => Eq.mp (z8y i) (h i hc))
@[reducible] def zCy (i : MkI) (b : Bool) (n_1 : Int) (n_3 : Int) (n_4 : Int) (n_6 : Int) : Prop := ∃ (i_1 : I2),i_1.x = n_1∧i_1.y = n_4∧(((-9223372036854775808) ≤ i_1.x∧i_1.x ≤ 9223372036854775807)∧(-9223372036854775808) ≤ i_1.y∧i_1.y ≤ 9223372036854775807)∧∀ (o : Unit),True→cnd i.less (∃ (i_2 : I2),i_2.x = n_4∧i_2.y = n_1∧(((-9223372036854775808) ≤ i_2.x∧i_2.x ≤ 9223372036854775807)∧(-9223372036854775808) ≤ i_2.y∧i_2.y ≤ 9223372036854775807)∧∀ (o : Unit),True→cnd (kM i_2.x i_2.y).snd (True∧((List.map zI i.out).length + 1) * (48 : Nat) ≤ (70368744177664 : Nat)∧∃ (o : Unit),AObj.fro 6 (List.map zR i.tops) = MkU (i.tops,i.out) 1∧List.map zI (i.out ++ mkq i.tops (Leg.mk i.a 2) (Leg.mk i.b 2) i.less) = List.map zI i.out ++ [[D.v (.int .i64 (kM i_2.x i_2.y).fst),D.v (.int .i64 (min n_3 n_6)),D.v (.int .i64 i.a),D.v (.int .i64 2),D.v (.int .i64 i.b),D.v (.int .i64 2)]]∧True) (∃ (o : Unit),AObj.fro 6 (List.map zR i.tops) = MkU (i.tops,i.out) 1∧List.map zI (i.out ++ mkq i.tops (Leg.mk i.a 2) (Leg.mk i.b 2) i.less) = List.map zI i.out∧True)) (cnd (kP i_1.x i_1.y).snd (True∧((List.map zI i.out).length + 1) * (48 : Nat) ≤ (70368744177664 : Nat)∧∃ (o : Unit),AObj.fro 6 (List.map zR i.tops) = MkU (i.tops,i.out) 1∧List.map zI (i.out ++ mkq i.tops (Leg.mk i.a 2) (Leg.mk i.b 2) i.less) = List.map zI i.out ++ [[D.v (.int .i64 (kP i_1.x i_1.y).fst),D.v (.int .i64 (min n_3 n_6)),D.v (.int .i64 i.a),D.v (.int .i64 2),D.v (.int .i64 i.b),D.v (.int .i64 2)]]∧True) (∃ (o : Unit),AObj.fro 6 (List.map zR i.tops) = MkU (i.tops,i.out) 1∧List.map zI (i.out ++ mkq i.tops (Leg.mk i.a 2) (Leg.mk i.b 2) i.less) = List.map zI i.out∧True))
@[reducible] def bU (i : MkI) (b : Bool) : Prop := ∃ (o : Unit),AObj.fro 6 (List.map zR i.tops) = MkU (i.tops,i.out) 1∧List.map zI (i.out ++ mkq i.tops (Leg.mk i.a 2) (Leg.mk i.b 2) i.less) = List.map zI i.out∧True
def zOw (i : MkI) : Prop :=
  (0 ≤ i.a∧i.a < (↑(List.map zR i.tops).length : Int))∧∃ (b : Bool),∃ (b_1 : Bool),∃ (n : Int),∃ (n_1 : Int),∃ (n_2 : Int),∃ (n_3 : Int),zH (List.map zR i.tops) i.a.toNat 0 6 = some [D.v (.bool b),D.v (.bool b_1),D.v (.int .i64 n),D.v (.int .i64 n_1),D.v (.int .i64 n_2),D.v (.int .i64 n_3)]∧(0 ≤ i.b∧i.b < (↑(List.map zR i.tops).length : Int))∧∃ (b : Bool),∃ (b_2 : Bool),∃ (n : Int),∃ (n_4 : Int),∃ (n_5 : Int),∃ (n_6 : Int),zH (List.map zR i.tops) i.b.toNat 0 6 = some [D.v (.bool b),D.v (.bool b_2),D.v (.int .i64 n),D.v (.int .i64 n_4),D.v (.int .i64 n_5),D.v (.int .i64 n_6)]∧(True∧((0 ≤ i.b∧i.b < (↑(List.map zR i.tops).length : Int))∧i.b.toNat = i.b.toNat)∧i.b = i.b∧True∧True∧((0 ≤ i.a∧i.a < (↑(List.map zR i.tops).length : Int))∧i.a.toNat = i.a.toNat)∧i.a = i.a∧True∧True∧((0 ≤ i.b∧i.b < (↑(List.map zR i.tops).length : Int))∧i.b.toNat = i.b.toNat)∧i.b = i.b∧True∧True∧((0 ≤ i.a∧i.a < (↑(List.map zR i.tops).length : Int))∧i.a.toNat = i.a.toNat)∧i.a = i.a∧True∧True∧((0 ≤ i.b∧i.b < (↑(List.map zR i.tops).length : Int))∧i.b.toNat = i.b.toNat)∧i.b = i.b∧True∧cnd (!b_1) (bU i b) (cnd (!b_2) (bU i b) (zCy i b n_1 n_3 n_4 n_6)))∧True∧((0 ≤ i.b∧i.b < (↑(List.map zR i.tops).length : Int))∧i.b.toNat = i.b.toNat)∧i.b = i.b∧True∧True∧((0 ≤ i.a∧i.a < (↑(List.map zR i.tops).length : Int))∧i.a.toNat = i.a.toNat)∧i.a = i.a∧True∧True∧((0 ≤ i.b∧i.b < (↑(List.map zR i.tops).length : Int))∧i.b.toNat = i.b.toNat)∧i.b = i.b∧True∧True∧((0 ≤ i.a∧i.a < (↑(List.map zR i.tops).length : Int))∧i.a.toNat = i.a.toNat)∧i.a = i.a∧True∧True∧((0 ≤ i.b∧i.b < (↑(List.map zR i.tops).length : Int))∧i.b.toNat = i.b.toNat)∧i.b = i.b∧True∧cnd (!b_1) (bU i b) (cnd (!b_2) (bU i b) (zCy i b n_1 n_3 n_4 n_6))
theorem z7h (i : MkI) : zOw i = walk Try.prog ([(95,addC),(96,subC)]) 0 ([]) ([]) [] Try.f87 (Try.f87.body.getD .skip) (mk22.pat i) (mk22.pre i) (mk22.alts i) := by kernel_rfl
theorem z8q (hG : GOk Try.prog ([(95,addC),(96,subC)])) (h : ∀ (i : MkI),mk22.cnd i → zOw i) : mk22.ok Try.prog 87 := zE mixed ([(95,addC),(96,subC)]) hG 0 (fun (i : MkI) => []) (fun (i : MkI) => []) [] Try.func87 (by kernel_rfl) (by kernel_rfl) (by kernel_rfl) (fun _ => by kernel_rfl) (fun (i : MkI) hc => Eq.mp (z7h i) (h i hc))
open Go Cv Go.Proofs
theorem zBi : iotherC.ok Try.prog 86 := zWy gok0 fun n h => by
  have h : n = 1 ∨ n = 2 := h
  refine ⟨(),?_,trivial⟩
  rw [w64 (by omega)]
theorem zLc : ibetterC.ok Try.prog 71 := zPx gok0 fun i _ => by
  refine Cv.cnd.mk (fun e => ⟨(),?_,trivial⟩) (fun e => ⟨(),?_,trivial⟩)
  · have e : i.side = 1 := by simpa using e
    simp [btr,e]
  · have e : i.side ≠ 1 := by simpa using e
    simp [btr,e]
theorem z4c (a b : Int) : (if b < a then b else a) = min a b := by split <;> omega
theorem yCk (i : MkI) (h : mk11.cnd i) : zMa i := by
  obtain ⟨a0,a1,b0,b1,⟨ht,hp⟩,ho⟩ : 0 ≤ i.a ∧ i.a < i.tops.length ∧ 0 ≤ i.b ∧ i.b < i.tops.length ∧ jA i.tops ∧ i.out.length ≤ 1000 := h
  obtain ⟨x,hx⟩ := yC (l := i.tops) (i := i.a.toNat) (by omega)
  obtain ⟨y,hy⟩ := yC (l := i.tops) (i := i.b.toNat) (by omega)
  obtain ⟨⟨px1,px2⟩,px3,px4⟩ := hp x (List.mem_of_getElem? hx)
  obtain ⟨⟨py1,py2⟩,py3,py4⟩ := hp y (List.mem_of_getElem? hy)
  have e0 : mkq i.tops ⟨i.a,1⟩ ⟨i.b,1⟩ i.less = if x.has1 && y.has1 && (if i.less then kM y.p1 x.p1 else kP x.p1 y.p1).2 then [⟨(if i.less then kM y.p1 x.p1 else kP x.p1 y.p1).1,min x.q1 y.q1,⟨i.a,1⟩,⟨i.b,1⟩⟩] else [] := by
    simp only [mkq,List.getD_eq_getElem?_getD,hx,hy,Option.getD_some]; rfl
  unfold zMa zEd bW
  simp only [List.length_map]
  refine ⟨⟨by omega,by omega⟩,x.has1,x.has2,x.p1,x.p2,x.q1,x.q2,elA hx (by simp [zR]) rfl,⟨by omega,by omega⟩,y.has1,y.has2,y.p1,y.p2,y.q1,y.q2,elA hy (by simp [zR]) rfl,?_⟩
  rw [e0]
  (repeat' (first|exact rfl|exact trivial|assumption|apply And.intro|refine fun (_:Unit) (_:True)=>?_|refine Exists.intro () ?_|omega|(dsimp only;omega)))
  all_goals
    refine Cv.cnd.mk (fun c1 => ?_) (fun c1 => Cv.cnd.mk (fun c2 => ?_) (fun c2 => ?_))
    · have c1 : x.has1 = false := by simpa using c1
      simp only [c1,Bool.false_and,Bool.false_eq_true,if_false,List.append_nil]; (repeat' (first|exact rfl|exact trivial|assumption|apply And.intro|refine fun (_:Unit) (_:True)=>?_|refine Exists.intro () ?_|omega|(dsimp only;omega)))
    · have c2 : y.has1 = false := by simpa using c2
      simp only [c2,Bool.and_false,Bool.false_and,Bool.false_eq_true,if_false,List.append_nil]; (repeat' (first|exact rfl|exact trivial|assumption|apply And.intro|refine fun (_:Unit) (_:True)=>?_|refine Exists.intro () ?_|omega|(dsimp only;omega)))
    · have c1 : x.has1 = true := by simpa using c1
      have c2 : y.has1 = true := by simpa using c2
      simp only [c1,c2,Bool.true_and,z4c]
      refine ⟨⟨x.p1,y.p1⟩,?_⟩
      (repeat' (first|exact rfl|exact trivial|assumption|apply And.intro|refine fun (_:Unit) (_:True)=>?_|refine Exists.intro () ?_|omega|(dsimp only;omega)))
      refine Cv.cnd.mk (fun c3 => ?_) (fun c3 => ?_)
      · have c3 : i.less = true := c3
        simp only [c3,if_true]
        refine ⟨⟨y.p1,x.p1⟩,?_⟩
        (repeat' (first|exact rfl|exact trivial|assumption|apply And.intro|refine fun (_:Unit) (_:True)=>?_|refine Exists.intro () ?_|omega|(dsimp only;omega)))
        refine Cv.cnd.mk (fun c4 => ?_) (fun c4 => ?_)
        · have c4 : (kM y.p1 x.p1).2 = true := c4
          simp only [c4,if_true,List.map_append]; (repeat' (first|exact rfl|exact trivial|assumption|apply And.intro|refine fun (_:Unit) (_:True)=>?_|refine Exists.intro () ?_|omega|(dsimp only;omega)))
        · have c4 : (kM y.p1 x.p1).2 = false := c4
          simp only [c4,Bool.false_eq_true,if_false,List.append_nil]; (repeat' (first|exact rfl|exact trivial|assumption|apply And.intro|refine fun (_:Unit) (_:True)=>?_|refine Exists.intro () ?_|omega|(dsimp only;omega)))
      · have c3 : i.less = false := c3
        simp only [c3,Bool.false_eq_true,if_false]
        refine Cv.cnd.mk (fun c4 => ?_) (fun c4 => ?_)
        · have c4 : (kP x.p1 y.p1).2 = true := c4
          simp only [c4,if_true,List.map_append]; (repeat' (first|exact rfl|exact trivial|assumption|apply And.intro|refine fun (_:Unit) (_:True)=>?_|refine Exists.intro () ?_|omega|(dsimp only;omega)))
        · have c4 : (kP x.p1 y.p1).2 = false := c4
          simp only [c4,Bool.false_eq_true,if_false,List.append_nil]; (repeat' (first|exact rfl|exact trivial|assumption|apply And.intro|refine fun (_:Unit) (_:True)=>?_|refine Exists.intro () ?_|omega|(dsimp only;omega)))
theorem zZm : mk11.ok Try.prog 87 := z6p (gokc zEy (gokc zCx gok0)) yCk
theorem yBz (i : MkI) (h : mk12.cnd i) : zNs i := by
  obtain ⟨a0,a1,b0,b1,⟨ht,hp⟩,ho⟩ : 0 ≤ i.a ∧ i.a < i.tops.length ∧ 0 ≤ i.b ∧ i.b < i.tops.length ∧ jA i.tops ∧ i.out.length ≤ 1000 := h
  obtain ⟨x,hx⟩ := yC (l := i.tops) (i := i.a.toNat) (by omega)
  obtain ⟨y,hy⟩ := yC (l := i.tops) (i := i.b.toNat) (by omega)
  obtain ⟨⟨px1,px2⟩,px3,px4⟩ := hp x (List.mem_of_getElem? hx)
  obtain ⟨⟨py1,py2⟩,py3,py4⟩ := hp y (List.mem_of_getElem? hy)
  have e0 : mkq i.tops ⟨i.a,1⟩ ⟨i.b,2⟩ i.less = if x.has1 && y.has2 && (if i.less then kM y.p2 x.p1 else kP x.p1 y.p2).2 then [⟨(if i.less then kM y.p2 x.p1 else kP x.p1 y.p2).1,min x.q1 y.q2,⟨i.a,1⟩,⟨i.b,2⟩⟩] else [] := by
    simp only [mkq,List.getD_eq_getElem?_getD,hx,hy,Option.getD_some]; rfl
  unfold zNs zDc aE
  simp only [List.length_map]
  refine ⟨⟨by omega,by omega⟩,x.has1,x.has2,x.p1,x.p2,x.q1,x.q2,elA hx (by simp [zR]) rfl,⟨by omega,by omega⟩,y.has1,y.has2,y.p1,y.p2,y.q1,y.q2,elA hy (by simp [zR]) rfl,?_⟩
  rw [e0]
  (repeat' (first|exact rfl|exact trivial|assumption|apply And.intro|refine fun (_:Unit) (_:True)=>?_|refine Exists.intro () ?_|omega|(dsimp only;omega)))
  all_goals
    refine Cv.cnd.mk (fun c1 => ?_) (fun c1 => Cv.cnd.mk (fun c2 => ?_) (fun c2 => ?_))
    · have c1 : x.has1 = false := by simpa using c1
      simp only [c1,Bool.false_and,Bool.false_eq_true,if_false,List.append_nil]; (repeat' (first|exact rfl|exact trivial|assumption|apply And.intro|refine fun (_:Unit) (_:True)=>?_|refine Exists.intro () ?_|omega|(dsimp only;omega)))
    · have c2 : y.has2 = false := by simpa using c2
      simp only [c2,Bool.and_false,Bool.false_and,Bool.false_eq_true,if_false,List.append_nil]; (repeat' (first|exact rfl|exact trivial|assumption|apply And.intro|refine fun (_:Unit) (_:True)=>?_|refine Exists.intro () ?_|omega|(dsimp only;omega)))
    · have c1 : x.has1 = true := by simpa using c1
      have c2 : y.has2 = true := by simpa using c2
      simp only [c1,c2,Bool.true_and,z4c]
      refine ⟨⟨x.p1,y.p2⟩,?_⟩
      (repeat' (first|exact rfl|exact trivial|assumption|apply And.intro|refine fun (_:Unit) (_:True)=>?_|refine Exists.intro () ?_|omega|(dsimp only;omega)))
      refine Cv.cnd.mk (fun c3 => ?_) (fun c3 => ?_)
      · have c3 : i.less = true := c3
        simp only [c3,if_true]
        refine ⟨⟨y.p2,x.p1⟩,?_⟩
        (repeat' (first|exact rfl|exact trivial|assumption|apply And.intro|refine fun (_:Unit) (_:True)=>?_|refine Exists.intro () ?_|omega|(dsimp only;omega)))
        refine Cv.cnd.mk (fun c4 => ?_) (fun c4 => ?_)
        · have c4 : (kM y.p2 x.p1).2 = true := c4
          simp only [c4,if_true,List.map_append]; (repeat' (first|exact rfl|exact trivial|assumption|apply And.intro|refine fun (_:Unit) (_:True)=>?_|refine Exists.intro () ?_|omega|(dsimp only;omega)))
        · have c4 : (kM y.p2 x.p1).2 = false := c4
          simp only [c4,Bool.false_eq_true,if_false,List.append_nil]; (repeat' (first|exact rfl|exact trivial|assumption|apply And.intro|refine fun (_:Unit) (_:True)=>?_|refine Exists.intro () ?_|omega|(dsimp only;omega)))
      · have c3 : i.less = false := c3
        simp only [c3,Bool.false_eq_true,if_false]
        refine Cv.cnd.mk (fun c4 => ?_) (fun c4 => ?_)
        · have c4 : (kP x.p1 y.p2).2 = true := c4
          simp only [c4,if_true,List.map_append]; (repeat' (first|exact rfl|exact trivial|assumption|apply And.intro|refine fun (_:Unit) (_:True)=>?_|refine Exists.intro () ?_|omega|(dsimp only;omega)))
        · have c4 : (kP x.p1 y.p2).2 = false := c4
          simp only [c4,Bool.false_eq_true,if_false,List.append_nil]; (repeat' (first|exact rfl|exact trivial|assumption|apply And.intro|refine fun (_:Unit) (_:True)=>?_|refine Exists.intro () ?_|omega|(dsimp only;omega)))
theorem z1g : mk12.ok Try.prog 87 := z5z (gokc zEy (gokc zCx gok0)) yBz
theorem yCx (i : MkI) (h : mk21.cnd i) : zLn i := by
  obtain ⟨a0,a1,b0,b1,⟨ht,hp⟩,ho⟩ : 0 ≤ i.a ∧ i.a < i.tops.length ∧ 0 ≤ i.b ∧ i.b < i.tops.length ∧ jA i.tops ∧ i.out.length ≤ 1000 := h
  obtain ⟨x,hx⟩ := yC (l := i.tops) (i := i.a.toNat) (by omega)
  obtain ⟨y,hy⟩ := yC (l := i.tops) (i := i.b.toNat) (by omega)
  obtain ⟨⟨px1,px2⟩,px3,px4⟩ := hp x (List.mem_of_getElem? hx)
  obtain ⟨⟨py1,py2⟩,py3,py4⟩ := hp y (List.mem_of_getElem? hy)
  have e0 : mkq i.tops ⟨i.a,2⟩ ⟨i.b,1⟩ i.less = if x.has2 && y.has1 && (if i.less then kM y.p1 x.p2 else kP x.p2 y.p1).2 then [⟨(if i.less then kM y.p1 x.p2 else kP x.p2 y.p1).1,min x.q2 y.q1,⟨i.a,2⟩,⟨i.b,1⟩⟩] else [] := by
    simp only [mkq,List.getD_eq_getElem?_getD,hx,hy,Option.getD_some]; rfl
  unfold zLn zDu aW
  simp only [List.length_map]
  refine ⟨⟨by omega,by omega⟩,x.has1,x.has2,x.p1,x.p2,x.q1,x.q2,elA hx (by simp [zR]) rfl,⟨by omega,by omega⟩,y.has1,y.has2,y.p1,y.p2,y.q1,y.q2,elA hy (by simp [zR]) rfl,?_⟩
  rw [e0]
  (repeat' (first|exact rfl|exact trivial|assumption|apply And.intro|refine fun (_:Unit) (_:True)=>?_|refine Exists.intro () ?_|omega|(dsimp only;omega)))
  all_goals
    refine Cv.cnd.mk (fun c1 => ?_) (fun c1 => Cv.cnd.mk (fun c2 => ?_) (fun c2 => ?_))
    · have c1 : x.has2 = false := by simpa using c1
      simp only [c1,Bool.false_and,Bool.false_eq_true,if_false,List.append_nil]; (repeat' (first|exact rfl|exact trivial|assumption|apply And.intro|refine fun (_:Unit) (_:True)=>?_|refine Exists.intro () ?_|omega|(dsimp only;omega)))
    · have c2 : y.has1 = false := by simpa using c2
      simp only [c2,Bool.and_false,Bool.false_and,Bool.false_eq_true,if_false,List.append_nil]; (repeat' (first|exact rfl|exact trivial|assumption|apply And.intro|refine fun (_:Unit) (_:True)=>?_|refine Exists.intro () ?_|omega|(dsimp only;omega)))
    · have c1 : x.has2 = true := by simpa using c1
      have c2 : y.has1 = true := by simpa using c2
      simp only [c1,c2,Bool.true_and,z4c]
      refine ⟨⟨x.p2,y.p1⟩,?_⟩
      (repeat' (first|exact rfl|exact trivial|assumption|apply And.intro|refine fun (_:Unit) (_:True)=>?_|refine Exists.intro () ?_|omega|(dsimp only;omega)))
      refine Cv.cnd.mk (fun c3 => ?_) (fun c3 => ?_)
      · have c3 : i.less = true := c3
        simp only [c3,if_true]
        refine ⟨⟨y.p1,x.p2⟩,?_⟩
        (repeat' (first|exact rfl|exact trivial|assumption|apply And.intro|refine fun (_:Unit) (_:True)=>?_|refine Exists.intro () ?_|omega|(dsimp only;omega)))
        refine Cv.cnd.mk (fun c4 => ?_) (fun c4 => ?_)
        · have c4 : (kM y.p1 x.p2).2 = true := c4
          simp only [c4,if_true,List.map_append]; (repeat' (first|exact rfl|exact trivial|assumption|apply And.intro|refine fun (_:Unit) (_:True)=>?_|refine Exists.intro () ?_|omega|(dsimp only;omega)))
        · have c4 : (kM y.p1 x.p2).2 = false := c4
          simp only [c4,Bool.false_eq_true,if_false,List.append_nil]; (repeat' (first|exact rfl|exact trivial|assumption|apply And.intro|refine fun (_:Unit) (_:True)=>?_|refine Exists.intro () ?_|omega|(dsimp only;omega)))
      · have c3 : i.less = false := c3
        simp only [c3,Bool.false_eq_true,if_false]
        refine Cv.cnd.mk (fun c4 => ?_) (fun c4 => ?_)
        · have c4 : (kP x.p2 y.p1).2 = true := c4
          simp only [c4,if_true,List.map_append]; (repeat' (first|exact rfl|exact trivial|assumption|apply And.intro|refine fun (_:Unit) (_:True)=>?_|refine Exists.intro () ?_|omega|(dsimp only;omega)))
        · have c4 : (kP x.p2 y.p1).2 = false := c4
          simp only [c4,Bool.false_eq_true,if_false,List.append_nil]; (repeat' (first|exact rfl|exact trivial|assumption|apply And.intro|refine fun (_:Unit) (_:True)=>?_|refine Exists.intro () ?_|omega|(dsimp only;omega)))
theorem z2g : mk21.ok Try.prog 87 := z7i (gokc zEy (gokc zCx gok0)) yCx
theorem yAs (i : MkI) (h : mk22.cnd i) : zOw i := by
  obtain ⟨a0,a1,b0,b1,⟨ht,hp⟩,ho⟩ : 0 ≤ i.a ∧ i.a < i.tops.length ∧ 0 ≤ i.b ∧ i.b < i.tops.length ∧ jA i.tops ∧ i.out.length ≤ 1000 := h
  obtain ⟨x,hx⟩ := yC (l := i.tops) (i := i.a.toNat) (by omega)
  obtain ⟨y,hy⟩ := yC (l := i.tops) (i := i.b.toNat) (by omega)
  obtain ⟨⟨px1,px2⟩,px3,px4⟩ := hp x (List.mem_of_getElem? hx)
  obtain ⟨⟨py1,py2⟩,py3,py4⟩ := hp y (List.mem_of_getElem? hy)
  have e0 : mkq i.tops ⟨i.a,2⟩ ⟨i.b,2⟩ i.less = if x.has2 && y.has2 && (if i.less then kM y.p2 x.p2 else kP x.p2 y.p2).2 then [⟨(if i.less then kM y.p2 x.p2 else kP x.p2 y.p2).1,min x.q2 y.q2,⟨i.a,2⟩,⟨i.b,2⟩⟩] else [] := by
    simp only [mkq,List.getD_eq_getElem?_getD,hx,hy,Option.getD_some]; rfl
  unfold zOw zCy bU
  simp only [List.length_map]
  refine ⟨⟨by omega,by omega⟩,x.has1,x.has2,x.p1,x.p2,x.q1,x.q2,elA hx (by simp [zR]) rfl,⟨by omega,by omega⟩,y.has1,y.has2,y.p1,y.p2,y.q1,y.q2,elA hy (by simp [zR]) rfl,?_⟩
  rw [e0]
  (repeat' (first|exact rfl|exact trivial|assumption|apply And.intro|refine fun (_:Unit) (_:True)=>?_|refine Exists.intro () ?_|omega|(dsimp only;omega)))
  all_goals
    refine Cv.cnd.mk (fun c1 => ?_) (fun c1 => Cv.cnd.mk (fun c2 => ?_) (fun c2 => ?_))
    · have c1 : x.has2 = false := by simpa using c1
      simp only [c1,Bool.false_and,Bool.false_eq_true,if_false,List.append_nil]; (repeat' (first|exact rfl|exact trivial|assumption|apply And.intro|refine fun (_:Unit) (_:True)=>?_|refine Exists.intro () ?_|omega|(dsimp only;omega)))
    · have c2 : y.has2 = false := by simpa using c2
      simp only [c2,Bool.and_false,Bool.false_and,Bool.false_eq_true,if_false,List.append_nil]; (repeat' (first|exact rfl|exact trivial|assumption|apply And.intro|refine fun (_:Unit) (_:True)=>?_|refine Exists.intro () ?_|omega|(dsimp only;omega)))
    · have c1 : x.has2 = true := by simpa using c1
      have c2 : y.has2 = true := by simpa using c2
      simp only [c1,c2,Bool.true_and,z4c]
      refine ⟨⟨x.p2,y.p2⟩,?_⟩
      (repeat' (first|exact rfl|exact trivial|assumption|apply And.intro|refine fun (_:Unit) (_:True)=>?_|refine Exists.intro () ?_|omega|(dsimp only;omega)))
      refine Cv.cnd.mk (fun c3 => ?_) (fun c3 => ?_)
      · have c3 : i.less = true := c3
        simp only [c3,if_true]
        refine ⟨⟨y.p2,x.p2⟩,?_⟩
        (repeat' (first|exact rfl|exact trivial|assumption|apply And.intro|refine fun (_:Unit) (_:True)=>?_|refine Exists.intro () ?_|omega|(dsimp only;omega)))
        refine Cv.cnd.mk (fun c4 => ?_) (fun c4 => ?_)
        · have c4 : (kM y.p2 x.p2).2 = true := c4
          simp only [c4,if_true,List.map_append]; (repeat' (first|exact rfl|exact trivial|assumption|apply And.intro|refine fun (_:Unit) (_:True)=>?_|refine Exists.intro () ?_|omega|(dsimp only;omega)))
        · have c4 : (kM y.p2 x.p2).2 = false := c4
          simp only [c4,Bool.false_eq_true,if_false,List.append_nil]; (repeat' (first|exact rfl|exact trivial|assumption|apply And.intro|refine fun (_:Unit) (_:True)=>?_|refine Exists.intro () ?_|omega|(dsimp only;omega)))
      · have c3 : i.less = false := c3
        simp only [c3,Bool.false_eq_true,if_false]
        refine Cv.cnd.mk (fun c4 => ?_) (fun c4 => ?_)
        · have c4 : (kP x.p2 y.p2).2 = true := c4
          simp only [c4,if_true,List.map_append]; (repeat' (first|exact rfl|exact trivial|assumption|apply And.intro|refine fun (_:Unit) (_:True)=>?_|refine Exists.intro () ?_|omega|(dsimp only;omega)))
        · have c4 : (kP x.p2 y.p2).2 = false := c4
          simp only [c4,Bool.false_eq_true,if_false,List.append_nil]; (repeat' (first|exact rfl|exact trivial|assumption|apply And.intro|refine fun (_:Unit) (_:True)=>?_|refine Exists.intro () ?_|omega|(dsimp only;omega)))
theorem z0o : mk22.ok Try.prog 87 := z8q (gokc zEy (gokc zCx gok0)) yAs
open Go Cv Go.Proofs
structure MkJ where
  i : MkI
  sa : Bool
  sb : Bool
def mkAnyC : Con := con1 MkJ (fun j => [.nm 0 0,.agg [zF j.i.a,zF (zB j.sa)],.agg [zF j.i.b,zF (zB j.sb)],yP j.i.less]) (fun j => MkR j.i.tops j.i.out)
  (fun j => 0 ≤ j.i.a ∧ j.i.a < j.i.tops.length ∧ 0 ≤ j.i.b ∧ j.i.b < j.i.tops.length ∧ jA j.i.tops ∧ j.i.out.length ≤ 1000) (fun _ => zHk) (fun j => MkP j.i.tops (j.i.out ++ mkq j.i.tops ⟨j.i.a,zB j.sa⟩ ⟨j.i.b,zB j.sb⟩ j.i.less))
theorem zHi : mkAnyC.ok Try.prog 87 := fun j => match j with
  | ⟨i,false,false⟩ => zZm i
  | ⟨i,false,true⟩ => z1g i
  | ⟨i,true,false⟩ => z2g i
  | ⟨i,true,true⟩ => z0o i
structure jY where
  p : Prd
  tops : List Top
  inst : Int
def xF (i : jY) (s : Int) (k : Nat) : List Quote := (List.range k).flatMap fun (k : Nat) => mkq i.tops ⟨(i.p.spread i.inst (i.inst + 1 + k)).1,s⟩ ⟨i.inst + 1 + k,s⟩ false
def xE (i : jY) (s : Int) (k : Nat) : List Quote := (List.range k).flatMap fun (k : Nat) => mkq i.tops ⟨(i.p.spread k i.inst).1,3 - s⟩ ⟨k,s⟩ true
def zY (i : jY) (s : Int) : List Quote := mkq i.tops ⟨(i.p.legs i.inst).2.1,3 - s⟩ ⟨(i.p.legs i.inst).1,s⟩ true
def qR (i : jY) (s : Int) (q : Quote) : Quote := { q with a := ⟨(i.p.legs i.inst).1,s⟩,b := ⟨(i.p.legs i.inst).2.1,3 - s⟩ }
def xI (i : jY) (s : Int) : List Quote :=
  if i.p.count = 0 ∨ (i.tops.length : Int) ≠ i.p.count ∨ i.inst < 0 ∨ (i.p.count : Int) ≤ i.inst then []
  else if (i.p.legs i.inst).2.2 then (zY i s).map (qR i s)
  else xF i s (i.p.months.length - (i.inst.toNat + 1)) ++ xE i s i.inst.toNat
def z4m (s : Int) : Con := con1 jY (fun i => [prdV i.p,roV 6 (i.tops.map zR),zF i.inst,zF s]) (fun _ => []) (fun i => i.p.small ∧ jA i.tops) (fun _ => .own 0) (fun i => [.own 77 6 ((xI i s).map zI)])
def all1C : Con := z4m 1
def all2C : Con := z4m 2
def zZy (i : jY) (s : Int) : List SAnn := [
  { ι := Nat,slots := fun k => [(10,.nm 0 0),(77,zF k)],rows := fun k => (List.range 3).map (MkU (i.tops,((zY i s).take k).map (qR i s) ++ (zY i s).drop k)) },
  { ι := Nat,slots := fun k => [(10,.nm 0 0),(17,zF (i.inst + 1 + k))],rows := fun k => MkR i.tops (xF i s k) },
  { ι := Nat,slots := fun k => [(10,.nm 0 0),(120,zF k)],rows := fun k => MkR i.tops (xF i s (i.p.months.length - (i.inst.toNat + 1)) ++ xE i s k) }]
structure dY where
  i : jY
  s : Bool
def allC : Con := con1 dY (fun j => [prdV j.i.p,roV 6 (j.i.tops.map zR),zF j.i.inst,zF (zB j.s)]) (fun _ => []) (fun j => j.i.p.small ∧ jA j.i.tops) (fun _ => .own 0) (fun j => [.own 77 6 ((xI j.i (zB j.s)).map zI)])
def xO (i : jY) (s : Int) : List Quote := (xI i s).filter fun q => decide (i.p.price i.inst q.price = 0)
def quotesC : Con := con1 dY (fun j => [prdV j.i.p,roV 6 (j.i.tops.map zR),zF j.i.inst,zF (zB j.s)]) (fun _ => []) (fun j => j.i.p.small ∧ jA j.i.tops) (fun _ => .own 0) (fun j => [.own 77 6 ((xO j.i (zB j.s)).map zI)])
def zOz (j : dY) : List SAnn := [{ ι := Nat,slots := fun k => [(9,.own 0),(18,zF k)],rows := fun k => [.own 77 6 ((((xI j.i (zB j.s)).take k).filter fun q => decide (j.i.p.price j.i.inst q.price = 0)).map zI)] }]
structure BsI where
  l : List Quote
  s : Int
def zT (l : List Quote) (s : Int) : Quote × Bool := match l with
  | [] => (z5r,false)
  | q :: r => (r.foldl (fun b q => if btr s q.price b.price then q else b) q,true)
def bestQC : Con := con1 BsI (fun i => [roV 6 (i.l.map zI),zF i.s]) (fun _ => []) (fun i => (i.s = 1 ∨ i.s = 2) ∧ i.l.length ≤ 1000000) (fun i => .tup [zKj (zT i.l i.s).1,yP (zT i.l i.s).2]) (fun _ => [])
def zYg (i : BsI) : List SAnn := [{ ι := Nat,slots := fun k => [(6,.nm 0 0),(26,zF k)],rows := fun k => [.cells (zKj (zT (i.l.take (max k 1)) i.s).1).cl 77] }]
open Go Cv Go.Proofs
@[reducible] def zPd (i_2 : wA) (i_3 : Int) : AObj := Sx.AObj.cells [V.d (D.v (.int .i64 (i_2.p.legs i_2.n).snd.fst)),V.d (D.v (.int .i64 ((3 : Int) - i_3)))] (74 : Nat)
@[reducible] def zNi (i_2 : wA) : AObj := Sx.AObj.cells [V.d (D.v (.int .i64 (i_2.p.legs i_2.n).fst)),V.d (D.v (.int .i64 1))] (74 : Nat)
@[reducible] def dK (i : jY) : AObj := Sx.AObj.cells [V.d (D.v (Value.string (sb i.p.code))),V.own (0 : Nat),V.d (D.v (.int .i64 i.p.tick)),V.d (D.v (.int .i64 i.p.low)),V.d (D.v (.int .i64 i.p.high)),V.d (D.v (.int .i64 i.p.wide)),V.d (D.v (.int .i64 i.p.rule)),V.d (D.v (.int .i64 i.p.top)),V.d (D.v (.int .i64 i.p.least)),V.d (D.v (.int .i64 i.p.part)),V.own ((0 : Nat) + (1 : Nat))] (25 : Nat)
def zVu (i : jY) : Prop :=
  ∃ (i_1 : Prd),sb i_1.code = sb i.p.code∧iE i_1.months = iE i.p.months∧i_1.tick = i.p.tick∧i_1.low = i.p.low∧i_1.high = i.p.high∧i_1.wide = i.p.wide∧i_1.rule = i.p.rule∧i_1.top = i.p.top∧i_1.least = i.p.least∧i_1.part = i.p.part∧iE i_1.settle = iE i.p.settle∧(i_1.code.length ≤ 1099511627776∧i_1.months.length ≤ 1099511627776∧i_1.settle.length ≤ 1099511627776)∧∀ (o : Unit),True→cnd ((↑i_1.count : Int) == 0) (∃ (o : Unit),List.map zI (xI i 1) = []∧True) (cnd ((↑(List.map zR i.tops).length : Int) != (↑i_1.count : Int)) (∃ (o : Unit),List.map zI (xI i 1) = []∧True) (cnd (decide (i.inst < 0)) (∃ (o : Unit),List.map zI (xI i 1) = []∧True) (cnd (decide (i.inst ≥ (↑i_1.count : Int))) (∃ (o : Unit),List.map zI (xI i 1) = []∧True) (∃ (i_2 : wA),sb i_2.p.code = sb i.p.code∧iE i_2.p.months = iE i.p.months∧i_2.p.tick = i.p.tick∧i_2.p.low = i.p.low∧i_2.p.high = i.p.high∧i_2.p.wide = i.p.wide∧i_2.p.rule = i.p.rule∧i_2.p.top = i.p.top∧i_2.p.least = i.p.least∧i_2.p.part = i.p.part∧iE i_2.p.settle = iE i.p.settle∧i_2.n = i.inst∧(i_2.p.code.length ≤ 1099511627776∧i_2.p.months.length ≤ 1099511627776∧i_2.p.settle.length ≤ 1099511627776)∧∀ (o : Unit),True→cnd (i_2.p.legs i_2.n).snd.snd (∃ (i_3 : Int),i_3 = 1∧(i_3 = 1 ∨ i_3 = 2)∧∀ (o : Unit),True→∃ (i_4 : MkJ),i_4.i.a = (i_2.p.legs i_2.n).snd.fst∧zB i_4.sa = 3 - i_3∧i_4.i.b = (i_2.p.legs i_2.n).fst∧zB i_4.sb = 1∧i_4.i.less = true∧AObj.fro 6 (List.map zR i_4.i.tops) = AObj.fro 6 (List.map zR i.tops)∧List.map zI i_4.i.out = []∧(0 ≤ i_4.i.a∧i_4.i.a < (↑i_4.i.tops.length : Int)∧0 ≤ i_4.i.b∧i_4.i.b < (↑i_4.i.tops.length : Int)∧(i_4.i.tops.length ≤ 1000000∧∀ (t : Top),t ∈ i_4.i.tops→((-9223372036854775808) ≤ t.p1∧t.p1 ≤ 9223372036854775807)∧(-9223372036854775808) ≤ t.p2∧t.p2 ≤ 9223372036854775807)∧i_4.i.out.length ≤ 1000)∧∀ (o : Unit),True→∃ (i0 : Nat),(↑i0 : Int) = 0∧AObj.fro 6 (List.map zR i.tops) = AObj.fro 6 (List.map zR i_4.i.tops)∧List.map zI (List.map (qR i 1) (List.take i0 (zY i 1)) ++ List.drop i0 (zY i 1)) = List.map zI (i_4.i.out ++ mkq i_4.i.tops (Leg.mk i_4.i.a (zB i_4.sa)) (Leg.mk i_4.i.b (zB i_4.sb)) i_4.i.less)∧∃ (I : Nat→Prop),∃ (μ : Nat→Nat),I i0∧∀ (i_5 : Nat),I i_5→cnd (decide ((↑i_5 : Int) < (↑(List.map zI (i_4.i.out ++ mkq i_4.i.tops (Leg.mk i_4.i.a (zB i_4.sa)) (Leg.mk i_4.i.b (zB i_4.sb)) i_4.i.less)).length : Int))) ((0 ≤ (↑i_5 : Int)∧(↑i_5 : Int) < (↑(List.map zI (List.map (qR i 1) (List.take i_5 (zY i 1)) ++ List.drop i_5 (zY i 1))).length : Int))∧(↑i_5 : Int).toNat < (List.map zI (List.map (qR i 1) (List.take i_5 (zY i 1)) ++ List.drop i_5 (zY i 1))).length∧∃ (i' : Nat),(↑i' : Int) = IntKind.i64.wrap ((↑i_5 : Int) + 1)∧AObj.fro 6 (List.map zR i.tops) = AObj.fro 6 (List.map zR i.tops)∧List.map zI (List.map (qR i 1) (List.take i' (zY i 1)) ++ List.drop i' (zY i 1)) = zK (List.map zI (List.map (qR i 1) (List.take i_5 (zY i 1)) ++ List.drop i_5 (zY i 1))) (↑i_5 : Int).toNat ((0 : Nat) + (2 : Nat)) [D.v (.int .i64 (i_2.p.legs i_2.n).fst),D.v (.int .i64 1),D.v (.int .i64 (i_2.p.legs i_2.n).snd.fst),D.v (.int .i64 (3 - i_3))]∧I i'∧μ i' < μ i_5∧AObj.fro 6 (List.map zR i_4.i.tops) = AObj.fro 6 (List.map zR i_4.i.tops)∧zPd i_2 i_3 = zPd i_2 i_3∧zNi i_2 = zNi i_2∧AObj.fro 6 (List.map zR i.tops) = AObj.fro 6 (List.map zR i.tops)∧dK i = dK i∧AObj.fro 1 (iE i.p.settle) = AObj.fro 1 (iE i.p.settle)∧AObj.fro 1 (iE i.p.months) = AObj.fro 1 (iE i.p.months)) (∃ (o : Unit),List.map zI (xI i 1) = List.map zI (List.map (qR i 1) (List.take i_5 (zY i 1)) ++ List.drop i_5 (zY i 1))∧True)) (∃ (i0 : Nat),i.inst + 1 + (↑i0 : Int) = IntKind.i64.wrap (i.inst + 1)∧AObj.fro 6 (List.map zR i.tops) = AObj.fro 6 (List.map zR i.tops)∧List.map zI (xF i 1 i0) = []∧∃ (I : Nat→Prop),∃ (μ : Nat→Nat),I i0∧∀ (i_3 : Nat),I i_3→cnd (decide (i.inst + 1 + (↑i_3 : Int) < (↑(iE i.p.months).length : Int))) (∃ (i_4 : wZ),sb i_4.p.code = sb i.p.code∧iE i_4.p.months = iE i.p.months∧i_4.p.tick = i.p.tick∧i_4.p.low = i.p.low∧i_4.p.high = i.p.high∧i_4.p.wide = i.p.wide∧i_4.p.rule = i.p.rule∧i_4.p.top = i.p.top∧i_4.p.least = i.p.least∧i_4.p.part = i.p.part∧iE i_4.p.settle = iE i.p.settle∧i_4.a = i.inst∧i_4.b = i.inst + 1 + (↑i_3 : Int)∧(i_4.p.code.length ≤ 1099511627776∧i_4.p.months.length ≤ 1099511627776∧i_4.p.settle.length ≤ 1099511627776)∧∀ (o : Unit),True→∃ (i_5 : MkJ),i_5.i.a = (i_4.p.spread i_4.a i_4.b).fst∧zB i_5.sa = 1∧i_5.i.b = i.inst + 1 + (↑i_3 : Int)∧zB i_5.sb = 1∧i_5.i.less = false∧AObj.fro 6 (List.map zR i_5.i.tops) = AObj.fro 6 (List.map zR i.tops)∧List.map zI i_5.i.out = List.map zI (xF i 1 i_3)∧(0 ≤ i_5.i.a∧i_5.i.a < (↑i_5.i.tops.length : Int)∧0 ≤ i_5.i.b∧i_5.i.b < (↑i_5.i.tops.length : Int)∧(i_5.i.tops.length ≤ 1000000∧∀ (t : Top),t ∈ i_5.i.tops→((-9223372036854775808) ≤ t.p1∧t.p1 ≤ 9223372036854775807)∧(-9223372036854775808) ≤ t.p2∧t.p2 ≤ 9223372036854775807)∧i_5.i.out.length ≤ 1000)∧∀ (o : Unit),True→∃ (i' : Nat),i.inst + 1 + (↑i' : Int) = IntKind.i64.wrap (i.inst + 1 + (↑i_3 : Int) + 1)∧AObj.fro 6 (List.map zR i.tops) = AObj.fro 6 (List.map zR i_5.i.tops)∧List.map zI (xF i 1 i') = List.map zI (i_5.i.out ++ mkq i_5.i.tops (Leg.mk i_5.i.a (zB i_5.sa)) (Leg.mk i_5.i.b (zB i_5.sb)) i_5.i.less)∧I i'∧μ i' < μ i_3∧AObj.fro 6 (List.map zR i.tops) = AObj.fro 6 (List.map zR i.tops)∧dK i = dK i∧AObj.fro 1 (iE i.p.settle) = AObj.fro 1 (iE i.p.settle)∧AObj.fro 1 (iE i.p.months) = AObj.fro 1 (iE i.p.months)) (∃ (i0 : Nat),(↑i0 : Int) = 0∧AObj.fro 6 (List.map zR i.tops) = AObj.fro 6 (List.map zR i.tops)∧List.map zI (xF i 1 (i.p.months.length - (i.inst.toNat + 1)) ++ xE i 1 i0) = List.map zI (xF i 1 i_3)∧∃ (I : Nat→Prop),∃ (μ : Nat→Nat),I i0∧∀ (i_4 : Nat),I i_4→cnd (decide ((↑i_4 : Int) < i.inst)) (∃ (i_5 : wZ),sb i_5.p.code = sb i.p.code∧iE i_5.p.months = iE i.p.months∧i_5.p.tick = i.p.tick∧i_5.p.low = i.p.low∧i_5.p.high = i.p.high∧i_5.p.wide = i.p.wide∧i_5.p.rule = i.p.rule∧i_5.p.top = i.p.top∧i_5.p.least = i.p.least∧i_5.p.part = i.p.part∧iE i_5.p.settle = iE i.p.settle∧i_5.a = (↑i_4 : Int)∧i_5.b = i.inst∧(i_5.p.code.length ≤ 1099511627776∧i_5.p.months.length ≤ 1099511627776∧i_5.p.settle.length ≤ 1099511627776)∧∀ (o : Unit),True→∃ (i_6 : Int),i_6 = 1∧(i_6 = 1 ∨ i_6 = 2)∧∀ (o : Unit),True→∃ (i_7 : MkJ),i_7.i.a = (i_5.p.spread i_5.a i_5.b).fst∧zB i_7.sa = 3 - i_6∧i_7.i.b = (↑i_4 : Int)∧zB i_7.sb = 1∧i_7.i.less = true∧AObj.fro 6 (List.map zR i_7.i.tops) = AObj.fro 6 (List.map zR i.tops)∧List.map zI i_7.i.out = List.map zI (xF i 1 (i.p.months.length - (i.inst.toNat + 1)) ++ xE i 1 i_4)∧(0 ≤ i_7.i.a∧i_7.i.a < (↑i_7.i.tops.length : Int)∧0 ≤ i_7.i.b∧i_7.i.b < (↑i_7.i.tops.length : Int)∧(i_7.i.tops.length ≤ 1000000∧∀ (t : Top),t ∈ i_7.i.tops→((-9223372036854775808) ≤ t.p1∧t.p1 ≤ 9223372036854775807)∧(-9223372036854775808) ≤ t.p2∧t.p2 ≤ 9223372036854775807)∧i_7.i.out.length ≤ 1000)∧∀ (o : Unit),True→∃ (i' : Nat),(↑i' : Int) = IntKind.i64.wrap ((↑i_4 : Int) + 1)∧AObj.fro 6 (List.map zR i.tops) = AObj.fro 6 (List.map zR i_7.i.tops)∧List.map zI (xF i 1 (i.p.months.length - (i.inst.toNat + 1)) ++ xE i 1 i') = List.map zI (i_7.i.out ++ mkq i_7.i.tops (Leg.mk i_7.i.a (zB i_7.sa)) (Leg.mk i_7.i.b (zB i_7.sb)) i_7.i.less)∧I i'∧μ i' < μ i_4∧AObj.fro 6 (List.map zR i.tops) = AObj.fro 6 (List.map zR i.tops)∧AObj.fro 6 (List.map zR i.tops) = AObj.fro 6 (List.map zR i.tops)∧dK i = dK i∧AObj.fro 1 (iE i.p.settle) = AObj.fro 1 (iE i.p.settle)∧AObj.fro 1 (iE i.p.months) = AObj.fro 1 (iE i.p.months)) (∃ (o : Unit),List.map zI (xI i 1) = List.map zI (xF i 1 (i.p.months.length - (i.inst.toNat + 1)) ++ xE i 1 i_4)∧True)))))))
theorem z7k (i : jY) : zVu i = walk Try.prog ([(18,pcountC),(85,legsC),(88,spreadC),(86,iotherC),(87,mkAnyC)]) 0 ([]) (zZy i 1) [] Try.f72 (Try.f72.body.getD .skip) (all1C.pat i) (all1C.pre i) (all1C.alts i) := by kernel_rfl
theorem z6r (hG : GOk Try.prog ([(18,pcountC),(85,legsC),(88,spreadC),(86,iotherC),(87,mkAnyC)])) (h : ∀ (i : jY),all1C.cnd i → zVu i) : all1C.ok Try.prog 72 := zE mixed ([(18,pcountC),(85,legsC),(88,spreadC),(86,iotherC),(87,mkAnyC)]) hG 0 (fun (i : jY) => []) (fun (i : jY) => zZy i 1) [] Try.func72 (by kernel_rfl) (by kernel_rfl) (by kernel_rfl) (fun _ => by kernel_rfl) (fun (i : jY) hc => Eq.mp (z7k i) (h i hc))
@[reducible] def zOf (i_2 : wA) (i_3 : Int) : AObj := Sx.AObj.cells [V.d (D.v (.int .i64 (i_2.p.legs i_2.n).snd.fst)),V.d (D.v (.int .i64 ((3 : Int) - i_3)))] (74 : Nat)
@[reducible] def zOd (i_2 : wA) : AObj := Sx.AObj.cells [V.d (D.v (.int .i64 (i_2.p.legs i_2.n).fst)),V.d (D.v (.int .i64 2))] (74 : Nat)
@[reducible] def dN (i : jY) : AObj := Sx.AObj.cells [V.d (D.v (Value.string (sb i.p.code))),V.own (0 : Nat),V.d (D.v (.int .i64 i.p.tick)),V.d (D.v (.int .i64 i.p.low)),V.d (D.v (.int .i64 i.p.high)),V.d (D.v (.int .i64 i.p.wide)),V.d (D.v (.int .i64 i.p.rule)),V.d (D.v (.int .i64 i.p.top)),V.d (D.v (.int .i64 i.p.least)),V.d (D.v (.int .i64 i.p.part)),V.own ((0 : Nat) + (1 : Nat))] (25 : Nat)
def zVj (i : jY) : Prop :=
  ∃ (i_1 : Prd),sb i_1.code = sb i.p.code∧iE i_1.months = iE i.p.months∧i_1.tick = i.p.tick∧i_1.low = i.p.low∧i_1.high = i.p.high∧i_1.wide = i.p.wide∧i_1.rule = i.p.rule∧i_1.top = i.p.top∧i_1.least = i.p.least∧i_1.part = i.p.part∧iE i_1.settle = iE i.p.settle∧(i_1.code.length ≤ 1099511627776∧i_1.months.length ≤ 1099511627776∧i_1.settle.length ≤ 1099511627776)∧∀ (o : Unit),True→cnd ((↑i_1.count : Int) == 0) (∃ (o : Unit),List.map zI (xI i 2) = []∧True) (cnd ((↑(List.map zR i.tops).length : Int) != (↑i_1.count : Int)) (∃ (o : Unit),List.map zI (xI i 2) = []∧True) (cnd (decide (i.inst < 0)) (∃ (o : Unit),List.map zI (xI i 2) = []∧True) (cnd (decide (i.inst ≥ (↑i_1.count : Int))) (∃ (o : Unit),List.map zI (xI i 2) = []∧True) (∃ (i_2 : wA),sb i_2.p.code = sb i.p.code∧iE i_2.p.months = iE i.p.months∧i_2.p.tick = i.p.tick∧i_2.p.low = i.p.low∧i_2.p.high = i.p.high∧i_2.p.wide = i.p.wide∧i_2.p.rule = i.p.rule∧i_2.p.top = i.p.top∧i_2.p.least = i.p.least∧i_2.p.part = i.p.part∧iE i_2.p.settle = iE i.p.settle∧i_2.n = i.inst∧(i_2.p.code.length ≤ 1099511627776∧i_2.p.months.length ≤ 1099511627776∧i_2.p.settle.length ≤ 1099511627776)∧∀ (o : Unit),True→cnd (i_2.p.legs i_2.n).snd.snd (∃ (i_3 : Int),i_3 = 2∧(i_3 = 1 ∨ i_3 = 2)∧∀ (o : Unit),True→∃ (i_4 : MkJ),i_4.i.a = (i_2.p.legs i_2.n).snd.fst∧zB i_4.sa = 3 - i_3∧i_4.i.b = (i_2.p.legs i_2.n).fst∧zB i_4.sb = 2∧i_4.i.less = true∧AObj.fro 6 (List.map zR i_4.i.tops) = AObj.fro 6 (List.map zR i.tops)∧List.map zI i_4.i.out = []∧(0 ≤ i_4.i.a∧i_4.i.a < (↑i_4.i.tops.length : Int)∧0 ≤ i_4.i.b∧i_4.i.b < (↑i_4.i.tops.length : Int)∧(i_4.i.tops.length ≤ 1000000∧∀ (t : Top),t ∈ i_4.i.tops→((-9223372036854775808) ≤ t.p1∧t.p1 ≤ 9223372036854775807)∧(-9223372036854775808) ≤ t.p2∧t.p2 ≤ 9223372036854775807)∧i_4.i.out.length ≤ 1000)∧∀ (o : Unit),True→∃ (i0 : Nat),(↑i0 : Int) = 0∧AObj.fro 6 (List.map zR i.tops) = AObj.fro 6 (List.map zR i_4.i.tops)∧List.map zI (List.map (qR i 2) (List.take i0 (zY i 2)) ++ List.drop i0 (zY i 2)) = List.map zI (i_4.i.out ++ mkq i_4.i.tops (Leg.mk i_4.i.a (zB i_4.sa)) (Leg.mk i_4.i.b (zB i_4.sb)) i_4.i.less)∧∃ (I : Nat→Prop),∃ (μ : Nat→Nat),I i0∧∀ (i_5 : Nat),I i_5→cnd (decide ((↑i_5 : Int) < (↑(List.map zI (i_4.i.out ++ mkq i_4.i.tops (Leg.mk i_4.i.a (zB i_4.sa)) (Leg.mk i_4.i.b (zB i_4.sb)) i_4.i.less)).length : Int))) ((0 ≤ (↑i_5 : Int)∧(↑i_5 : Int) < (↑(List.map zI (List.map (qR i 2) (List.take i_5 (zY i 2)) ++ List.drop i_5 (zY i 2))).length : Int))∧(↑i_5 : Int).toNat < (List.map zI (List.map (qR i 2) (List.take i_5 (zY i 2)) ++ List.drop i_5 (zY i 2))).length∧∃ (i' : Nat),(↑i' : Int) = IntKind.i64.wrap ((↑i_5 : Int) + 1)∧AObj.fro 6 (List.map zR i.tops) = AObj.fro 6 (List.map zR i.tops)∧List.map zI (List.map (qR i 2) (List.take i' (zY i 2)) ++ List.drop i' (zY i 2)) = zK (List.map zI (List.map (qR i 2) (List.take i_5 (zY i 2)) ++ List.drop i_5 (zY i 2))) (↑i_5 : Int).toNat ((0 : Nat) + (2 : Nat)) [D.v (.int .i64 (i_2.p.legs i_2.n).fst),D.v (.int .i64 2),D.v (.int .i64 (i_2.p.legs i_2.n).snd.fst),D.v (.int .i64 (3 - i_3))]∧I i'∧μ i' < μ i_5∧AObj.fro 6 (List.map zR i_4.i.tops) = AObj.fro 6 (List.map zR i_4.i.tops)∧zOf i_2 i_3 = zOf i_2 i_3∧zOd i_2 = zOd i_2∧AObj.fro 6 (List.map zR i.tops) = AObj.fro 6 (List.map zR i.tops)∧dN i = dN i∧AObj.fro 1 (iE i.p.settle) = AObj.fro 1 (iE i.p.settle)∧AObj.fro 1 (iE i.p.months) = AObj.fro 1 (iE i.p.months)) (∃ (o : Unit),List.map zI (xI i 2) = List.map zI (List.map (qR i 2) (List.take i_5 (zY i 2)) ++ List.drop i_5 (zY i 2))∧True)) (∃ (i0 : Nat),i.inst + 1 + (↑i0 : Int) = IntKind.i64.wrap (i.inst + 1)∧AObj.fro 6 (List.map zR i.tops) = AObj.fro 6 (List.map zR i.tops)∧List.map zI (xF i 2 i0) = []∧∃ (I : Nat→Prop),∃ (μ : Nat→Nat),I i0∧∀ (i_3 : Nat),I i_3→cnd (decide (i.inst + 1 + (↑i_3 : Int) < (↑(iE i.p.months).length : Int))) (∃ (i_4 : wZ),sb i_4.p.code = sb i.p.code∧iE i_4.p.months = iE i.p.months∧i_4.p.tick = i.p.tick∧i_4.p.low = i.p.low∧i_4.p.high = i.p.high∧i_4.p.wide = i.p.wide∧i_4.p.rule = i.p.rule∧i_4.p.top = i.p.top∧i_4.p.least = i.p.least∧i_4.p.part = i.p.part∧iE i_4.p.settle = iE i.p.settle∧i_4.a = i.inst∧i_4.b = i.inst + 1 + (↑i_3 : Int)∧(i_4.p.code.length ≤ 1099511627776∧i_4.p.months.length ≤ 1099511627776∧i_4.p.settle.length ≤ 1099511627776)∧∀ (o : Unit),True→∃ (i_5 : MkJ),i_5.i.a = (i_4.p.spread i_4.a i_4.b).fst∧zB i_5.sa = 2∧i_5.i.b = i.inst + 1 + (↑i_3 : Int)∧zB i_5.sb = 2∧i_5.i.less = false∧AObj.fro 6 (List.map zR i_5.i.tops) = AObj.fro 6 (List.map zR i.tops)∧List.map zI i_5.i.out = List.map zI (xF i 2 i_3)∧(0 ≤ i_5.i.a∧i_5.i.a < (↑i_5.i.tops.length : Int)∧0 ≤ i_5.i.b∧i_5.i.b < (↑i_5.i.tops.length : Int)∧(i_5.i.tops.length ≤ 1000000∧∀ (t : Top),t ∈ i_5.i.tops→((-9223372036854775808) ≤ t.p1∧t.p1 ≤ 9223372036854775807)∧(-9223372036854775808) ≤ t.p2∧t.p2 ≤ 9223372036854775807)∧i_5.i.out.length ≤ 1000)∧∀ (o : Unit),True→∃ (i' : Nat),i.inst + 1 + (↑i' : Int) = IntKind.i64.wrap (i.inst + 1 + (↑i_3 : Int) + 1)∧AObj.fro 6 (List.map zR i.tops) = AObj.fro 6 (List.map zR i_5.i.tops)∧List.map zI (xF i 2 i') = List.map zI (i_5.i.out ++ mkq i_5.i.tops (Leg.mk i_5.i.a (zB i_5.sa)) (Leg.mk i_5.i.b (zB i_5.sb)) i_5.i.less)∧I i'∧μ i' < μ i_3∧AObj.fro 6 (List.map zR i.tops) = AObj.fro 6 (List.map zR i.tops)∧dN i = dN i∧AObj.fro 1 (iE i.p.settle) = AObj.fro 1 (iE i.p.settle)∧AObj.fro 1 (iE i.p.months) = AObj.fro 1 (iE i.p.months)) (∃ (i0 : Nat),(↑i0 : Int) = 0∧AObj.fro 6 (List.map zR i.tops) = AObj.fro 6 (List.map zR i.tops)∧List.map zI (xF i 2 (i.p.months.length - (i.inst.toNat + 1)) ++ xE i 2 i0) = List.map zI (xF i 2 i_3)∧∃ (I : Nat→Prop),∃ (μ : Nat→Nat),I i0∧∀ (i_4 : Nat),I i_4→cnd (decide ((↑i_4 : Int) < i.inst)) (∃ (i_5 : wZ),sb i_5.p.code = sb i.p.code∧iE i_5.p.months = iE i.p.months∧i_5.p.tick = i.p.tick∧i_5.p.low = i.p.low∧i_5.p.high = i.p.high∧i_5.p.wide = i.p.wide∧i_5.p.rule = i.p.rule∧i_5.p.top = i.p.top∧i_5.p.least = i.p.least∧i_5.p.part = i.p.part∧iE i_5.p.settle = iE i.p.settle∧i_5.a = (↑i_4 : Int)∧i_5.b = i.inst∧(i_5.p.code.length ≤ 1099511627776∧i_5.p.months.length ≤ 1099511627776∧i_5.p.settle.length ≤ 1099511627776)∧∀ (o : Unit),True→∃ (i_6 : Int),i_6 = 2∧(i_6 = 1 ∨ i_6 = 2)∧∀ (o : Unit),True→∃ (i_7 : MkJ),i_7.i.a = (i_5.p.spread i_5.a i_5.b).fst∧zB i_7.sa = 3 - i_6∧i_7.i.b = (↑i_4 : Int)∧zB i_7.sb = 2∧i_7.i.less = true∧AObj.fro 6 (List.map zR i_7.i.tops) = AObj.fro 6 (List.map zR i.tops)∧List.map zI i_7.i.out = List.map zI (xF i 2 (i.p.months.length - (i.inst.toNat + 1)) ++ xE i 2 i_4)∧(0 ≤ i_7.i.a∧i_7.i.a < (↑i_7.i.tops.length : Int)∧0 ≤ i_7.i.b∧i_7.i.b < (↑i_7.i.tops.length : Int)∧(i_7.i.tops.length ≤ 1000000∧∀ (t : Top),t ∈ i_7.i.tops→((-9223372036854775808) ≤ t.p1∧t.p1 ≤ 9223372036854775807)∧(-9223372036854775808) ≤ t.p2∧t.p2 ≤ 9223372036854775807)∧i_7.i.out.length ≤ 1000)∧∀ (o : Unit),True→∃ (i' : Nat),(↑i' : Int) = IntKind.i64.wrap ((↑i_4 : Int) + 1)∧AObj.fro 6 (List.map zR i.tops) = AObj.fro 6 (List.map zR i_7.i.tops)∧List.map zI (xF i 2 (i.p.months.length - (i.inst.toNat + 1)) ++ xE i 2 i') = List.map zI (i_7.i.out ++ mkq i_7.i.tops (Leg.mk i_7.i.a (zB i_7.sa)) (Leg.mk i_7.i.b (zB i_7.sb)) i_7.i.less)∧I i'∧μ i' < μ i_4∧AObj.fro 6 (List.map zR i.tops) = AObj.fro 6 (List.map zR i.tops)∧AObj.fro 6 (List.map zR i.tops) = AObj.fro 6 (List.map zR i.tops)∧dN i = dN i∧AObj.fro 1 (iE i.p.settle) = AObj.fro 1 (iE i.p.settle)∧AObj.fro 1 (iE i.p.months) = AObj.fro 1 (iE i.p.months)) (∃ (o : Unit),List.map zI (xI i 2) = List.map zI (xF i 2 (i.p.months.length - (i.inst.toNat + 1)) ++ xE i 2 i_4)∧True)))))))
theorem z9o (i : jY) : zVj i = walk Try.prog ([(18,pcountC),(85,legsC),(88,spreadC),(86,iotherC),(87,mkAnyC)]) 0 ([]) (zZy i 2) [] Try.f72 (Try.f72.body.getD .skip) (all2C.pat i) (all2C.pre i) (all2C.alts i) := by kernel_rfl
theorem z9w (hG : GOk Try.prog ([(18,pcountC),(85,legsC),(88,spreadC),(86,iotherC),(87,mkAnyC)])) (h : ∀ (i : jY),all2C.cnd i → zVj i) : all2C.ok Try.prog 72 := zE mixed ([(18,pcountC),(85,legsC),(88,spreadC),(86,iotherC),(87,mkAnyC)]) hG 0 (fun (i : jY) => []) (fun (i : jY) => zZy i 2) [] Try.func72 (by kernel_rfl) (by kernel_rfl) (by kernel_rfl) (fun _ => by kernel_rfl) (fun (i : jY) hc => Eq.mp (z9o i) (h i hc))
@[reducible] def dI (j : dY) (i : dY) : AObj := Sx.AObj.cells [V.d (D.v (Value.string (sb j.i.p.code))),V.own (0 : Nat),V.d (D.v (.int .i64 j.i.p.tick)),V.d (D.v (.int .i64 j.i.p.low)),V.d (D.v (.int .i64 j.i.p.high)),V.d (D.v (.int .i64 j.i.p.wide)),V.d (D.v (.int .i64 j.i.p.rule)),V.d (D.v (.int .i64 j.i.p.top)),V.d (D.v (.int .i64 j.i.p.least)),V.d (D.v (.int .i64 j.i.p.part)),V.own ((0 : Nat) + (1 : Nat))] (25 : Nat)
def zEq (j : dY) : Prop :=
  ∃ (i : dY),sb i.i.p.code = sb j.i.p.code∧iE i.i.p.months = iE j.i.p.months∧i.i.p.tick = j.i.p.tick∧i.i.p.low = j.i.p.low∧i.i.p.high = j.i.p.high∧i.i.p.wide = j.i.p.wide∧i.i.p.rule = j.i.p.rule∧i.i.p.top = j.i.p.top∧i.i.p.least = j.i.p.least∧i.i.p.part = j.i.p.part∧iE i.i.p.settle = iE j.i.p.settle∧List.map zR i.i.tops = List.map zR j.i.tops∧i.i.inst = j.i.inst∧zB i.s = zB j.s∧((i.i.p.code.length ≤ 1099511627776∧i.i.p.months.length ≤ 1099511627776∧i.i.p.settle.length ≤ 1099511627776)∧i.i.tops.length ≤ 1000000∧∀ (t : Top),t ∈ i.i.tops→((-9223372036854775808) ≤ t.p1∧t.p1 ≤ 9223372036854775807)∧(-9223372036854775808) ≤ t.p2∧t.p2 ≤ 9223372036854775807)∧∀ (o : Unit),True→∃ (i0 : Nat),(↑i0 : Int) = 0∧List.map zI (List.filter (fun (q : Sx.Quote) ↦ decide (j.i.p.price j.i.inst q.price = 0)) (List.take i0 (xI j.i (zB j.s)))) = []∧∃ (I : Nat→Prop),∃ (μ : Nat→Nat),I i0∧∀ (i_1 : Nat),I i_1→cnd (decide ((↑i_1 : Int) < (↑(List.map zI (xI i.i (zB i.s))).length : Int))) ((0 ≤ (↑i_1 : Int)∧(↑i_1 : Int) < (↑(List.map zI (xI i.i (zB i.s))).length : Int))∧∃ (n : Int),∃ (n_1 : Int),∃ (n_2 : Int),∃ (n_3 : Int),∃ (n_4 : Int),∃ (n_5 : Int),zH (List.map zI (xI i.i (zB i.s))) (↑i_1 : Int).toNat 0 6 = some [D.v (.int .i64 n),D.v (.int .i64 n_1),D.v (.int .i64 n_2),D.v (.int .i64 n_3),D.v (.int .i64 n_4),D.v (.int .i64 n_5)]∧∃ (i_2 : wZ),sb i_2.p.code = sb j.i.p.code∧iE i_2.p.months = iE j.i.p.months∧i_2.p.tick = j.i.p.tick∧i_2.p.low = j.i.p.low∧i_2.p.high = j.i.p.high∧i_2.p.wide = j.i.p.wide∧i_2.p.rule = j.i.p.rule∧i_2.p.top = j.i.p.top∧i_2.p.least = j.i.p.least∧i_2.p.part = j.i.p.part∧iE i_2.p.settle = iE j.i.p.settle∧i_2.a = j.i.inst∧i_2.b = n∧(i_2.p.code.length ≤ 1099511627776∧i_2.p.months.length ≤ 1099511627776∧i_2.p.settle.length ≤ 1099511627776)∧∀ (o : Unit),True→cnd (i_2.p.price i_2.a i_2.b == 0) (((List.map zI (List.filter (fun (q : Sx.Quote) ↦ decide (j.i.p.price j.i.inst q.price = 0)) (List.take i_1 (xI j.i (zB j.s))))).length + 1) * (48 : Nat) ≤ (70368744177664 : Nat)∧∃ (i' : Nat),(↑i' : Int) = IntKind.i64.wrap ((↑i_1 : Int) + 1)∧List.map zI (List.filter (fun (q : Sx.Quote) ↦ decide (j.i.p.price j.i.inst q.price = 0)) (List.take i' (xI j.i (zB j.s)))) = List.map zI (List.filter (fun (q : Sx.Quote) ↦ decide (j.i.p.price j.i.inst q.price = 0)) (List.take i_1 (xI j.i (zB j.s)))) ++ [[D.v (.int .i64 n),D.v (.int .i64 n_1),D.v (.int .i64 n_2),D.v (.int .i64 n_3),D.v (.int .i64 n_4),D.v (.int .i64 n_5)]]∧I i'∧μ i' < μ i_1∧AObj.own 77 6 (List.map zI (xI i.i (zB i.s))) = AObj.own 77 6 (List.map zI (xI i.i (zB i.s)))∧dI j i = dI j i∧AObj.fro 1 (iE j.i.p.settle) = AObj.fro 1 (iE j.i.p.settle)∧AObj.fro 1 (iE j.i.p.months) = AObj.fro 1 (iE j.i.p.months)) (∃ (i' : Nat),(↑i' : Int) = IntKind.i64.wrap ((↑i_1 : Int) + 1)∧List.map zI (List.filter (fun (q : Sx.Quote) ↦ decide (j.i.p.price j.i.inst q.price = 0)) (List.take i' (xI j.i (zB j.s)))) = List.map zI (List.filter (fun (q : Sx.Quote) ↦ decide (j.i.p.price j.i.inst q.price = 0)) (List.take i_1 (xI j.i (zB j.s))))∧I i'∧μ i' < μ i_1∧AObj.own 77 6 (List.map zI (xI i.i (zB i.s))) = AObj.own 77 6 (List.map zI (xI i.i (zB i.s)))∧dI j i = dI j i∧AObj.fro 1 (iE j.i.p.settle) = AObj.fro 1 (iE j.i.p.settle)∧AObj.fro 1 (iE j.i.p.months) = AObj.fro 1 (iE j.i.p.months))) (∃ (o : Unit),List.map zI (xO j.i (zB j.s)) = List.map zI (List.filter (fun (q : Sx.Quote) ↦ decide (j.i.p.price j.i.inst q.price = 0)) (List.take i_1 (xI j.i (zB j.s))))∧True)
theorem zWz (j : dY) : zEq j = walk Try.prog ([(72,allC),(22,priceC)]) 0 ([]) (zOz j) [] Try.f50 (Try.f50.body.getD .skip) (quotesC.pat j) (quotesC.pre j) (quotesC.alts j) := by kernel_rfl
theorem zXf (hG : GOk Try.prog ([(72,allC),(22,priceC)])) (h : ∀ (j : dY),quotesC.cnd j → zEq j) : quotesC.ok Try.prog 50 := zE mixed ([(72,allC),(22,priceC)]) hG 0 (fun (j : dY) => []) (fun (j : dY) => zOz j) [] Try.func50 (by kernel_rfl) (by kernel_rfl) (by kernel_rfl) (fun _ => by kernel_rfl) (fun (j : dY) hc => Eq.mp (zWz j) (h j hc))
@[reducible] def bM  : AObj := Sx.AObj.cells (Sx.V.agg [V.d (D.v (.int .i64 0)),V.d (D.v (.int .i64 0)),V.d (D.v (.int .i64 0)),V.d (D.v (.int .i64 0)),V.d (D.v (.int .i64 0)),V.d (D.v (.int .i64 0))]).cl (77 : Nat)
@[reducible] def sU (i : BsI) : Prop := ∃ (n : Int),∃ (n_1 : Int),∃ (n_2 : Int),∃ (n_3 : Int),∃ (n_4 : Int),∃ (n_5 : Int),zH (List.map zI i.l) (Int.toNat 0) 0 6 = some [D.v (.int .i64 n),D.v (.int .i64 n_1),D.v (.int .i64 n_2),D.v (.int .i64 n_3),D.v (.int .i64 n_4),D.v (.int .i64 n_5)]∧∃ (i0 : Nat),(↑i0 : Int) = 0∧(zT (List.take (max i0 1) i.l) i.s).fst.price = n∧(zT (List.take (max i0 1) i.l) i.s).fst.qty = n_1∧(zT (List.take (max i0 1) i.l) i.s).fst.a.inst = n_2∧(zT (List.take (max i0 1) i.l) i.s).fst.a.side = n_3∧(zT (List.take (max i0 1) i.l) i.s).fst.b.inst = n_4∧(zT (List.take (max i0 1) i.l) i.s).fst.b.side = n_5∧∃ (I : Nat→Prop),∃ (μ : Nat→Nat),I i0∧∀ (i_1 : Nat),I i_1→cnd (decide ((↑i_1 : Int) < (↑(List.map zI i.l).length : Int))) ((0 ≤ (↑i_1 : Int)∧(↑i_1 : Int) < (↑(List.map zI i.l).length : Int))∧∃ (n : Int),∃ (n_6 : Int),∃ (n_7 : Int),∃ (n_8 : Int),∃ (n_9 : Int),∃ (n_10 : Int),zH (List.map zI i.l) (↑i_1 : Int).toNat 0 6 = some [D.v (.int .i64 n),D.v (.int .i64 n_6),D.v (.int .i64 n_7),D.v (.int .i64 n_8),D.v (.int .i64 n_9),D.v (.int .i64 n_10)]∧∃ (i_2 : I3'),i_2.side = i.s∧i_2.x = n∧i_2.y = (zT (List.take (max i_1 1) i.l) i.s).fst.price∧True∧∀ (o : Unit),True→cnd (btr i_2.side i_2.x i_2.y) (∃ (i' : Nat),(↑i' : Int) = IntKind.i64.wrap ((↑i_1 : Int) + 1)∧(zT (List.take (max i' 1) i.l) i.s).fst.price = n∧(zT (List.take (max i' 1) i.l) i.s).fst.qty = n_6∧(zT (List.take (max i' 1) i.l) i.s).fst.a.inst = n_7∧(zT (List.take (max i' 1) i.l) i.s).fst.a.side = n_8∧(zT (List.take (max i' 1) i.l) i.s).fst.b.inst = n_9∧(zT (List.take (max i' 1) i.l) i.s).fst.b.side = n_10∧I i'∧μ i' < μ i_1∧bM = bM) (∃ (i' : Nat),(↑i' : Int) = IntKind.i64.wrap ((↑i_1 : Int) + 1)∧(zT (List.take (max i' 1) i.l) i.s).fst.price = (zT (List.take (max i_1 1) i.l) i.s).fst.price∧(zT (List.take (max i' 1) i.l) i.s).fst.qty = (zT (List.take (max i_1 1) i.l) i.s).fst.qty∧(zT (List.take (max i' 1) i.l) i.s).fst.a.inst = (zT (List.take (max i_1 1) i.l) i.s).fst.a.inst∧(zT (List.take (max i' 1) i.l) i.s).fst.a.side = (zT (List.take (max i_1 1) i.l) i.s).fst.a.side∧(zT (List.take (max i' 1) i.l) i.s).fst.b.inst = (zT (List.take (max i_1 1) i.l) i.s).fst.b.inst∧(zT (List.take (max i' 1) i.l) i.s).fst.b.side = (zT (List.take (max i_1 1) i.l) i.s).fst.b.side∧I i'∧μ i' < μ i_1∧bM = bM)) (∃ (o : Unit),(zT i.l i.s).fst.price = (zT (List.take (max i_1 1) i.l) i.s).fst.price∧(zT i.l i.s).fst.qty = (zT (List.take (max i_1 1) i.l) i.s).fst.qty∧(zT i.l i.s).fst.a.inst = (zT (List.take (max i_1 1) i.l) i.s).fst.a.inst∧(zT i.l i.s).fst.a.side = (zT (List.take (max i_1 1) i.l) i.s).fst.a.side∧(zT i.l i.s).fst.b.inst = (zT (List.take (max i_1 1) i.l) i.s).fst.b.inst∧(zT i.l i.s).fst.b.side = (zT (List.take (max i_1 1) i.l) i.s).fst.b.side∧(zT i.l i.s).snd = true∧True)
@[reducible] def eU (i : BsI) : Prop := ∃ (o : Unit),(zT i.l i.s).fst.price = 0∧(zT i.l i.s).fst.qty = 0∧(zT i.l i.s).fst.a.inst = 0∧(zT i.l i.s).fst.a.side = 0∧(zT i.l i.s).fst.b.inst = 0∧(zT i.l i.s).fst.b.side = 0∧(zT i.l i.s).snd = false∧True
def zEg (i : BsI) : Prop :=
  cnd ((↑(List.map zI i.l).length : Int) == 0) (eU i) (cnd (i.s != 1) (cnd (i.s != 2) (eU i) (((0 : Int) ≤ (0 : Int)∧0 < (↑(List.map zI i.l).length : Int))∧sU i)) (((0 : Int) ≤ (0 : Int)∧0 < (↑(List.map zI i.l).length : Int))∧sU i))
theorem z4f (i : BsI) : zEg i = walk Try.prog ([(71,ibetterC)]) 0 ([]) (zYg i) [] Try.f49 (Try.f49.body.getD .skip) (bestQC.pat i) (bestQC.pre i) (bestQC.alts i) := by kernel_rfl
theorem zZu (hG : GOk Try.prog ([(71,ibetterC)])) (h : ∀ (i : BsI),bestQC.cnd i → zEg i) : bestQC.ok Try.prog 49 := zE mixed ([(71,ibetterC)]) hG 0 (fun (i : BsI) => []) (fun (i : BsI) => zYg i) [] Try.func49 (by kernel_rfl) (by kernel_rfl) (by kernel_rfl) (fun _ => by kernel_rfl) (fun (i : BsI) hc => Eq.mp (z4f i) (h i hc))
open Go Cv Go.Proofs
theorem zJe {l : List Quote} {q : Quote} (s : Int) (h : l[0]? = some q) : (zT (l.take (max 0 1)) s).1 = q := by
  cases l with
  | nil => simp at h
  | cons a l => simp at h; subst h; rfl
theorem zJb {l : List Quote} {j : Nat} {q : Quote} (s : Int) (h : l[j]? = some q) :
    (zT (l.take (max (j + 1) 1)) s).1 = if btr s q.price (zT (l.take (max j 1)) s).1.price then q else (zT (l.take (max j 1)) s).1 := by
  cases l with
  | nil => simp at h
  | cons a l =>
    cases j with
    | zero => simp at h; subst h; simp [zT]
    | succ m =>
      simp only [List.getElem?_cons_succ] at h
      rw [show max (m + 1 + 1) 1 = (m + 1) + 1 by omega,show max (m + 1) 1 = m + 1 by omega,List.take_succ_cons,List.take_succ_cons,List.take_add_one,h]
      simp only [zT,Option.toList_some,List.foldl_append]
      rfl
theorem zRk {l : List Quote} (s : Int) (h : l ≠ []) : (zT l s).2 = true := by
  cases l with
  | nil => exact absurd rfl h
  | cons a l => rfl
theorem z5u (i : BsI) (h : bestQC.cnd i) : zEg i := by
  obtain ⟨hs,hl⟩ : (i.s = 1 ∨ i.s = 2) ∧ i.l.length ≤ 1000000 := h
  unfold zEg sU eU
  simp only [List.length_map]
  refine Cv.cnd.mk (fun c => ?_) (fun c => ?_)
  · have e : i.l = [] := List.eq_nil_of_length_eq_zero (by have : (i.l.length : Int) = 0 := (by simpa using c); omega)
    rw [e]; (repeat' (first|exact rfl|exact trivial|assumption|apply And.intro|refine fun (_:Unit) (_:True)=>?_|refine Exists.intro () ?_|omega|(dsimp only;omega)))
  have h0 : 0 < i.l.length := by
    rcases Nat.eq_zero_or_pos i.l.length with h | h
    · rw [h] at c; exact absurd c (by decide)
    · exact h
  have hne : i.l ≠ [] := by intro e; rw [e] at h0; simp at h0
  have two := zRk i.s hne
  obtain ⟨q,hq⟩ := yC h0
  have b0 := zJe i.s hq
  have fin : (zT (i.l.take (max i.l.length 1)) i.s).1 = (zT i.l i.s).1 := by
    rw [List.take_of_length_le (by omega)]
  have step : ∀ j : Nat,j < i.l.length → ∀ x : Quote,i.l[j]? = some x → (btr i.s x.price (zT (i.l.take (max j 1)) i.s).1.price = true → (zT (i.l.take (max (j + 1) 1)) i.s).1 = x) ∧ (btr i.s x.price (zT (i.l.take (max j 1)) i.s).1.price = false → (zT (i.l.take (max (j + 1) 1)) i.s).1 = (zT (i.l.take (max j 1)) i.s).1) := fun j hj x hx => by
    have := zJb i.s hx
    constructor
    · intro e; rw [this,if_pos e]
    · intro e; rw [this,if_neg (by rw [e]; simp)]
  refine Cv.cnd.mk (fun c1 => Cv.cnd.mk (fun c2 => ?_) (fun c2 => ?_)) (fun c1 => ?_)
  · exfalso
    have c1 : i.s ≠ 1 := by simpa using c1
    have c2 : i.s ≠ 2 := by simpa using c2
    omega
  all_goals
    refine ⟨⟨by omega,by omega⟩,q.price,q.qty,q.a.inst,q.a.side,q.b.inst,q.b.side,elA hq (by simp [zI]) rfl,0,?_⟩
    rw [b0]
    (repeat' (first|exact rfl|exact trivial|assumption|apply And.intro|refine fun (_:Unit) (_:True)=>?_|refine Exists.intro () ?_|omega|(dsimp only;omega)))
    refine ⟨fun j => j ≤ i.l.length,fun j => i.l.length - j,by omega,fun j hj => zU (fun hlt => ?_) (fun hlt => ?_)⟩
    · have hj' : j < i.l.length := by omega
      obtain ⟨x,hx⟩ := yC hj'
      obtain ⟨st,sf⟩ := step j hj' x hx
      refine ⟨⟨by omega,by omega⟩,x.price,x.qty,x.a.inst,x.a.side,x.b.inst,x.b.side,elA hx (by simp [zI]) rfl,⟨i.s,x.price,_⟩,rfl,rfl,rfl,trivial,fun _ _ => Cv.cnd.mk (fun e => ⟨j + 1,by rw [w64 (by omega)]; rfl,?_⟩) (fun e => ⟨j + 1,by rw [w64 (by omega)]; rfl,?_⟩)⟩
      · rw [st e]; (repeat' (first|exact rfl|exact trivial|assumption|apply And.intro|refine fun (_:Unit) (_:True)=>?_|refine Exists.intro () ?_|omega|(dsimp only;omega)))
      · rw [sf e]; (repeat' (first|exact rfl|exact trivial|assumption|apply And.intro|refine fun (_:Unit) (_:True)=>?_|refine Exists.intro () ?_|omega|(dsimp only;omega)))
    · have hj : j ≤ i.l.length := hj
      obtain rfl : j = i.l.length := by omega
      rw [fin,two]; (repeat' (first|exact rfl|exact trivial|assumption|apply And.intro|refine fun (_:Unit) (_:True)=>?_|refine Exists.intro () ?_|omega|(dsimp only;omega)))
theorem zSz : bestQC.ok Try.prog 49 := zZu (gokc zLc gok0) z5u
theorem bC (tops : List Top) (a b : Leg) (less : Bool) : (mkq tops a b less).length ≤ 1 := by
  unfold mkq
  dsimp only
  split <;> split <;> simp
theorem zEc {α : Type} {f : Nat → List α} (h : ∀ k,(f k).length ≤ 1) : ∀ n,((List.range n).flatMap f).length ≤ n
  | 0 => by simp
  | n + 1 => by
    rw [List.range_succ,List.flatMap_append,List.length_append]
    have := zEc h n
    have := h n
    simp only [List.flatMap_cons,List.flatMap_nil,List.append_nil]
    omega
theorem c0 (i : jY) (s : Int) (k : Nat) : (xF i s k).length ≤ k := zEc (fun _ => bC _ _ _ _) k
theorem gU (i : jY) (s : Int) (k : Nat) : (xE i s k).length ≤ k := zEc (fun _ => bC _ _ _ _) k
theorem zHl (i : jY) (s : Int) : (xI i s).length ≤ 100 := by
  unfold xI
  split
  · simp
  · rename_i h
    have hc := j1 i.p
    have m6 := (xL (fF (p := i.p) (by omega))).m6
    split
    · rw [List.length_map]
      have := bC i.tops ⟨(i.p.legs i.inst).2.1,3 - s⟩ ⟨(i.p.legs i.inst).1,s⟩ true
      have e : (zY i s).length ≤ 1 := this
      omega
    · rw [List.length_append]
      have h1 := c0 i s (i.p.months.length - (i.inst.toNat + 1))
      have h2 := gU i s i.inst.toNat
      omega
theorem z1o (j : dY) (h : quotesC.cnd j) : zEq j := by
  obtain ⟨hp,ht,hr⟩ : j.i.p.small ∧ jA j.i.tops := h
  obtain ⟨h1,h2,h3⟩ := hp
  have hl := zHl j.i (zB j.s)
  refine ⟨j,?_⟩
  simp only [List.length_map]
  (repeat' (first|exact rfl|exact trivial|assumption|apply And.intro|refine fun (_:Unit) (_:True)=>?_|refine Exists.intro () ?_|omega|(dsimp only;omega)))
  refine ⟨0,rfl,rfl,fun k => k ≤ (xI j.i (zB j.s)).length,fun k => (xI j.i (zB j.s)).length - k,by omega,fun k hk => zU (fun hlt => ?_) (fun hlt => ?_)⟩
  · have hk' : k < (xI j.i (zB j.s)).length := by omega
    obtain ⟨q,hq⟩ := yC hk'
    have hf : (List.filter (fun q => decide (j.i.p.price j.i.inst q.price = 0)) (List.take k (xI j.i (zB j.s)))).length ≤ 100 := by
      have := List.length_filter_le (fun q : Quote => decide (j.i.p.price j.i.inst q.price = 0)) (List.take k (xI j.i (zB j.s)))
      rw [List.length_take] at this
      omega
    refine ⟨⟨by omega,by omega⟩,q.price,q.qty,q.a.inst,q.a.side,q.b.inst,q.b.side,elA hq (by simp [zI]) rfl,⟨j.i.p,j.i.inst,q.price⟩,?_⟩
    (repeat' (first|exact rfl|exact trivial|assumption|apply And.intro|refine fun (_:Unit) (_:True)=>?_|refine Exists.intro () ?_|omega|(dsimp only;omega)))
    refine Cv.cnd.mk (fun c => ⟨by omega,k + 1,by rw [w64 (by omega)]; rfl,?_⟩) (fun c => ⟨k + 1,by rw [w64 (by omega)]; rfl,?_⟩)
    · have c : j.i.p.price j.i.inst q.price = 0 := by simpa using c
      rw [List.take_add_one,hq,Option.toList_some,List.filter_append,List.filter_cons_of_pos (by simpa using c),List.map_append]
      (repeat' (first|exact rfl|exact trivial|assumption|apply And.intro|refine fun (_:Unit) (_:True)=>?_|refine Exists.intro () ?_|omega|(dsimp only;omega)))
    · have c : ¬ j.i.p.price j.i.inst q.price = 0 := by simpa using c
      rw [List.take_add_one,hq,Option.toList_some,List.filter_append,List.filter_cons_of_neg (by simpa using c),List.filter_nil,List.append_nil]
      (repeat' (first|exact rfl|exact trivial|assumption|apply And.intro|refine fun (_:Unit) (_:True)=>?_|refine Exists.intro () ?_|omega|(dsimp only;omega)))
  · have hk : k ≤ (xI j.i (zB j.s)).length := hk
    obtain rfl : k = (xI j.i (zB j.s)).length := by omega
    rw [List.take_of_length_le (Nat.le_refl _)]
    (repeat' (first|exact rfl|exact trivial|assumption|apply And.intro|refine fun (_:Unit) (_:True)=>?_|refine Exists.intro () ?_|omega|(dsimp only;omega)))
end Sx
