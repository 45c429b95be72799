/- Texts of ours, one behind the other: a walk that the kernel reckons, and contracts of functions. No condition. -/
import Derived.Test.YtmkgajpdangkaaaRows
import Derived.Test.YtmkgajpdangkaaaM3
namespace Sx
set_option linter.unusedVariables false
open Go Cv Go.Proofs
theorem mixed : Try.prog.follows .mixedOrders = true := by kernel_rfl
structure Lv where
  price : Int
  qty : Int
  count : Int
def lvV (l : Lv) : V := .agg [zF l.price,zF l.qty,zF l.count]
open Go Cv Go.Proofs
def sb (l : List UInt8) : ByteArray := ⟨l.toArray⟩
@[reducible] def sV (l : List UInt8) : V := .d (.v (.string (sb l)))
def tP (l : List UInt8) : Nat × Nat := Utf8.decode (sb l) 0
def dM : Nat → Nat → List UInt8 → List (Nat × Nat)
  | 0,_,_ => []
  | k + 1,p,l => match l with
    | [] => []
    | _ => (p,(tP l).1) :: dM k (p + (tP l).2) (l.drop (tP l).2)
def j7 (s : List UInt8) (p : Nat) : List (Nat × Nat) := dM (s.length - p) p (s.drop p)
def jA (s : List UInt8) : List Nat := (j7 s 0).map (·.2)
def countC : Con := con1 (List UInt8) (fun s => [sV s]) (fun _ => []) (fun s => s.length ≤ 1099511627776) (fun s => zF (jA s).length) (fun _ => [])
def zUr (s : List UInt8) : List SAnn := [{ ι := Nat × Nat,slots := fun x => [(3,zF x.2),(5,.nm 0 0)],rows := fun x => [.iter (sb s) x.1] }]
def jB (r : Nat) : Bool := (decide (65 ≤ r) && decide (r ≤ 90)) || (decide (913 ≤ r) && decide (r ≤ 937) && decide (r ≠ 930))
def qO (s : List UInt8) : Bool := (jA s).all jB && decide (s ≠ []) && decide ((jA s).length ≤ 4)
def symC : Con := con1 (List UInt8) (fun s => [sV s]) (fun _ => []) (fun s => s.length ≤ 1099511627776) (fun s => yG (qO s)) (fun _ => [])
def z9s (s : List UInt8) : List SAnn := [{ ι := Nat,slots := fun x => [(7,.nm 0 0)],rows := fun x => [.iter (sb s) x] }]
def iE (l : List Int) : List (List D) := l.map fun n => [.v (.int .i64 n)]
@[reducible] def iV (l : List Int) : V := roV 1 (iE l)
structure Prd where
  code : List UInt8
  months : List Int
  tick : Int
  low : Int
  high : Int
  wide : Int
  rule : Int
  top : Int
  least : Int
  part : Int
  settle : List Int
  deriving DecidableEq
@[reducible] def Prd.cells (p : Prd) : List V := [sV p.code,iV p.months,zF p.tick,zF p.low,zF p.high,zF p.wide,zF p.rule,zF p.top,zF p.least,zF p.part,iV p.settle]
@[reducible] def prdV (p : Prd) : V := .agg p.cells
@[reducible] def Prd.small (p : Prd) : Prop := p.code.length ≤ 1099511627776 ∧ p.months.length ≤ 1099511627776 ∧ p.settle.length ≤ 1099511627776
def xM (l : List Int) (k : Nat) : Bool := decide (0 ≤ l.getD k 0) && decide (l.getD k 0 ≤ 1199) && (decide (k = 0) || decide (l.getD (k - 1) 0 < l.getD k 0))
def yT (l : List Int) : Bool := (List.range l.length).all (xM l) && decide (2 ≤ l.length) && decide (l.length ≤ 6)
def monthsC : Con := con1 (List Int) (fun l => [iV l]) (fun _ => []) (fun l => l.length ≤ 1099511627776) (fun l => yG (yT l)) (fun _ => [])
def zLu : List SAnn := [{ ι := Nat,slots := fun j => [(7,zF j)],rows := fun _ => [] }]
structure yCc where
  l : List Int
def hD (l : List Int) : Int := l.tail.foldl min (l.headD 0)
def gR (l : List Int) : Int := l.tail.foldl max (l.headD 0)
def minC : Con := con1 (List Int) (fun l => [iV l]) (fun _ => []) (fun l => 0 < l.length ∧ l.length ≤ 1099511627776) (fun l => zF (hD l)) (fun _ => [])
def maxC : Con := con1 (List Int) (fun l => [iV l]) (fun _ => []) (fun l => 0 < l.length ∧ l.length ≤ 1099511627776) (fun l => zF (gR l)) (fun _ => [])
def z8o (l : List Int) : List SAnn := [{ ι := Nat,slots := fun j => [(3,zF (hD (l.take j))),(4,zF j)],rows := fun _ => [] }]
def yAo (l : List Int) : List SAnn := [{ ι := Nat,slots := fun j => [(3,zF (gR (l.take j))),(4,zF j)],rows := fun _ => [] }]
set_option maxRecDepth 100000
open Go Cv Go.Proofs
def zAv (s : List UInt8) : Prop :=
  ∃ (i0 : Nat × Nat),(↑i0.snd : Int) = 0∧sb s = sb s∧i0.fst = 0∧∃ (I : Nat × Nat→Prop),∃ (μ : Nat × Nat→Nat),I i0∧∀ (i : Nat × Nat),I i→cnd (i.fst.blt (sb s).size) (∃ (i' : Nat × Nat),(↑i'.snd : Int) = IntKind.i64.wrap ((↑i.snd : Int) + 1)∧sb s = sb s∧i'.fst = i.fst + (Utf8.decode (sb s) i.fst).snd∧I i'∧μ i' < μ i∧True) (∃ (o : Unit),(↑(jA s).length : Int) = (↑i.snd : Int)∧True)
theorem zYy (s : List UInt8) : zAv s = walk Try.prog ([]) 0 ([]) (zUr s) [] Try.f61 (Try.f61.body.getD .skip) (countC.pat s) (countC.pre s) (countC.alts s) := by kernel_rfl
theorem z3c (hG : GOk Try.prog ([])) (h : ∀ (s : List UInt8),countC.cnd s → zAv s) : countC.ok Try.prog 61 := zE mixed ([]) hG 0 (fun (s : List UInt8) => []) (fun (s : List UInt8) => zUr s) [] Try.func61 (by kernel_rfl) (by kernel_rfl) (by kernel_rfl) (fun _ => by kernel_rfl) (fun (s : List UInt8) hc => Eq.mp (zYy s) (h s hc))
def zZa (s : List UInt8) : Prop :=
  ∃ (i0 : Nat),sb s = sb s∧i0 = 0∧∃ (I : Nat→Prop),∃ (μ : Nat→Nat),I i0∧∀ (i : Nat),I i→cnd (i.blt (sb s).size) (cnd (decide ((↑(Utf8.decode (sb s) i).fst : Int) ≥ 65)) (cnd (decide ((↑(Utf8.decode (sb s) i).fst : Int) ≤ 90)) (∃ (i' : Nat),sb s = sb s∧i' = i + (Utf8.decode (sb s) i).snd∧I i'∧μ i' < μ i∧True) (cnd (decide ((↑(Utf8.decode (sb s) i).fst : Int) ≥ 913)) (cnd (decide ((↑(Utf8.decode (sb s) i).fst : Int) ≤ 937)) (cnd (!(↑(Utf8.decode (sb s) i).fst : Int) != 930) (∃ (o : Unit),qO s = false∧True) (∃ (i' : Nat),sb s = sb s∧i' = i + (Utf8.decode (sb s) i).snd∧I i'∧μ i' < μ i∧True)) (∃ (o : Unit),qO s = false∧True)) (∃ (o : Unit),qO s = false∧True))) (cnd (decide ((↑(Utf8.decode (sb s) i).fst : Int) ≥ 913)) (cnd (decide ((↑(Utf8.decode (sb s) i).fst : Int) ≤ 937)) (cnd (!(↑(Utf8.decode (sb s) i).fst : Int) != 930) (∃ (o : Unit),qO s = false∧True) (∃ (i' : Nat),sb s = sb s∧i' = i + (Utf8.decode (sb s) i).snd∧I i'∧μ i' < μ i∧True)) (∃ (o : Unit),qO s = false∧True)) (∃ (o : Unit),qO s = false∧True))) (cnd (!(sb s).toList == (ByteArray.mk #[]).toList) (∃ (i : List UInt8),sb i = sb s∧i.length ≤ 1099511627776∧∀ (o : Unit),True→∃ (o : Unit),qO s = decide ((↑(jA i).length : Int) ≤ 4)∧True) (∃ (o : Unit),qO s = false∧True))
theorem z9w (s : List UInt8) : zZa s = walk Try.prog ([(61,countC)]) 0 ([]) (z9s s) [] Try.f38 (Try.f38.body.getD .skip) (symC.pat s) (symC.pre s) (symC.alts s) := by kernel_rfl
theorem z8t (hG : GOk Try.prog ([(61,countC)])) (h : ∀ (s : List UInt8),symC.cnd s → zZa s) : symC.ok Try.prog 38 := zE mixed ([(61,countC)]) hG 0 (fun (s : List UInt8) => []) (fun (s : List UInt8) => z9s s) [] Try.func38 (by kernel_rfl) (by kernel_rfl) (by kernel_rfl) (fun _ => by kernel_rfl) (fun (s : List UInt8) hc => Eq.mp (z9w s) (h s hc))
def pP (l : List Int) : Prop :=
  ∃ (i0 : Nat),(↑i0 : Int) = 0∧∃ (I : Nat→Prop),∃ (μ : Nat→Nat),I i0∧∀ (i : Nat),I i→cnd (decide ((↑i : Int) < (↑(iE l).length : Int))) ((0 ≤ (↑i : Int)∧(↑i : Int) < (↑(iE l).length : Int))∧∃ (n : Int),zG (iE l) (↑i : Int).toNat 0 1 = some [D.v (.int .i64 n)]∧cnd (decide (n < 0)) (∃ (o : Unit),yT l = false∧True) (cnd (decide (n > 1199)) (∃ (o : Unit),yT l = false∧True) (cnd (decide ((↑i : Int) > 0)) ((0 ≤ IntKind.i64.wrap ((↑i : Int) - 1)∧IntKind.i64.wrap ((↑i : Int) - 1) < (↑(iE l).length : Int))∧∃ (n_1 : Int),zG (iE l) (IntKind.i64.wrap ((↑i : Int) - 1)).toNat 0 1 = some [D.v (.int .i64 n_1)]∧cnd (decide (n_1 ≥ n)) (∃ (o : Unit),yT l = false∧True) (∃ (i' : Nat),(↑i' : Int) = IntKind.i64.wrap ((↑i : Int) + 1)∧I i'∧μ i' < μ i∧True)) (∃ (i' : Nat),(↑i' : Int) = IntKind.i64.wrap ((↑i : Int) + 1)∧I i'∧μ i' < μ i∧True)))) (cnd (decide ((↑(iE l).length : Int) ≥ 2)) (∃ (o : Unit),yT l = decide ((↑(iE l).length : Int) ≤ 6)∧True) (∃ (o : Unit),yT l = false∧True))
theorem zXa (l : List Int) : pP l = walk Try.prog ([]) 0 ([]) (zLu) [] Try.f39 (Try.f39.body.getD .skip) (monthsC.pat l) (monthsC.pre l) (monthsC.alts l) := by kernel_rfl
theorem zTb (hG : GOk Try.prog ([])) (h : ∀ (l : List Int),monthsC.cnd l → pP l) : monthsC.ok Try.prog 39 := zE mixed ([]) hG 0 (fun (l : List Int) => []) (fun (l : List Int) => zLu) [] Try.func39 (by kernel_rfl) (by kernel_rfl) (by kernel_rfl) (fun _ => by kernel_rfl) (fun (l : List Int) hc => Eq.mp (zXa l) (h l hc))
def zYf (l : List Int) : Prop :=
  cnd (decide ((↑(iE l).length : Int) < 1)) False (((0 : Int) ≤ (0 : Int)∧0 < (↑(iE l).length : Int))∧∃ (n : Int),zG (iE l) (Int.toNat 0) 0 1 = some [D.v (.int .i64 n)]∧∃ (i0 : Nat),hD (List.take i0 l) = n∧(↑i0 : Int) = 1∧∃ (I : Nat→Prop),∃ (μ : Nat→Nat),I i0∧∀ (i : Nat),I i→cnd (decide ((↑i : Int) < (↑(iE l).length : Int))) ((0 ≤ (↑i : Int)∧(↑i : Int) < (↑(iE l).length : Int))∧∃ (n : Int),zG (iE l) (↑i : Int).toNat 0 1 = some [D.v (.int .i64 n)]∧∃ (i' : Nat),hD (List.take i' l) = min (hD (List.take i l)) n∧(↑i' : Int) = IntKind.i64.wrap ((↑i : Int) + 1)∧I i'∧μ i' < μ i∧True) (∃ (o : Unit),hD l = hD (List.take i l)∧True))
theorem z8p (l : List Int) : zYf l = walk Try.prog ([]) 0 ([]) (z8o l) [] Try.f41 (Try.f41.body.getD .skip) (minC.pat l) (minC.pre l) (minC.alts l) := by kernel_rfl
theorem yAh (hG : GOk Try.prog ([])) (h : ∀ (l : List Int),minC.cnd l → zYf l) : minC.ok Try.prog 41 := zE mixed ([]) hG 0 (fun (l : List Int) => []) (fun (l : List Int) => z8o l) [] Try.func41 (by kernel_rfl) (by kernel_rfl) (by kernel_rfl) (fun _ => by kernel_rfl) (fun (l : List Int) hc => Eq.mp (z8p l) (h l hc))
def zXu (l : List Int) : Prop :=
  cnd (decide ((↑(iE l).length : Int) < 1)) False (((0 : Int) ≤ (0 : Int)∧0 < (↑(iE l).length : Int))∧∃ (n : Int),zG (iE l) (Int.toNat 0) 0 1 = some [D.v (.int .i64 n)]∧∃ (i0 : Nat),gR (List.take i0 l) = n∧(↑i0 : Int) = 1∧∃ (I : Nat→Prop),∃ (μ : Nat→Nat),I i0∧∀ (i : Nat),I i→cnd (decide ((↑i : Int) < (↑(iE l).length : Int))) ((0 ≤ (↑i : Int)∧(↑i : Int) < (↑(iE l).length : Int))∧∃ (n : Int),zG (iE l) (↑i : Int).toNat 0 1 = some [D.v (.int .i64 n)]∧∃ (i' : Nat),(gR (List.take i' l) = if n > gR (List.take i l) then n else gR (List.take i l))∧(↑i' : Int) = IntKind.i64.wrap ((↑i : Int) + 1)∧I i'∧μ i' < μ i∧True) (∃ (o : Unit),gR l = gR (List.take i l)∧True))
theorem z9z (l : List Int) : zXu l = walk Try.prog ([]) 0 ([]) (yAo l) [] Try.f42 (Try.f42.body.getD .skip) (maxC.pat l) (maxC.pre l) (maxC.alts l) := by kernel_rfl
theorem z8m (hG : GOk Try.prog ([])) (h : ∀ (l : List Int),maxC.cnd l → zXu l) : maxC.ok Try.prog 42 := zE mixed ([]) hG 0 (fun (l : List Int) => []) (fun (l : List Int) => yAo l) [] Try.func42 (by kernel_rfl) (by kernel_rfl) (by kernel_rfl) (fun _ => by kernel_rfl) (fun (l : List Int) hc => Eq.mp (z9z l) (h l hc))
set_option linter.unusedSimpArgs false
open Go Cv Go.Proofs
@[simp] theorem zLh (s : List UInt8) : (sb s).size = s.length := by simp [sb,ByteArray.size]
theorem mC (s : List UInt8) : (sb s).toList = s := by rw [ByteArray.toList_eq]; rfl
theorem z7k (s : List UInt8) (p k : Nat) : (sb s).get! (p + k) = (sb (s.drop p)).get! (0 + k) := by
  simp only [sb,ByteArray.get!,Nat.zero_add]
  simp only [List.getElem!_toArray,List.getElem!_eq_getElem?_getD,List.getElem?_drop]
theorem m3 (s : List UInt8) (p : Nat) : Utf8.decode (sb s) p = tP (s.drop p) := by
  have h (k : Nat) : (decide (p + k < (sb s).size)) = decide (0 + k < (sb (s.drop p)).size) := by
    simp only [zLh,List.length_drop]
    by_cases h : p + k < s.length
    · rw [decide_eq_true h,decide_eq_true (by omega)]
    · rw [decide_eq_false h,decide_eq_false (by omega)]
  unfold tP Utf8.decode
  simp only [z7k s p,h]
theorem uS (s : List UInt8) {p : Nat} (h : p < s.length) : 1 ≤ (Utf8.decode (sb s) p).2 ∧ p + (Utf8.decode (sb s) p).2 ≤ s.length := by
  unfold Utf8.decode
  simp only [zLh,Bool.and_eq_true,decide_eq_true_eq]
  split
  · exact ⟨by simp,by simp; omega⟩
  split
  · rename_i h1
    split
    · exact ⟨by simp,by simp; omega⟩
    · exact ⟨by simp,by simp; omega⟩
  split
  · rename_i h1
    split
    · exact ⟨by simp,by simp; omega⟩
    · exact ⟨by simp,by simp; omega⟩
  split
  · rename_i h1
    split
    · exact ⟨by simp,by simp; omega⟩
    · exact ⟨by simp,by simp; omega⟩
  · exact ⟨by simp,by simp; omega⟩
theorem z4l {l : List UInt8} (h : l ≠ []) : 1 ≤ (tP l).2 ∧ (tP l).2 ≤ l.length := by
  have := uS l (p := 0) (by cases l <;> simp_all)
  rw [tP]; omega
theorem uY : ∀ (k : Nat) (p : Nat) (l : List UInt8),l.length ≤ k → dM k p l = dM l.length p l
  | 0,p,l,h => by
    have : l = [] := List.eq_nil_of_length_eq_zero (by omega)
    subst this; rfl
  | k + 1,p,[],h => rfl
  | k + 1,p,b :: l,h => by
    have hw := z4l (l := b :: l) (by simp)
    have hl : ((b :: l).drop (tP (b :: l)).2).length ≤ l.length := by rw [List.length_drop,List.length_cons]; omega
    rw [List.length_cons]
    simp only [dM]
    rw [uY k _ _ (by rw [List.length_cons] at h; omega),uY l.length _ _ hl]
theorem vK {s : List UInt8} {p : Nat} (h : s.length ≤ p) : j7 s p = [] := by
  rw [j7,show s.length - p = 0 by omega]; rfl
theorem jR {s : List UInt8} {p : Nat} (h : p < s.length) : j7 s p = (p,(Utf8.decode (sb s) p).1) :: j7 s (p + (Utf8.decode (sb s) p).2) := by
  obtain ⟨k,hk⟩ : ∃ k,s.length - p = k + 1 := ⟨s.length - p - 1,by omega⟩
  have hw := uS s h
  obtain ⟨b,l,hb⟩ : ∃ b l,s.drop p = b :: l := by
    cases hd : s.drop p with
    | nil => rw [List.drop_eq_nil_iff] at hd; omega
    | cons b l => exact ⟨b,l,rfl⟩
  have hlen : (b :: l).length = s.length - p := by rw [← hb,List.length_drop]
  rw [j7,hk,hb,m3,hb,j7]
  rw [m3,hb] at hw
  simp only [dM]
  have e : (b :: l).drop (tP (b :: l)).2 = s.drop (p + (tP (b :: l)).2) := by rw [← hb,List.drop_drop]
  rw [e,uY k _ _ (by rw [List.length_drop]; omega),List.length_drop]
theorem sY (s : List UInt8) : ∀ (k p : Nat),s.length - p ≤ k → (j7 s p).length ≤ s.length - p
  | 0,p,h => by rw [vK (by omega)]; simp
  | k + 1,p,h => by
    by_cases hp : p < s.length
    · have hw := uS s hp
      rw [jR hp,List.length_cons]
      have := sY s k (p + (Utf8.decode (sb s) p).2) (by omega)
      omega
    · rw [vK (by omega)]; simp
theorem lU (s : List UInt8) : (jA s).length ≤ s.length := by
  rw [jA,List.length_map]
  have := sY s s.length 0 (by omega)
  omega
theorem zWa {a b : Nat} (h : Nat.blt a b = false) : b ≤ a := by
  rcases Nat.lt_or_ge a b with h1 | h1
  · rw [show Nat.blt a b = true by rw [Nat.blt_eq]; exact h1] at h; cases h
  · exact h1
theorem zSs : (ByteArray.mk #[]).toList = [] := mC []
theorem z6u (s : List UInt8) (h : countC.cnd s) : zAv s := by
  have h : s.length ≤ 1099511627776 := h
  have hr := lU s
  unfold zAv
  refine ⟨(0,0),rfl,rfl,rfl,fun x => x.1 ≤ s.length ∧ x.2 + (j7 s x.1).length = (jA s).length,fun x => s.length - x.1,⟨by omega,by rw [jA,List.length_map]; simp⟩,?_⟩
  rintro ⟨p,n⟩ ⟨h1,h2⟩
  dsimp only at h1 h2 ⊢
  refine Cv.cnd.mk (fun hp => ?_) (fun hp => ?_)
  · have hp : p < s.length := by simpa [Nat.blt_eq] using hp
    have hw := uS s hp
    rw [jR hp,List.length_cons] at h2
    refine ⟨(p + (Utf8.decode (sb s) p).2,n + 1),?_,rfl,rfl,⟨hw.2,by (first | omega | (dsimp only; omega))⟩,by (first | omega | (dsimp only; omega)),trivial⟩
    rw [w64 (by omega)]; rfl
  · have hp : s.length ≤ p := by have := zWa hp; simpa using this
    rw [vK hp] at h2
    exact ⟨(),by rw [← h2]; rfl,trivial⟩
theorem zUa : countC.ok Try.prog 61 := z3c gok0 z6u
theorem yBk (s : List UInt8) (h : symC.cnd s) : zZa s := by
  have h : s.length ≤ 1099511627776 := h
  unfold zZa
  refine ⟨0,rfl,rfl,fun p => p ≤ s.length ∧ (jA s).all jB = (j7 s p).all fun x => jB x.2,fun p => s.length - p,⟨by omega,by rw [jA,List.all_map]; rfl⟩,?_⟩
  rintro p ⟨h1,h2⟩
  refine Cv.cnd.mk (fun hp => ?_) (fun hp => ?_)
  · have hp : p < s.length := by simpa [Nat.blt_eq] using hp
    have hw := uS s hp
    rw [jR hp,List.all_cons] at h2
    generalize hc : (Utf8.decode (sb s) p).1 = c at h2 ⊢
    generalize hww : (Utf8.decode (sb s) p).2 = w at h2 hw ⊢
    dsimp only at h2
    have bad : jB c = false → ∃ (o : Unit),qO s = false ∧ True := fun e => ⟨(),by rw [qO,h2,e]; rfl,trivial⟩
    have good : jB c = true → ∃ i' : Nat,sb s = sb s ∧ i' = p + w ∧ (i' ≤ s.length ∧ (jA s).all jB = (j7 s i').all fun x => jB x.2) ∧ s.length - i' < s.length - p ∧ True := fun e => ⟨p + w,rfl,rfl,⟨hw.2,by rw [h2,e]; rfl⟩,by omega,trivial⟩
    refine zT (fun c1 => zT (fun c2 => ?_) (fun c2 => zT (fun c3 => zT (fun c4 => Cv.cnd.mk (fun c5 => ?_) (fun c5 => ?_)) (fun c4 => ?_)) (fun c3 => ?_))) (fun c1 => zT (fun c3 => zT (fun c4 => Cv.cnd.mk (fun c5 => ?_) (fun c5 => ?_)) (fun c4 => ?_)) (fun c3 => ?_))
    all_goals first | (refine good ?_; simp [jB] at *; omega) | (refine bad ?_; simp [jB] at *; omega)
  · have hp : s.length ≤ p := by have := zWa hp; simpa using this
    rw [vK hp] at h2
    have h2 : (jA s).all jB = true := h2
    refine Cv.cnd.mk (fun e => ⟨s,rfl,h,fun _ _ => ⟨(),?_,trivial⟩⟩) (fun e => ⟨(),?_,trivial⟩)
    · rw [mC,zSs] at e
      have : s ≠ [] := by simpa using e
      rw [qO,h2,decide_eq_true this]
      simp only [Bool.true_and]
      congr 1
      simp only [eq_iff_iff]; omega
    · have : s = [] := by
        rw [mC,zSs] at e
        simpa using e
      rw [qO,this]; rfl
theorem z7q : symC.ok Try.prog 38 := z8t (gokc zUa gok0) yBk
@[simp] theorem yU (l : List Int) : (iE l).length = l.length := by simp [iE]
theorem elI {l : List Int} {k : Nat} {n : Int} (h : l[k]? = some n) : zG (iE l) k 0 1 = some [D.v (.int .i64 n)] := by
  simp [zG,iE,h]; rfl
theorem z9 {α : Type} {l : List α} {i : Nat} (h : i < l.length) : ∃ x,l[i]? = some x := ⟨l[i],List.getElem?_eq_getElem h⟩
theorem zAj {n k : Nat} {f : Nat → Bool} (hk : k < n) (h : f k = false) : (List.range n).all f = false := by
  cases hh : (List.range n).all f
  · rfl
  · rw [List.all_eq_true] at hh
    rw [hh k (by simpa using hk)] at h; cases h
theorem zGd {n : Nat} {f : Nat → Bool} (h : ∀ k < n,f k = true) : (List.range n).all f = true := by
  rw [List.all_eq_true]; intro k hk; exact h k (by simpa using hk)
theorem zYw (l : List Int) (h : monthsC.cnd l) : pP l := by
  have h : l.length ≤ 1099511627776 := h
  unfold pP
  simp only [yU]
  refine ⟨0,rfl,fun j => j ≤ l.length ∧ ∀ k < j,xM l k = true,fun j => l.length - j,⟨by omega,fun k hk => by omega⟩,?_⟩
  rintro j ⟨h1,h2⟩
  have bad : j < l.length → xM l j = false → ∃ (o : Unit),yT l = false ∧ True := fun hj e => ⟨(),by rw [yT,zAj hj e]; rfl,trivial⟩
  have good : j < l.length → xM l j = true → ∃ i' : Nat,(i' : Int) = IntKind.i64.wrap ((j : Int) + 1) ∧ (i' ≤ l.length ∧ ∀ k < i',xM l k = true) ∧ l.length - i' < l.length - j ∧ True := fun hj e => ⟨j + 1,by rw [w64 (by omega)]; rfl,⟨by omega,fun k hk => by
    rcases Nat.lt_or_ge k j with hk' | hk'
    · exact h2 k hk'
    · obtain rfl : k = j := by omega
      exact e⟩,by omega,trivial⟩
  refine zT (fun hj => ?_) (fun hj => ?_)
  · have hj : j < l.length := by omega
    obtain ⟨n,hn⟩ := z9 hj
    have hg : l.getD j 0 = n := by simp [hn]
    refine ⟨⟨by omega,by omega⟩,n,elI hn,zT (fun c1 => bad hj (by simp [xM,hn]; omega)) (fun c1 => zT (fun c2 => bad hj (by simp [xM,hn]; omega)) (fun c2 => zT (fun c3 => ?_) (fun c3 => good hj ?_)))⟩
    · have e : IntKind.i64.wrap ((j : Int) - 1) = ((j - 1 : Nat) : Int) := by rw [w64 (by omega)]; omega
      obtain ⟨m,hm⟩ := z9 (l := l) (i := j - 1) (by omega)
      rw [e]
      refine ⟨⟨by omega,by omega⟩,m,elI hm,zT (fun c4 => bad hj ?_) (fun c4 => good hj ?_)⟩
      · simp [xM,hn,hm]; omega
      · simp [xM,hn,hm]; omega
    · simp [xM,hn]; omega
  · have e : (List.range l.length).all (xM l) = true := zGd fun k hk => h2 k (by omega)
    refine zT (fun c => ⟨(),?_,trivial⟩) (fun c => ⟨(),?_,trivial⟩)
    · rw [yT,e,decide_eq_true (show 2 ≤ l.length by omega)]
      simp; omega
    · rw [yT,decide_eq_false (show ¬ 2 ≤ l.length by omega)]; simp
theorem zQp : monthsC.ok Try.prog 39 := zTb gok0 zYw
theorem mL {f : Int → Int → Int} {l : List Int} {j : Nat} {n : Int} (h : l[j + 1]? = some n) : (l.take (j + 2)).tail.foldl f ((l.take (j + 2)).headD 0) = f ((l.take (j + 1)).tail.foldl f ((l.take (j + 1)).headD 0)) n := by
  cases l with
  | nil => simp at h
  | cons a l =>
    simp only [List.getElem?_cons_succ] at h
    simp only [List.take_succ_cons,List.tail_cons,List.headD_cons]
    rw [List.take_add_one,h,List.foldl_append]; rfl
theorem zFg {l : List Int} {n : Int} (h : l[0]? = some n) (f : Int → Int → Int) : (l.take 1).tail.foldl f ((l.take 1).headD 0) = n := by
  cases l with
  | nil => simp at h
  | cons a l => simpa using h
theorem yBo (l : List Int) (h : minC.cnd l) : zYf l := by
  obtain ⟨h0,h⟩ : 0 < l.length ∧ l.length ≤ 1099511627776 := h
  unfold zYf
  simp only [yU]
  obtain ⟨n,hn⟩ := z9 h0
  refine zT (fun c => by omega) (fun c => ⟨⟨by omega,by omega⟩,n,elI hn,1,zFg hn min,rfl,fun j => 1 ≤ j ∧ j ≤ l.length,fun j => l.length - j,⟨by omega,by omega⟩,?_⟩)
  rintro j ⟨h1,h2⟩
  refine zT (fun hj => ?_) (fun hj => ⟨(),?_,trivial⟩)
  · obtain ⟨m,hm⟩ := z9 (l := l) (i := j) (by omega)
    refine ⟨⟨by omega,by omega⟩,m,elI hm,j + 1,?_,?_,⟨by omega,by omega⟩,by (first | omega | (dsimp only; omega)),trivial⟩
    · obtain ⟨k,rfl⟩ : ∃ k,j = k + 1 := ⟨j - 1,by omega⟩
      first
        | (rw [hD,mL hm,← hD]; done)
        | (rw [hD,mL hm,← hD]; generalize hD (l.take (k + 1)) = x; split <;> omega)
    · rw [w64 (by omega)]; rfl
  · rw [List.take_of_length_le (by omega)]
theorem z7y : minC.ok Try.prog 41 := yAh gok0 yBo
theorem yBy (l : List Int) (h : maxC.cnd l) : zXu l := by
  obtain ⟨h0,h⟩ : 0 < l.length ∧ l.length ≤ 1099511627776 := h
  unfold zXu
  simp only [yU]
  obtain ⟨n,hn⟩ := z9 h0
  refine zT (fun c => by omega) (fun c => ⟨⟨by omega,by omega⟩,n,elI hn,1,zFg hn max,rfl,fun j => 1 ≤ j ∧ j ≤ l.length,fun j => l.length - j,⟨by omega,by omega⟩,?_⟩)
  rintro j ⟨h1,h2⟩
  refine zT (fun hj => ?_) (fun hj => ⟨(),?_,trivial⟩)
  · obtain ⟨m,hm⟩ := z9 (l := l) (i := j) (by omega)
    refine ⟨⟨by omega,by omega⟩,m,elI hm,j + 1,?_,?_,⟨by omega,by omega⟩,by (first | omega | (dsimp only; omega)),trivial⟩
    · obtain ⟨k,rfl⟩ : ∃ k,j = k + 1 := ⟨j - 1,by omega⟩
      rw [gR,mL hm,← gR]
      generalize gR (l.take (k + 1)) = x
      split <;> omega
    · rw [w64 (by omega)]; rfl
  · rw [List.take_of_length_le (by omega)]
theorem z5g : maxC.ok Try.prog 42 := z8m gok0 yBy
open Go Cv Go.Proofs
@[reducible] def Prd.row (p : Prd) : AObj := .cells p.cells 25
structure nR where
  p : Prd
  n : Int
structure gF where
  p : Prd
  l : List Int
def xL (t n : Int) : Bool := n.tmod t != 0
def offC : Con := con1 nR (fun i => [zF i.n,.nm 0 0]) (fun i => [i.p.row]) (fun i => 1 ≤ i.p.tick) (fun i => yG (xL i.p.tick i.n)) (fun i => [i.p.row])
@[reducible] def yAl : V := .fn 62 [] [.nm 0 0]
def nD (k : Option Nat) : Int := match k with
  | some k => k
  | none => -1
def idxC : Con := con1 gF (fun i => [iV i.l,yAl]) (fun i => [i.p.row]) (fun i => 1 ≤ i.p.tick ∧ i.l.length ≤ 1099511627776) (fun i => zF (nD (i.l.findIdx? (xL i.p.tick)))) (fun i => [i.p.row])
def z9c (i : gF) : List SAnn := [{ ι := Nat,slots := fun j => [(8,zF j)],rows := fun _ => [] }]
def containsC : Con := con1 gF (fun i => [iV i.l,yAl]) (fun i => [i.p.row]) (fun i => 1 ≤ i.p.tick ∧ i.l.length ≤ 1099511627776) (fun i => yG (i.l.any (xL i.p.tick))) (fun i => [i.p.row])
def xI (p : Prd) : Bool := decide (1 ≤ p.tick) && decide (p.tick ≤ 1000) && !xL p.tick p.low && !xL p.tick p.high && !xL p.tick p.wide && !p.settle.any (xL p.tick)
def ticksC : Con := con1 Prd (fun p => [prdV p]) (fun _ => []) Prd.small (fun p => yG (xI p)) (fun _ => [])
def xJ (p : Prd) : Bool := decide (p.low < -1000000) || decide (p.low ≥ p.high) || decide (p.high > 1000000) || decide (p.wide < 0) || decide (p.wide > p.high - p.low)
def yW (p : Prd) : Bool := decide (p.settle.length ≠ p.months.length) || decide (hD p.settle < p.low) || decide (gR p.settle > p.high)
def xR (p : Prd) : Bool := decide (p.rule < 1) || decide (p.rule > 3)
def xC (p : Prd) : Bool := decide (p.top < 0) || decide (p.top > 1000000) || decide (p.least < 1) || decide (p.least > 1000) || decide (p.part < 0) || decide (p.part > 100)
def Prd.check (p : Prd) : Int :=
  if !qO p.code then 12 else if !yT p.months then 1 else if !xI p then 22 else if xJ p then 23 else if yW p then 1 else if xR p then 31 else if xC p then 24 else 0
def checkC : Con := con1 Prd (fun p => [prdV p]) (fun _ => []) Prd.small (fun p => zF p.check) (fun _ => [])
def Prd.count (p : Prd) : Nat := if p.check = 0 then p.months.length + p.months.length * (p.months.length - 1) / 2 else 0
def pcountC : Con := con1 Prd (fun p => [prdV p]) (fun _ => []) Prd.small (fun p => zF p.count) (fun _ => [])
structure j8 where
  p : Prd
  n : Int
def zZ (n : Nat) : Nat → Nat
  | 0 => n
  | k + 1 => zZ n k + (n - 1 - k)
def xX (n inst : Nat) : Nat → Nat → Int × Int × Bool
  | 0,_ => (0,0,false)
  | k + 1,m => if inst < zZ n m + (n - 1 - m) then (m,m + 1 + (inst - zZ n m : Nat),true) else xX n inst k (m + 1)
def Prd.legs (p : Prd) (i : Int) : Int × Int × Bool :=
  if i < 0 ∨ (p.count : Int) ≤ i then (0,0,false) else if i < p.months.length then (i,i,false) else xX p.months.length i.toNat p.months.length 0
def legsC : Con := con1 j8 (fun i => [prdV i.p,zF i.n]) (fun _ => []) (fun i => i.p.small) (fun i => .tup [zF (i.p.legs i.n).1,zF (i.p.legs i.n).2.1,yG (i.p.legs i.n).2.2]) (fun _ => [])
structure wN where
  p : Prd
  a : Int
  b : Int
def Prd.spread (p : Prd) (a b : Int) : Int × Bool :=
  if p.check ≠ 0 ∨ a < 0 ∨ b ≤ a ∨ (p.months.length : Int) ≤ b then (0,false) else ((zZ p.months.length a.toNat : Int) + b - a - 1,true)
def spreadC : Con := con1 wN (fun i => [prdV i.p,zF i.a,zF i.b]) (fun _ => []) (fun i => i.p.small) (fun i => .tup [zF (i.p.spread i.a i.b).1,yG (i.p.spread i.a i.b).2]) (fun _ => [])
def Prd.price (p : Prd) (i n : Int) : Int :=
  if p.count = 0 then 1 else if i < 0 ∨ (p.count : Int) ≤ i then 20 else if xL p.tick n then 22 else
  if n < (if (p.months.length : Int) ≤ i then -p.wide else p.low) ∨ (if (p.months.length : Int) ≤ i then p.wide else p.high) < n then 23 else 0
def priceC : Con := con1 wN (fun i => [prdV i.p,zF i.a,zF i.b]) (fun _ => []) (fun i => i.p.small) (fun i => zF (i.p.price i.a i.b)) (fun _ => [])
structure I2 where
  x : Int
  y : Int
@[reducible] def yN (n : Int) : Prop := -9223372036854775808 ≤ n∧n ≤ 9223372036854775807
def kX (x y : Int) : Int × Bool := if yN (x + y) then (x + y,true) else (0,false)
def kT (x y : Int) : Int × Bool := if yN (x - y) then (x - y,true) else (0,false)
def addC : Con := con1 I2 (fun i => [zF i.x,zF i.y]) (fun _ => []) (fun i => yN i.x ∧ yN i.y) (fun i => .tup [zF (kX i.x i.y).1,yG (kX i.x i.y).2]) (fun _ => [])
def subC : Con := con1 I2 (fun i => [zF i.x,zF i.y]) (fun _ => []) (fun i => yN i.x ∧ yN i.y) (fun i => .tup [zF (kT i.x i.y).1,yG (kT i.x i.y).2]) (fun _ => [])
def z3g (i : j8) : List SAnn := [{ ι := Nat,slots := fun m => [(8,zF (zZ i.p.months.length m)),(33,zF m)],rows := fun _ => [] }]
def zNk (i : wN) : List SAnn := [{ ι := Nat,slots := fun m => [(9,zF (zZ i.p.months.length m)),(33,zF m)],rows := fun _ => [] }]
open Go Cv Go.Proofs
def zZq (i : nR) : Prop :=
  IntKind.i64 = IntKind.i64∧i.p.tick ≠ 0∧∃ (o : Unit),xL i.p.tick i.n = (i.n.tmod i.p.tick != 0)∧sb i.p.code = sb i.p.code∧iE i.p.months = iE i.p.months∧i.p.tick = i.p.tick∧i.p.low = i.p.low∧i.p.high = i.p.high∧i.p.wide = i.p.wide∧i.p.rule = i.p.rule∧i.p.top = i.p.top∧i.p.least = i.p.least∧i.p.part = i.p.part∧iE i.p.settle = iE i.p.settle∧True
theorem z8l (i : nR) : zZq i = walk Try.prog ([]) 0 ([]) ([]) [] Try.f62 (Try.f62.body.getD .skip) (offC.pat i) (offC.pre i) (offC.alts i) := by kernel_rfl
theorem yAj (hG : GOk Try.prog ([])) (h : ∀ (i : nR),offC.cnd i → zZq i) : offC.ok Try.prog 62 := zE mixed ([]) hG 0 (fun (i : nR) => []) (fun (i : nR) => []) [] Try.func62 (by kernel_rfl) (by kernel_rfl) (by kernel_rfl) (fun _ => by kernel_rfl) (fun (i : nR) hc => Eq.mp (z8l i) (h i hc))
def z1d (i : gF) : Prop :=
  ∃ (i0 : Nat),(↑i0 : Int) = 0∧∃ (I : Nat→Prop),∃ (μ : Nat→Nat),I i0∧∀ (i_1 : Nat),I i_1→cnd (decide ((↑i_1 : Int) < (↑(iE i.l).length : Int))) ((0 ≤ (↑i_1 : Int)∧(↑i_1 : Int) < (↑(iE i.l).length : Int))∧∃ (n : Int),zG (iE i.l) (↑i_1 : Int).toNat 0 1 = some [D.v (.int .i64 n)]∧∃ (i_2 : nR),i_2.n = n∧sb i_2.p.code = sb i.p.code∧iE i_2.p.months = iE i.p.months∧i_2.p.tick = i.p.tick∧i_2.p.low = i.p.low∧i_2.p.high = i.p.high∧i_2.p.wide = i.p.wide∧i_2.p.rule = i.p.rule∧i_2.p.top = i.p.top∧i_2.p.least = i.p.least∧i_2.p.part = i.p.part∧iE i_2.p.settle = iE i.p.settle∧1 ≤ i_2.p.tick∧∀ (o : Unit),True→cnd (xL i_2.p.tick i_2.n) (∃ (o : Unit),nD (List.findIdx? (xL i.p.tick) i.l) = (↑i_1 : Int)∧sb i.p.code = sb i_2.p.code∧iE i.p.months = iE i_2.p.months∧i.p.tick = i_2.p.tick∧i.p.low = i_2.p.low∧i.p.high = i_2.p.high∧i.p.wide = i_2.p.wide∧i.p.rule = i_2.p.rule∧i.p.top = i_2.p.top∧i.p.least = i_2.p.least∧i.p.part = i_2.p.part∧iE i.p.settle = iE i_2.p.settle∧True) (∃ (i' : Nat),(↑i' : Int) = IntKind.i64.wrap ((↑i_1 : Int) + 1)∧I i'∧μ i' < μ i_1∧Sx.AObj.cells (wP (uW 1 ((1 : Nat) + (0 : Nat)) ((1 : Nat) - (1 : Nat)) [((0 : Nat),(0 : Nat))]) i_2.p.cells) (25 : TypeId) = i.p.row)) (∃ (o : Unit),nD (List.findIdx? (xL i.p.tick) i.l) = (-1)∧sb i.p.code = sb i.p.code∧iE i.p.months = iE i.p.months∧i.p.tick = i.p.tick∧i.p.low = i.p.low∧i.p.high = i.p.high∧i.p.wide = i.p.wide∧i.p.rule = i.p.rule∧i.p.top = i.p.top∧i.p.least = i.p.least∧i.p.part = i.p.part∧iE i.p.settle = iE i.p.settle∧True)
theorem z9x (i : gF) : z1d i = walk Try.prog ([(62,offC)]) 0 ([]) (z9c i) [] Try.f81 (Try.f81.body.getD .skip) (idxC.pat i) (idxC.pre i) (idxC.alts i) := by kernel_rfl
theorem yAt (hG : GOk Try.prog ([(62,offC)])) (h : ∀ (i : gF),idxC.cnd i → z1d i) : idxC.ok Try.prog 81 := zE mixed ([(62,offC)]) hG 0 (fun (i : gF) => []) (fun (i : gF) => z9c i) [] Try.func81 (by kernel_rfl) (by kernel_rfl) (by kernel_rfl) (fun _ => by kernel_rfl) (fun (i : gF) hc => Eq.mp (z9x i) (h i hc))
def mU (i : gF) : Prop :=
  ∃ (i_1 : gF),iE i_1.l = iE i.l∧sb i_1.p.code = sb i.p.code∧iE i_1.p.months = iE i.p.months∧i_1.p.tick = i.p.tick∧i_1.p.low = i.p.low∧i_1.p.high = i.p.high∧i_1.p.wide = i.p.wide∧i_1.p.rule = i.p.rule∧i_1.p.top = i.p.top∧i_1.p.least = i.p.least∧i_1.p.part = i.p.part∧iE i_1.p.settle = iE i.p.settle∧(1 ≤ i_1.p.tick∧i_1.l.length ≤ 1099511627776)∧∀ (o : Unit),True→∃ (o : Unit),i.l.any (xL i.p.tick) = decide (nD (List.findIdx? (xL i_1.p.tick) i_1.l) ≥ 0)∧sb i.p.code = sb i_1.p.code∧iE i.p.months = iE i_1.p.months∧i.p.tick = i_1.p.tick∧i.p.low = i_1.p.low∧i.p.high = i_1.p.high∧i.p.wide = i_1.p.wide∧i.p.rule = i_1.p.rule∧i.p.top = i_1.p.top∧i.p.least = i_1.p.least∧i.p.part = i_1.p.part∧iE i.p.settle = iE i_1.p.settle∧True
theorem zKe (i : gF) : mU i = walk Try.prog ([(81,idxC)]) 0 ([]) ([]) [] Try.f63 (Try.f63.body.getD .skip) (containsC.pat i) (containsC.pre i) (containsC.alts i) := by kernel_rfl
theorem zJa (hG : GOk Try.prog ([(81,idxC)])) (h : ∀ (i : gF),containsC.cnd i → mU i) : containsC.ok Try.prog 63 := zE mixed ([(81,idxC)]) hG 0 (fun (i : gF) => []) (fun (i : gF) => []) [] Try.func63 (by kernel_rfl) (by kernel_rfl) (by kernel_rfl) (fun _ => by kernel_rfl) (fun (i : gF) hc => Eq.mp (zKe i) (h i hc))
def zDx (p : Prd) : Prop :=
  cnd (decide (p.tick < 1)) (∃ (o : Unit),xI p = false∧True) (cnd (decide (p.tick > 1000)) (∃ (o : Unit),xI p = false∧True) (∃ (i : nR),i.n = p.low∧sb i.p.code = sb p.code∧iE i.p.months = iE p.months∧i.p.tick = p.tick∧i.p.low = p.low∧i.p.high = p.high∧i.p.wide = p.wide∧i.p.rule = p.rule∧i.p.top = p.top∧i.p.least = p.least∧i.p.part = p.part∧iE i.p.settle = iE p.settle∧1 ≤ i.p.tick∧∀ (o : Unit),True→cnd (!xL i.p.tick i.n) (∃ (i_1 : nR),i_1.n = i.p.high∧sb i_1.p.code = sb i.p.code∧iE i_1.p.months = iE i.p.months∧i_1.p.tick = i.p.tick∧i_1.p.low = i.p.low∧i_1.p.high = i.p.high∧i_1.p.wide = i.p.wide∧i_1.p.rule = i.p.rule∧i_1.p.top = i.p.top∧i_1.p.least = i.p.least∧i_1.p.part = i.p.part∧iE i_1.p.settle = iE i.p.settle∧1 ≤ i_1.p.tick∧∀ (o : Unit),True→cnd (!xL i_1.p.tick i_1.n) (∃ (i : nR),i.n = i_1.p.wide∧sb i.p.code = sb i_1.p.code∧iE i.p.months = iE i_1.p.months∧i.p.tick = i_1.p.tick∧i.p.low = i_1.p.low∧i.p.high = i_1.p.high∧i.p.wide = i_1.p.wide∧i.p.rule = i_1.p.rule∧i.p.top = i_1.p.top∧i.p.least = i_1.p.least∧i.p.part = i_1.p.part∧iE i.p.settle = iE i_1.p.settle∧1 ≤ i.p.tick∧∀ (o : Unit),True→cnd (!xL i.p.tick i.n) (∃ (i_2 : gF),iE i_2.l = iE i.p.settle∧sb i_2.p.code = sb i.p.code∧iE i_2.p.months = iE i.p.months∧i_2.p.tick = i.p.tick∧i_2.p.low = i.p.low∧i_2.p.high = i.p.high∧i_2.p.wide = i.p.wide∧i_2.p.rule = i.p.rule∧i_2.p.top = i.p.top∧i_2.p.least = i.p.least∧i_2.p.part = i.p.part∧iE i_2.p.settle = iE i.p.settle∧(1 ≤ i_2.p.tick∧i_2.l.length ≤ 1099511627776)∧∀ (o : Unit),True→∃ (o : Unit),xI p = !i_2.l.any (xL i_2.p.tick)∧True) (∃ (o : Unit),xI p = false∧True)) (∃ (o : Unit),xI p = false∧True)) (∃ (o : Unit),xI p = false∧True)))
theorem zYm (p : Prd) : zDx p = walk Try.prog ([(62,offC),(63,containsC)]) 0 ([]) ([]) [] Try.f40 (Try.f40.body.getD .skip) (ticksC.pat p) (ticksC.pre p) (ticksC.alts p) := by kernel_rfl
theorem z1y (hG : GOk Try.prog ([(62,offC),(63,containsC)])) (h : ∀ (p : Prd),ticksC.cnd p → zDx p) : ticksC.ok Try.prog 40 := zE mixed ([(62,offC),(63,containsC)]) hG 0 (fun (p : Prd) => []) (fun (p : Prd) => []) [] Try.func40 (by kernel_rfl) (by kernel_rfl) (by kernel_rfl) (fun _ => by kernel_rfl) (fun (p : Prd) hc => Eq.mp (zYm p) (h p hc))
def zDr (p : Prd) : Prop :=
  ∃ (i : List UInt8),sb i = sb p.code∧i.length ≤ 1099511627776∧∀ (o : Unit),True→cnd (!qO i) (∃ (o : Unit),p.check = 12∧True) (∃ (i : List Int),iE i = iE p.months∧i.length ≤ 1099511627776∧∀ (o : Unit),True→cnd (!yT i) (∃ (o : Unit),p.check = 1∧True) (∃ (i : Prd),sb i.code = sb p.code∧iE i.months = iE p.months∧i.tick = p.tick∧i.low = p.low∧i.high = p.high∧i.wide = p.wide∧i.rule = p.rule∧i.top = p.top∧i.least = p.least∧i.part = p.part∧iE i.settle = iE p.settle∧(i.code.length ≤ 1099511627776∧i.months.length ≤ 1099511627776∧i.settle.length ≤ 1099511627776)∧∀ (o : Unit),True→cnd (!xI i) (∃ (o : Unit),p.check = 22∧True) (cnd (decide (p.low < (-1000000))) (∃ (o : Unit),p.check = 23∧True) (cnd (decide (p.low ≥ p.high)) (∃ (o : Unit),p.check = 23∧True) (cnd (decide (p.high > 1000000)) (∃ (o : Unit),p.check = 23∧True) (cnd (decide (p.wide < 0)) (∃ (o : Unit),p.check = 23∧True) (cnd (decide (p.wide > IntKind.i64.wrap (p.high - p.low))) (∃ (o : Unit),p.check = 23∧True) (cnd ((↑(iE p.settle).length : Int) != (↑(iE p.months).length : Int)) (∃ (o : Unit),p.check = 1∧True) (∃ (i : List Int),iE i = iE p.settle∧(0 < i.length∧i.length ≤ 1099511627776)∧∀ (o : Unit),True→p.low = p.low∧cnd (decide (hD i < p.low)) (∃ (o : Unit),p.check = 1∧True) (∃ (i : List Int),iE i = iE p.settle∧(0 < i.length∧i.length ≤ 1099511627776)∧∀ (o : Unit),True→p.high = p.high∧cnd (decide (gR i > p.high)) (∃ (o : Unit),p.check = 1∧True) (cnd (decide (p.rule < 1)) (∃ (o : Unit),p.check = 31∧True) (cnd (decide (p.rule > 3)) (∃ (o : Unit),p.check = 31∧True) (cnd (decide (p.top < 0)) (∃ (o : Unit),p.check = 24∧True) (cnd (decide (p.top > 1000000)) (∃ (o : Unit),p.check = 24∧True) (cnd (decide (p.least < 1)) (∃ (o : Unit),p.check = 24∧True) (cnd (decide (p.least > 1000)) (∃ (o : Unit),p.check = 24∧True) (cnd (decide (p.part < 0)) (∃ (o : Unit),p.check = 24∧True) (cnd (decide (p.part > 100)) (∃ (o : Unit),p.check = 24∧True) (∃ (o : Unit),p.check = 0∧True)))))))))))))))))))
theorem z2q (p : Prd) : zDr p = walk Try.prog ([(38,symC),(39,monthsC),(40,ticksC),(41,minC),(42,maxC)]) 0 ([]) ([]) [] Try.f17 (Try.f17.body.getD .skip) (checkC.pat p) (checkC.pre p) (checkC.alts p) := by kernel_rfl
theorem z1r (hG : GOk Try.prog ([(38,symC),(39,monthsC),(40,ticksC),(41,minC),(42,maxC)])) (h : ∀ (p : Prd),checkC.cnd p → zDr p) : checkC.ok Try.prog 17 := zE mixed ([(38,symC),(39,monthsC),(40,ticksC),(41,minC),(42,maxC)]) hG 0 (fun (p : Prd) => []) (fun (p : Prd) => []) [] Try.func17 (by kernel_rfl) (by kernel_rfl) (by kernel_rfl) (fun _ => by kernel_rfl) (fun (p : Prd) hc => Eq.mp (z2q p) (h p hc))
def zCh (p : Prd) : Prop :=
  ∃ (i : Prd),sb i.code = sb p.code∧iE i.months = iE p.months∧i.tick = p.tick∧i.low = p.low∧i.high = p.high∧i.wide = p.wide∧i.rule = p.rule∧i.top = p.top∧i.least = p.least∧i.part = p.part∧iE i.settle = iE p.settle∧(i.code.length ≤ 1099511627776∧i.months.length ≤ 1099511627776∧i.settle.length ≤ 1099511627776)∧∀ (o : Unit),True→cnd (i.check != 0) (∃ (o : Unit),(↑p.count : Int) = 0∧True) (IntKind.i64 = IntKind.i64∧(2 : Int) ≠ (0 : Int)∧∃ (o : Unit),(↑p.count : Int) = IntKind.i64.wrap ((↑(iE p.months).length : Int) + IntKind.i64.wrap ((IntKind.i64.wrap ((↑(iE p.months).length : Int) * IntKind.i64.wrap ((↑(iE p.months).length : Int) - 1))).tdiv 2))∧True)
theorem zXi (p : Prd) : zCh p = walk Try.prog ([(17,checkC)]) 0 ([]) ([]) [] Try.f18 (Try.f18.body.getD .skip) (pcountC.pat p) (pcountC.pre p) (pcountC.alts p) := by kernel_rfl
theorem zRj (hG : GOk Try.prog ([(17,checkC)])) (h : ∀ (p : Prd),pcountC.cnd p → zCh p) : pcountC.ok Try.prog 18 := zE mixed ([(17,checkC)]) hG 0 (fun (p : Prd) => []) (fun (p : Prd) => []) [] Try.func18 (by kernel_rfl) (by kernel_rfl) (by kernel_rfl) (fun _ => by kernel_rfl) (fun (p : Prd) hc => Eq.mp (zXi p) (h p hc))
@[reducible] def zNx (i : j8) : AObj := Sx.AObj.cells [V.d (D.v (Value.string (sb i.p.code))),V.own (0 : Nat),V.d (D.v (.int .i64 i.p.tick)),V.d (D.v (.int .i64 i.p.low)),V.d (D.v (.int .i64 i.p.high)),V.d (D.v (.int .i64 i.p.wide)),V.d (D.v (.int .i64 i.p.rule)),V.d (D.v (.int .i64 i.p.top)),V.d (D.v (.int .i64 i.p.least)),V.d (D.v (.int .i64 i.p.part)),V.own ((0 : Nat) + (1 : Nat))] (25 : Nat)
def zTw (i : j8) : Prop :=
  ∃ (i_1 : Prd),sb i_1.code = sb i.p.code∧iE i_1.months = iE i.p.months∧i_1.tick = i.p.tick∧i_1.low = i.p.low∧i_1.high = i.p.high∧i_1.wide = i.p.wide∧i_1.rule = i.p.rule∧i_1.top = i.p.top∧i_1.least = i.p.least∧i_1.part = i.p.part∧iE i_1.settle = iE i.p.settle∧(i_1.code.length ≤ 1099511627776∧i_1.months.length ≤ 1099511627776∧i_1.settle.length ≤ 1099511627776)∧∀ (o : Unit),True→cnd (decide (i.n < 0)) (∃ (o : Unit),(i.p.legs i.n).fst = 0∧(i.p.legs i.n).snd.fst = 0∧(i.p.legs i.n).snd.snd = false∧True) (cnd (decide (i.n ≥ (↑i_1.count : Int))) (∃ (o : Unit),(i.p.legs i.n).fst = 0∧(i.p.legs i.n).snd.fst = 0∧(i.p.legs i.n).snd.snd = false∧True) (cnd (decide (i.n < (↑(iE i.p.months).length : Int))) (∃ (o : Unit),(i.p.legs i.n).fst = i.n∧(i.p.legs i.n).snd.fst = i.n∧(i.p.legs i.n).snd.snd = false∧True) (∃ (i0 : Nat),(↑(zZ i.p.months.length i0) : Int) = (↑(iE i.p.months).length : Int)∧(↑i0 : Int) = 0∧∃ (I : Nat→Prop),∃ (μ : Nat→Nat),I i0∧∀ (i_2 : Nat),I i_2→cnd (decide ((↑i_2 : Int) < (↑(iE i.p.months).length : Int))) (cnd (decide (i.n < IntKind.i64.wrap ((↑(zZ i.p.months.length i_2) : Int) + IntKind.i64.wrap (IntKind.i64.wrap ((↑(iE i.p.months).length : Int) - 1) - (↑i_2 : Int))))) (∃ (o : Unit),(i.p.legs i.n).fst = (↑i_2 : Int)∧(i.p.legs i.n).snd.fst = IntKind.i64.wrap (IntKind.i64.wrap (IntKind.i64.wrap ((↑i_2 : Int) + 1) + i.n) - (↑(zZ i.p.months.length i_2) : Int))∧(i.p.legs i.n).snd.snd = true∧True) (∃ (i' : Nat),(↑(zZ i.p.months.length i') : Int) = IntKind.i64.wrap ((↑(zZ i.p.months.length i_2) : Int) + IntKind.i64.wrap (IntKind.i64.wrap ((↑(iE i.p.months).length : Int) - 1) - (↑i_2 : Int)))∧(↑i' : Int) = IntKind.i64.wrap ((↑i_2 : Int) + 1)∧I i'∧μ i' < μ i_2∧zNx i = zNx i∧AObj.fro 1 (iE i.p.settle) = AObj.fro 1 (iE i.p.settle)∧AObj.fro 1 (iE i.p.months) = AObj.fro 1 (iE i.p.months))) (∃ (o : Unit),(i.p.legs i.n).fst = 0∧(i.p.legs i.n).snd.fst = 0∧(i.p.legs i.n).snd.snd = false∧True))))
theorem z5f (i : j8) : zTw i = walk Try.prog ([(18,pcountC)]) 0 ([]) (z3g i) [] Try.f85 (Try.f85.body.getD .skip) (legsC.pat i) (legsC.pre i) (legsC.alts i) := by kernel_rfl
theorem z7w (hG : GOk Try.prog ([(18,pcountC)])) (h : ∀ (i : j8),legsC.cnd i → zTw i) : legsC.ok Try.prog 85 := zE mixed ([(18,pcountC)]) hG 0 (fun (i : j8) => []) (fun (i : j8) => z3g i) [] Try.func85 (by kernel_rfl) (by kernel_rfl) (by kernel_rfl) (fun _ => by kernel_rfl) (fun (i : j8) hc => Eq.mp (z5f i) (h i hc))
@[reducible] def zAi (i : wN) : AObj := Sx.AObj.cells [V.d (D.v (Value.string (sb i.p.code))),V.own (0 : Nat),V.d (D.v (.int .i64 i.p.tick)),V.d (D.v (.int .i64 i.p.low)),V.d (D.v (.int .i64 i.p.high)),V.d (D.v (.int .i64 i.p.wide)),V.d (D.v (.int .i64 i.p.rule)),V.d (D.v (.int .i64 i.p.top)),V.d (D.v (.int .i64 i.p.least)),V.d (D.v (.int .i64 i.p.part)),V.own ((0 : Nat) + (1 : Nat))] (25 : Nat)
def zCa (i : wN) : Prop :=
  ∃ (i_1 : Prd),sb i_1.code = sb i.p.code∧iE i_1.months = iE i.p.months∧i_1.tick = i.p.tick∧i_1.low = i.p.low∧i_1.high = i.p.high∧i_1.wide = i.p.wide∧i_1.rule = i.p.rule∧i_1.top = i.p.top∧i_1.least = i.p.least∧i_1.part = i.p.part∧iE i_1.settle = iE i.p.settle∧(i_1.code.length ≤ 1099511627776∧i_1.months.length ≤ 1099511627776∧i_1.settle.length ≤ 1099511627776)∧∀ (o : Unit),True→cnd (i_1.check != 0) (∃ (o : Unit),(i.p.spread i.a i.b).fst = 0∧(i.p.spread i.a i.b).snd = false∧True) (cnd (decide (i.a < 0)) (∃ (o : Unit),(i.p.spread i.a i.b).fst = 0∧(i.p.spread i.a i.b).snd = false∧True) (cnd (decide (i.a ≥ i.b)) (∃ (o : Unit),(i.p.spread i.a i.b).fst = 0∧(i.p.spread i.a i.b).snd = false∧True) (cnd (decide (i.b ≥ (↑(iE i.p.months).length : Int))) (∃ (o : Unit),(i.p.spread i.a i.b).fst = 0∧(i.p.spread i.a i.b).snd = false∧True) (∃ (i0 : Nat),(↑(zZ i.p.months.length i0) : Int) = (↑(iE i.p.months).length : Int)∧(↑i0 : Int) = 0∧∃ (I : Nat→Prop),∃ (μ : Nat→Nat),I i0∧∀ (i_2 : Nat),I i_2→cnd (decide ((↑i_2 : Int) < i.a)) (∃ (i' : Nat),(↑(zZ i.p.months.length i') : Int) = IntKind.i64.wrap ((↑(zZ i.p.months.length i_2) : Int) + IntKind.i64.wrap (IntKind.i64.wrap ((↑(iE i.p.months).length : Int) - 1) - (↑i_2 : Int)))∧(↑i' : Int) = IntKind.i64.wrap ((↑i_2 : Int) + 1)∧I i'∧μ i' < μ i_2∧zAi i = zAi i∧AObj.fro 1 (iE i.p.settle) = AObj.fro 1 (iE i.p.settle)∧AObj.fro 1 (iE i.p.months) = AObj.fro 1 (iE i.p.months)) (∃ (o : Unit),(i.p.spread i.a i.b).fst = IntKind.i64.wrap (IntKind.i64.wrap (IntKind.i64.wrap ((↑(zZ i.p.months.length i_2) : Int) + i.b) - i.a) - 1)∧(i.p.spread i.a i.b).snd = true∧True)))))
theorem zSx (i : wN) : zCa i = walk Try.prog ([(17,checkC)]) 0 ([]) (zNk i) [] Try.f88 (Try.f88.body.getD .skip) (spreadC.pat i) (spreadC.pre i) (spreadC.alts i) := by kernel_rfl
theorem zSz (hG : GOk Try.prog ([(17,checkC)])) (h : ∀ (i : wN),spreadC.cnd i → zCa i) : spreadC.ok Try.prog 88 := zE mixed ([(17,checkC)]) hG 0 (fun (i : wN) => []) (fun (i : wN) => zNk i) [] Try.func88 (by kernel_rfl) (by kernel_rfl) (by kernel_rfl) (fun _ => by kernel_rfl) (fun (i : wN) hc => Eq.mp (zSx i) (h i hc))
def zKj (i : wN) : Prop :=
  ∃ (i_1 : Prd),sb i_1.code = sb i.p.code∧iE i_1.months = iE i.p.months∧i_1.tick = i.p.tick∧i_1.low = i.p.low∧i_1.high = i.p.high∧i_1.wide = i.p.wide∧i_1.rule = i.p.rule∧i_1.top = i.p.top∧i_1.least = i.p.least∧i_1.part = i.p.part∧iE i_1.settle = iE i.p.settle∧(i_1.code.length ≤ 1099511627776∧i_1.months.length ≤ 1099511627776∧i_1.settle.length ≤ 1099511627776)∧∀ (o : Unit),True→cnd ((↑i_1.count : Int) == 0) (∃ (o : Unit),i.p.price i.a i.b = 1∧True) (cnd (decide (i.a < 0)) (∃ (o : Unit),i.p.price i.a i.b = 20∧True) (cnd (decide (i.a ≥ (↑i_1.count : Int))) (∃ (o : Unit),i.p.price i.a i.b = 20∧True) (IntKind.i64 = IntKind.i64∧i.p.tick ≠ 0∧cnd (i.b.tmod i.p.tick != 0) (∃ (o : Unit),i.p.price i.a i.b = 22∧True) (cnd (decide (i.a ≥ (↑(iE i.p.months).length : Int))) (cnd (decide (i.b < IntKind.i64.wrap (0 - i.p.wide))) (∃ (o : Unit),i.p.price i.a i.b = 23∧True) (cnd (decide (i.b > i.p.wide)) (∃ (o : Unit),i.p.price i.a i.b = 23∧True) (∃ (o : Unit),i.p.price i.a i.b = 0∧True))) (cnd (decide (i.b < i.p.low)) (∃ (o : Unit),i.p.price i.a i.b = 23∧True) (cnd (decide (i.b > i.p.high)) (∃ (o : Unit),i.p.price i.a i.b = 23∧True) (∃ (o : Unit),i.p.price i.a i.b = 0∧True)))))))
theorem z1f (i : wN) : zKj i = walk Try.prog ([(18,pcountC)]) 0 ([]) ([]) [] Try.f22 (Try.f22.body.getD .skip) (priceC.pat i) (priceC.pre i) (priceC.alts i) := by kernel_rfl
theorem z2x (hG : GOk Try.prog ([(18,pcountC)])) (h : ∀ (i : wN),priceC.cnd i → zKj i) : priceC.ok Try.prog 22 := zE mixed ([(18,pcountC)]) hG 0 (fun (i : wN) => []) (fun (i : wN) => []) [] Try.func22 (by kernel_rfl) (by kernel_rfl) (by kernel_rfl) (fun _ => by kernel_rfl) (fun (i : wN) hc => Eq.mp (z1f i) (h i hc))
def z2u (i : I2) : Prop :=
  cnd (decide (i.x < 0) == decide (i.y < 0)) (cnd (!decide (IntKind.i64.wrap (i.x + i.y) < 0) == decide (i.x < 0)) (∃ (o : Unit),(kX i.x i.y).fst = 0∧(kX i.x i.y).snd = false∧True) (∃ (o : Unit),(kX i.x i.y).fst = IntKind.i64.wrap (i.x + i.y)∧(kX i.x i.y).snd = true∧True)) (∃ (o : Unit),(kX i.x i.y).fst = IntKind.i64.wrap (i.x + i.y)∧(kX i.x i.y).snd = true∧True)
theorem z8z (i : I2) : z2u i = walk Try.prog ([]) 0 ([]) ([]) [] Try.f95 (Try.f95.body.getD .skip) (addC.pat i) (addC.pre i) (addC.alts i) := by kernel_rfl
theorem z9j (hG : GOk Try.prog ([])) (h : ∀ (i : I2),addC.cnd i → z2u i) : addC.ok Try.prog 95 := zE mixed ([]) hG 0 (fun (i : I2) => []) (fun (i : I2) => []) [] Try.func95 (by kernel_rfl) (by kernel_rfl) (by kernel_rfl) (fun _ => by kernel_rfl) (fun (i : I2) hc => Eq.mp (z8z i) (h i hc))
def zZl (i : I2) : Prop :=
  cnd (!decide (i.x < 0) == decide (i.y < 0)) (cnd (!decide (IntKind.i64.wrap (i.x - i.y) < 0) == decide (i.x < 0)) (∃ (o : Unit),(kT i.x i.y).fst = 0∧(kT i.x i.y).snd = false∧True) (∃ (o : Unit),(kT i.x i.y).fst = IntKind.i64.wrap (i.x - i.y)∧(kT i.x i.y).snd = true∧True)) (∃ (o : Unit),(kT i.x i.y).fst = IntKind.i64.wrap (i.x - i.y)∧(kT i.x i.y).snd = true∧True)
theorem yAb (i : I2) : zZl i = walk Try.prog ([]) 0 ([]) ([]) [] Try.f96 (Try.f96.body.getD .skip) (subC.pat i) (subC.pre i) (subC.alts i) := by kernel_rfl
theorem z9f (hG : GOk Try.prog ([])) (h : ∀ (i : I2),subC.cnd i → zZl i) : subC.ok Try.prog 96 := zE mixed ([]) hG 0 (fun (i : I2) => []) (fun (i : I2) => []) [] Try.func96 (by kernel_rfl) (by kernel_rfl) (by kernel_rfl) (fun _ => by kernel_rfl) (fun (i : I2) hc => Eq.mp (yAb i) (h i hc))
open Go Cv Go.Proofs
theorem yBr (i : nR) (h : offC.cnd i) : zZq i := by
  have h : 1 ≤ i.p.tick := h
  unfold zZq; (repeat' (first|exact rfl|exact trivial|assumption|apply And.intro|refine fun (_:Unit) (_:True)=>?_|refine Exists.intro () ?_|omega|(dsimp only;omega)))
theorem zSk : offC.ok Try.prog 62 := yAj gok0 yBr
theorem mB {α : Type} {f : α → Bool} {l : List α} (h : ∀ (k : Nat) (x : α),l[k]? = some x → f x = false) : l.findIdx? f = none := by
  rw [List.findIdx?_eq_none_iff]
  intro x hx
  obtain ⟨k,hk⟩ := List.getElem?_of_mem hx
  exact h k x hk
theorem mR {α : Type} {f : α → Bool} {l : List α} {j : Nat} {x : α} (h1 : l[j]? = some x) (h2 : f x = true) (h : ∀ k < j,∀ x : α,l[k]? = some x → f x = false) : l.findIdx? f = some j := by
  rw [List.findIdx?_eq_some_iff_getElem]
  obtain ⟨hj,rfl⟩ := List.getElem?_eq_some_iff.1 h1
  exact ⟨hj,h2,fun k hk => by rw [h k hk _ (List.getElem?_eq_getElem (by omega))]; simp⟩
theorem yBw (i : gF) (h : idxC.cnd i) : z1d i := by
  obtain ⟨h1,h2⟩ : 1 ≤ i.p.tick ∧ i.l.length ≤ 1099511627776 := h
  unfold z1d
  simp only [yU]
  refine ⟨0,rfl,fun j => j ≤ i.l.length ∧ ∀ k < j,∀ x,i.l[k]? = some x → xL i.p.tick x = false,fun j => i.l.length - j,⟨by omega,fun k hk => by omega⟩,?_⟩
  rintro j ⟨h3,h4⟩
  refine zT (fun hj => ?_) (fun hj => ?_)
  · obtain ⟨n,hn⟩ := z9 (l := i.l) (i := j) (by omega)
    refine ⟨⟨by omega,by omega⟩,n,elI hn,⟨i.p,n⟩,?_⟩
    (repeat' (first|exact rfl|exact trivial|assumption|apply And.intro|refine fun (_:Unit) (_:True)=>?_|refine Exists.intro () ?_|omega|(dsimp only;omega)))
    refine Cv.cnd.mk (fun e => ?_) (fun e => ?_)
    · rw [mR hn e h4]; (repeat' (first|exact rfl|exact trivial|assumption|apply And.intro|refine fun (_:Unit) (_:True)=>?_|refine Exists.intro () ?_|omega|(dsimp only;omega)))
    · refine ⟨j + 1,by rw [w64 (by omega)]; rfl,⟨by omega,fun k hk x hx => ?_⟩,by (first | omega | (dsimp only; omega)),rfl⟩
      rcases Nat.lt_or_ge k j with hk' | hk'
      · exact h4 k hk' x hx
      · obtain rfl : k = j := by omega
        rw [hn] at hx; cases hx; exact e
  · rw [mB fun k x hx => h4 k (by have := (List.getElem?_eq_some_iff.1 hx).1; omega) x hx]; (repeat' (first|exact rfl|exact trivial|assumption|apply And.intro|refine fun (_:Unit) (_:True)=>?_|refine Exists.intro () ?_|omega|(dsimp only;omega)))
theorem z5o : idxC.ok Try.prog 81 := yAt (gokc zSk gok0) yBw
theorem zOx {l : List Int} {f : Int → Bool} : l.any f = decide (nD (l.findIdx? f) ≥ 0) := by
  cases hf : l.findIdx? f with
  | none =>
    rw [List.findIdx?_eq_none_iff] at hf
    have : l.any f = false := by rw [List.any_eq_false]; intro x hx; simp [hf x hx]
    rw [this]; rfl
  | some k =>
    rw [List.findIdx?_eq_some_iff_getElem] at hf
    obtain ⟨hk,h1,_⟩ := hf
    have : l.any f = true := by rw [List.any_eq_true]; exact ⟨_,List.getElem_mem hk,h1⟩
    rw [this,nD,decide_eq_true (by omega)]
theorem zRe (i : gF) (h : containsC.cnd i) : mU i := by
  have h' : 1 ≤ i.p.tick ∧ i.l.length ≤ 1099511627776 := h
  refine ⟨i,?_⟩
  (repeat' (first|exact rfl|exact trivial|assumption|apply And.intro|refine fun (_:Unit) (_:True)=>?_|refine Exists.intro () ?_|omega|(dsimp only;omega)))
  exact zOx
theorem zGe : containsC.ok Try.prog 63 := zJa (gokc z5o gok0) zRe
theorem z6l (p : Prd) (h : ticksC.cnd p) : zDx p := by
  obtain ⟨h1,h2,h3⟩ : p.small := h
  unfold zDx
  refine zT (fun c1 => ⟨(),by rw [xI,decide_eq_false (by omega)]; rfl,trivial⟩) (fun c1 => zT (fun c2 => ⟨(),by rw [xI,decide_eq_false (show ¬ p.tick ≤ 1000 by omega)]; simp,trivial⟩) (fun c2 => ⟨⟨p,p.low⟩,?_⟩))
  have e1 : xI p = (!xL p.tick p.low && !xL p.tick p.high && !xL p.tick p.wide && !p.settle.any (xL p.tick)) := by
    rw [xI,decide_eq_true (by omega),decide_eq_true (by omega)]; rfl
  rw [e1]
  (repeat' (first|exact rfl|exact trivial|assumption|apply And.intro|refine fun (_:Unit) (_:True)=>?_|refine Exists.intro () ?_|omega|(dsimp only;omega)))
  refine Cv.cnd.mk (fun c3 => ⟨⟨p,p.high⟩,?_⟩) (fun c3 => ⟨(),?_,trivial⟩)
  · dsimp only at c3
    (repeat' (first|exact rfl|exact trivial|assumption|apply And.intro|refine fun (_:Unit) (_:True)=>?_|refine Exists.intro () ?_|omega|(dsimp only;omega)))
    refine Cv.cnd.mk (fun c4 => ⟨⟨p,p.wide⟩,?_⟩) (fun c4 => ⟨(),?_,trivial⟩)
    · dsimp only at c4
      (repeat' (first|exact rfl|exact trivial|assumption|apply And.intro|refine fun (_:Unit) (_:True)=>?_|refine Exists.intro () ?_|omega|(dsimp only;omega)))
      refine Cv.cnd.mk (fun c5 => ⟨⟨p,p.settle⟩,?_⟩) (fun c5 => ⟨(),?_,trivial⟩)
      · dsimp only at c5
        (repeat' (first|exact rfl|exact trivial|assumption|apply And.intro|refine fun (_:Unit) (_:True)=>?_|refine Exists.intro () ?_|omega|(dsimp only;omega)))
        rw [c3,c4,c5]; simp
      · dsimp only at c5
        rw [c5]; simp
    · dsimp only at c4
      rw [c4]; simp
  · dsimp only at c3
    rw [c3]; simp
theorem zWf : ticksC.ok Try.prog 40 := z1y (gokc zSk (gokc zGe gok0)) z6l
theorem z4r (p : Prd) (h : checkC.cnd p) : zDr p := by
  obtain ⟨h1,h2,h3⟩ : p.small := h
  unfold zDr
  simp only [yU]
  refine ⟨p.code,rfl,h1,fun _ _ => Cv.cnd.mk (fun c1 => ⟨(),by rw [Prd.check,if_pos c1],trivial⟩) (fun c1 => ⟨p.months,rfl,h2,fun _ _ => Cv.cnd.mk (fun c2 => ⟨(),by rw [Prd.check,if_neg (by simp [c1]),if_pos c2],trivial⟩) (fun c2 => ⟨p,?_⟩)⟩)⟩
  (repeat' (first|exact rfl|exact trivial|assumption|apply And.intro|refine fun (_:Unit) (_:True)=>?_|refine Exists.intro () ?_|omega|(dsimp only;omega)))
  refine Cv.cnd.mk (fun c3 => ⟨(),by rw [Prd.check,if_neg (by simp [c1]),if_neg (by simp [c2]),if_pos c3],trivial⟩) (fun c3 => ?_)
  have e0 : p.check = if xJ p then 23 else if yW p then 1 else if xR p then 31 else if xC p then 24 else 0 := by
    rw [Prd.check,if_neg (by simp [c1]),if_neg (by simp [c2]),if_neg (by simp [c3])]
  have b (hb : xJ p = true) : ∃ (o : Unit),p.check = 23 ∧ True := ⟨(),by rw [e0,if_pos hb],trivial⟩
  refine zT (fun d1 => b (by simp [xJ,d1])) fun d1 => zT (fun d2 => b (by simp [xJ]; omega)) fun d2 => zT (fun d3 => b (by simp [xJ]; omega)) fun d3 => zT (fun d4 => b (by simp [xJ]; omega)) fun d4 => ?_
  rw [w64 (by omega)]
  refine zT (fun d5 => b (by simp [xJ]; omega)) fun d5 => ?_
  have e1 : p.check = if yW p then 1 else if xR p then 31 else if xC p then 24 else 0 := by
    rw [e0,if_neg (by simp [xJ]; omega)]
  have s (hb : yW p = true) : ∃ (o : Unit),p.check = 1 ∧ True := ⟨(),by rw [e1,if_pos hb],trivial⟩
  have hm : 2 ≤ p.months.length := by
    have c2 : yT p.months = true := by simpa using c2
    simp [yT] at c2; omega
  refine Cv.cnd.mk (fun d6 => s (by have d6 : ¬ (p.settle.length : Int) = p.months.length := (by simpa using d6); simp [yW]; omega)) fun d6 => ?_
  have d6 : p.settle.length = p.months.length := by
    have : (p.settle.length : Int) = p.months.length := by simpa using d6
    omega
  refine ⟨p.settle,rfl,⟨by omega,by omega⟩,fun _ _ => ⟨by (repeat' (first|exact rfl|exact trivial|assumption|apply And.intro|refine fun (_:Unit) (_:True)=>?_|refine Exists.intro () ?_|omega|(dsimp only;omega))),zT (fun d7 => s (by simp [yW]; left; right; omega)) fun d7 => ⟨p.settle,rfl,⟨by omega,by omega⟩,fun _ _ => ⟨by (repeat' (first|exact rfl|exact trivial|assumption|apply And.intro|refine fun (_:Unit) (_:True)=>?_|refine Exists.intro () ?_|omega|(dsimp only;omega))),zT (fun d8 => s (by simp [yW]; right; omega)) fun d8 => ?_⟩⟩⟩⟩
  have e2 : p.check = if xR p then 31 else if xC p then 24 else 0 := by
    rw [e1,if_neg (by simp [yW]; omega)]
  have r (hb : xR p = true) : ∃ (o : Unit),p.check = 31 ∧ True := ⟨(),by rw [e2,if_pos hb],trivial⟩
  refine zT (fun d9 => r (by simp [xR]; omega)) fun d9 => zT (fun d10 => r (by simp [xR]; omega)) fun d10 => ?_
  have e3 : p.check = if xC p then 24 else 0 := by
    rw [e2,if_neg (by simp [xR]; omega)]
  have q (hb : xC p = true) : ∃ (o : Unit),p.check = 24 ∧ True := ⟨(),by rw [e3,if_pos hb],trivial⟩
  refine zT (fun f1 => q (by simp [xC]; omega)) fun f1 => zT (fun f2 => q (by simp [xC]; omega)) fun f2 => zT (fun f3 => q (by simp [xC]; omega)) fun f3 => zT (fun f4 => q (by simp [xC]; omega)) fun f4 => zT (fun f5 => q (by simp [xC]; omega)) fun f5 => zT (fun f6 => q (by simp [xC]; omega)) fun f6 => ?_
  exact ⟨(),by rw [e3,if_neg (by simp [xC]; omega)],trivial⟩
theorem sE : checkC.ok Try.prog 17 := z1r (gokc z7q (gokc zQp (gokc zWf (gokc z7y (gokc z5g gok0))))) z4r
structure Prd.Ok (p : Prd) : Prop where
  sym : qO p.code = true
  months : yT p.months = true
  ticks : xI p = true
  m2 : 2 ≤ p.months.length
  m6 : p.months.length ≤ 6
  t1 : 1 ≤ p.tick
  t2 : p.tick ≤ 1000
  b1 : -1000000 ≤ p.low
  b2 : p.low < p.high
  b3 : p.high ≤ 1000000
  b4 : 0 ≤ p.wide
  b5 : p.wide ≤ p.high - p.low
  s1 : p.settle.length = p.months.length
  s2 : p.low ≤ hD p.settle
  s3 : gR p.settle ≤ p.high
  r1 : 1 ≤ p.rule
  r2 : p.rule ≤ 3
  q1 : 0 ≤ p.top
  q2 : p.top ≤ 1000000
  q3 : 1 ≤ p.least
  q4 : p.least ≤ 1000
  q5 : 0 ≤ p.part
  q6 : p.part ≤ 100
theorem xV {p : Prd} (h : p.check = 0) : p.Ok := by
  unfold Prd.check at h
  split at h <;> first | (exfalso; revert h; decide) | skip
  rename_i c1
  split at h <;> first | (exfalso; revert h; decide) | skip
  rename_i c2
  split at h <;> first | (exfalso; revert h; decide) | skip
  rename_i c3
  split at h <;> first | (exfalso; revert h; decide) | skip
  rename_i c4
  split at h <;> first | (exfalso; revert h; decide) | skip
  rename_i c5
  split at h <;> first | (exfalso; revert h; decide) | skip
  rename_i c6
  split at h <;> first | (exfalso; revert h; decide) | skip
  rename_i c7
  simp only [Bool.not_eq_true',Bool.not_eq_false,Bool.not_eq_true] at c1 c2 c3
  have m := c2
  have t := c3
  simp [yT] at m
  simp [xI] at t
  simp [xJ] at c4
  simp [yW] at c5
  simp [xR] at c6
  simp [xC] at c7
  exact ⟨c1,c2,c3,by omega,by omega,by omega,by omega,by omega,by omega,by omega,by omega,by omega,by omega,by omega,by omega,by omega,by omega,by omega,by omega,by omega,by omega,by omega,by omega⟩
theorem zUj {n : Nat} (h : n ≤ 6) : n + n * (n - 1) / 2 ≤ 21 := by
  have : ∀ n ≤ 6,n + n * (n - 1) / 2 ≤ 21 := by decide
  exact this n h
theorem zYi (p : Prd) (h : pcountC.cnd p) : zCh p := by
  obtain ⟨h1,h2,h3⟩ : p.small := h
  refine ⟨p,?_⟩
  simp only [yU]
  (repeat' (first|exact rfl|exact trivial|assumption|apply And.intro|refine fun (_:Unit) (_:True)=>?_|refine Exists.intro () ?_|omega|(dsimp only;omega)))
  refine Cv.cnd.mk (fun c => ⟨(),by rw [Prd.count,if_neg (by simpa using c)]; rfl,trivial⟩) (fun c => ?_)
  have c : p.check = 0 := by simpa using c
  have ok := xV c
  refine ⟨by (repeat' (first|exact rfl|exact trivial|assumption|apply And.intro|refine fun (_:Unit) (_:True)=>?_|refine Exists.intro () ?_|omega|(dsimp only;omega))),by decide,(),?_,trivial⟩
  rw [Prd.count,if_pos c]
  obtain ⟨n,hn⟩ : ∃ n,p.months.length = n := ⟨_,rfl⟩
  have m2 := ok.m2
  have m6 := ok.m6
  rw [hn] at m2 m6 ⊢
  have : n = 2 ∨ n = 3 ∨ n = 4 ∨ n = 5 ∨ n = 6 := by omega
  rcases this with rfl | rfl | rfl | rfl | rfl <;> rfl
theorem uQ : pcountC.ok Try.prog 18 := zRj (gokc sE gok0) zYi
theorem gV {p : Prd} (h : p.count ≠ 0) : p.check = 0 := by
  unfold Prd.count at h
  split at h
  · assumption
  · exact absurd rfl h
theorem j1 (p : Prd) : p.count ≤ 21 := by
  unfold Prd.count
  split
  · rename_i h; exact zUj (xV h).m6
  · omega
theorem tC {n m : Nat} (h : n ≤ 6) (hm : m ≤ n) : zZ n m ≤ 21 := by
  have : ∀ n ≤ 6,∀ m ≤ n,zZ n m ≤ 21 := by decide
  exact this n h m hm
theorem yAg (i : j8) (h : legsC.cnd i) : zTw i := by
  obtain ⟨h1,h2,h3⟩ : i.p.small := h
  refine ⟨i.p,?_⟩
  simp only [yU]
  (repeat' (first|exact rfl|exact trivial|assumption|apply And.intro|refine fun (_:Unit) (_:True)=>?_|refine Exists.intro () ?_|omega|(dsimp only;omega)))
  refine zT (fun c1 => ?_) (fun c1 => zT (fun c2 => ?_) (fun c2 => ?_))
  · rw [Prd.legs,if_pos (by omega)]; (repeat' (first|exact rfl|exact trivial|assumption|apply And.intro|refine fun (_:Unit) (_:True)=>?_|refine Exists.intro () ?_|omega|(dsimp only;omega)))
  · rw [Prd.legs,if_pos (by omega)]; (repeat' (first|exact rfl|exact trivial|assumption|apply And.intro|refine fun (_:Unit) (_:True)=>?_|refine Exists.intro () ?_|omega|(dsimp only;omega)))
  have c2 : ¬ i.n ≥ (i.p.count : Int) := c2
  have hc := j1 i.p
  have ok := xV (gV (p := i.p) (by omega))
  have m6 := ok.m6
  refine zT (fun c3 => ?_) (fun c3 => ?_)
  · rw [Prd.legs,if_neg (by omega),if_pos c3]; (repeat' (first|exact rfl|exact trivial|assumption|apply And.intro|refine fun (_:Unit) (_:True)=>?_|refine Exists.intro () ?_|omega|(dsimp only;omega)))
  have e0 : i.p.legs i.n = xX i.p.months.length i.n.toNat i.p.months.length 0 := by
    rw [Prd.legs,if_neg (by omega),if_neg c3]
  rw [e0]
  generalize hn : i.p.months.length = n at c3 m6 ⊢
  obtain ⟨k,hk⟩ : ∃ k : Nat,i.n = k := ⟨i.n.toNat,by omega⟩
  rw [hk] at c2 c3 ⊢
  refine ⟨0,rfl,rfl,fun m => m ≤ n ∧ zZ n m ≤ k ∧ xX n k n 0 = xX n k (n - m) m,fun m => n - m,⟨by omega,by show n ≤ k; omega,rfl⟩,?_⟩
  rintro m ⟨g1,g2,g3⟩
  have hf := tC m6 g1
  refine zT (fun c4 => ?_) (fun c4 => ?_)
  · obtain ⟨r,hr⟩ : ∃ r,n - m = r + 1 := ⟨n - m - 1,by omega⟩
    have e1 : (k : Int).toNat = k := by omega
    rw [e1,g3,hr,w64 (x := (n : Int) - 1) (by omega),w64 (x := (n : Int) - 1 - m) (by omega),w64 (x := (zZ n m : Int) + ((n : Int) - 1 - m)) (by omega),w64 (x := (m : Int) + 1) (by omega)]
    rw [hr] at g3
    refine zT (fun c5 => ?_) (fun c5 => ?_)
    · rw [w64 (x := (m : Int) + 1 + k) (by omega),w64 (x := (m : Int) + 1 + k - (zZ n m : Int)) (by omega),xX,if_pos (by omega)]
      refine ⟨(),rfl,?_,rfl,trivial⟩
      dsimp only; omega
    · refine ⟨m + 1,?_,rfl,⟨by omega,?_,?_⟩,by (first | omega | (dsimp only; omega)),by (repeat' (first|exact rfl|exact trivial|assumption|apply And.intro|refine fun (_:Unit) (_:True)=>?_|refine Exists.intro () ?_|omega|(dsimp only;omega)))⟩
      · rw [zZ]; omega
      · rw [zZ]; omega
      · rw [xX,if_neg (by omega),show n - (m + 1) = r by omega]
  · have e1 : (k : Int).toNat = k := by omega
    rw [e1,g3,show n - m = 0 by omega]
    exact ⟨(),rfl,rfl,rfl,trivial⟩
theorem zKs : legsC.ok Try.prog 85 := z7w (gokc uQ gok0) yAg
theorem z0v (i : wN) (h : spreadC.cnd i) : zCa i := by
  obtain ⟨h1,h2,h3⟩ : i.p.small := h
  refine ⟨i.p,?_⟩
  simp only [yU]
  (repeat' (first|exact rfl|exact trivial|assumption|apply And.intro|refine fun (_:Unit) (_:True)=>?_|refine Exists.intro () ?_|omega|(dsimp only;omega)))
  have bad (hb : i.p.check ≠ 0 ∨ i.a < 0 ∨ i.b ≤ i.a ∨ (i.p.months.length : Int) ≤ i.b) : ∃ (o : Unit),(i.p.spread i.a i.b).fst = 0 ∧ (i.p.spread i.a i.b).snd = false ∧ True := ⟨(),by rw [Prd.spread,if_pos hb],by rw [Prd.spread,if_pos hb],trivial⟩
  refine Cv.cnd.mk (fun c1 => bad (.inl (by simpa using c1))) fun c1 => zT (fun c2 => bad (by omega)) fun c2 => zT (fun c3 => bad (by omega)) fun c3 => zT (fun c4 => bad (by omega)) fun c4 => ?_
  have c1 : i.p.check = 0 := by simpa using c1
  have m6 := (xV c1).m6
  rw [Prd.spread,if_neg (by omega)]
  generalize hn : i.p.months.length = n at c4 m6 ⊢
  obtain ⟨a,ha⟩ : ∃ k : Nat,i.a = k := ⟨i.a.toNat,by omega⟩
  rw [ha] at c3 ⊢
  refine ⟨0,rfl,rfl,fun m => m ≤ a,fun m => a - m,by omega,?_⟩
  intro m hm
  have hm : m ≤ a := hm
  have hf := tC (m := m) m6 (by omega)
  refine zT (fun c5 => ?_) (fun c5 => ?_)
  · rw [w64 (x := (n : Int) - 1) (by omega),w64 (x := (n : Int) - 1 - m) (by omega),w64 (x := (zZ n m : Int) + ((n : Int) - 1 - m)) (by omega),w64 (x := (m : Int) + 1) (by omega)]
    refine ⟨m + 1,?_,rfl,by omega,by (first | omega | (dsimp only; omega)),by (repeat' (first|exact rfl|exact trivial|assumption|apply And.intro|refine fun (_:Unit) (_:True)=>?_|refine Exists.intro () ?_|omega|(dsimp only;omega)))⟩
    rw [zZ]; omega
  · obtain rfl : m = a := by omega
    rw [w64 (x := (zZ n m : Int) + i.b) (by omega),w64 (x := (zZ n m : Int) + i.b - m) (by omega),w64 (x := (zZ n m : Int) + i.b - m - 1) (by omega)]
    exact ⟨(),rfl,rfl,trivial⟩
theorem lH : spreadC.ok Try.prog 88 := zSz (gokc sE gok0) z0v
theorem z7o (i : wN) (h : priceC.cnd i) : zKj i := by
  obtain ⟨h1,h2,h3⟩ : i.p.small := h
  refine ⟨i.p,?_⟩
  simp only [yU]
  (repeat' (first|exact rfl|exact trivial|assumption|apply And.intro|refine fun (_:Unit) (_:True)=>?_|refine Exists.intro () ?_|omega|(dsimp only;omega)))
  refine Cv.cnd.mk (fun c1 => ⟨(),by rw [Prd.price,if_pos (by have : (i.p.count : Int) = 0 := (by simpa using c1); omega)],trivial⟩) fun c1 => ?_
  have c1 : i.p.count ≠ 0 := by
    have : ¬ (i.p.count : Int) = 0 := by simpa using c1
    omega
  have e0 : i.p.price i.a i.b = if i.a < 0 ∨ (i.p.count : Int) ≤ i.a then 20 else if xL i.p.tick i.b then 22 else
      if i.b < (if (i.p.months.length : Int) ≤ i.a then -i.p.wide else i.p.low) ∨ (if (i.p.months.length : Int) ≤ i.a then i.p.wide else i.p.high) < i.b then 23 else 0 := by rw [Prd.price,if_neg c1]
  rw [e0]
  have ok := xV (gV c1)
  obtain ⟨t1,b3,b1,b2,b4,b5⟩ := (⟨ok.t1,ok.b3,ok.b1,ok.b2,ok.b4,ok.b5⟩ : _ ∧ _ ∧ _ ∧ _ ∧ _ ∧ _)
  refine zT (fun c2 => ⟨(),by rw [if_pos (.inl c2)],trivial⟩) fun c2 => zT (fun c3 => ⟨(),by rw [if_pos (.inr c3)],trivial⟩) fun c3 => ⟨by (repeat' (first|exact rfl|exact trivial|assumption|apply And.intro|refine fun (_:Unit) (_:True)=>?_|refine Exists.intro () ?_|omega|(dsimp only;omega))),by omega,?_⟩
  have c3 : ¬ i.a ≥ (i.p.count : Int) := c3
  rw [if_neg (by omega)]
  refine Cv.cnd.mk (fun c4 => ⟨(),if_pos c4,trivial⟩) fun c4 => ?_
  rw [if_neg (by rw [xL,c4]; simp),w64 (x := 0 - i.p.wide) (by omega)]
  refine zT (fun c5 => ?_) (fun c5 => ?_)
  · have c5 : (i.p.months.length : Int) ≤ i.a := c5
    simp only [if_pos c5]
    refine zT (fun c6 => ⟨(),if_pos (.inl (by omega)),trivial⟩) fun c6 => zT (fun c7 => ⟨(),if_pos (.inr (by omega)),trivial⟩) fun c7 => ⟨(),if_neg (by omega),trivial⟩
  · have c5 : ¬ (i.p.months.length : Int) ≤ i.a := c5
    simp only [if_neg c5]
    refine zT (fun c6 => ⟨(),if_pos (.inl (by omega)),trivial⟩) fun c6 => zT (fun c7 => ⟨(),if_pos (.inr (by omega)),trivial⟩) fun c7 => ⟨(),if_neg (by omega),trivial⟩
theorem zEz : priceC.ok Try.prog 22 := z2x (gokc uQ gok0) z7o
theorem z3v (x : Int) (h : -18446744073709551616 ≤ x ∧ x < 18446744073709551616) : (yN x ∧ IntKind.i64.wrap x = x) ∨ (9223372036854775807 < x ∧ IntKind.i64.wrap x = x - 18446744073709551616) ∨ (x < -9223372036854775808 ∧ IntKind.i64.wrap x = x + 18446744073709551616) := by
  have e : IntKind.i64.wrap x = if (decide (x % 18446744073709551616 ≥ 9223372036854775808)) = true then x % 18446744073709551616 - 18446744073709551616 else x % 18446744073709551616 := by
    have : IntKind.i64.wrap x = if (true && decide (x % 18446744073709551616 ≥ 9223372036854775808)) = true then x % 18446744073709551616 - 18446744073709551616 else x % 18446744073709551616 := rfl
    rw [this,Bool.true_and]
  have e : IntKind.i64.wrap x = (x + 9223372036854775808) % 18446744073709551616 - 9223372036854775808 := by
    rw [e]
    by_cases h2 : x % 18446744073709551616 ≥ 9223372036854775808
    · rw [if_pos (decide_eq_true h2)]; omega
    · rw [if_neg (by simpa using h2)]; omega
  rw [e]
  by_cases h1 : yN x
  · exact .inl ⟨h1,by unfold yN at h1; omega⟩
  · unfold yN at h1
    omega
theorem yBz (i : I2) (h : addC.cnd i) : z2u i := by
  obtain ⟨⟨x1,x2⟩,y1,y2⟩ : yN i.x ∧ yN i.y := h
  have hw := z3v (i.x + i.y) (by omega)
  unfold z2u kX
  generalize IntKind.i64.wrap (i.x + i.y) = w at hw ⊢
  unfold yN at hw ⊢
  refine Cv.cnd.mk (fun c1 => Cv.cnd.mk (fun c2 => ?_) (fun c2 => ?_)) (fun c1 => ?_)
  all_goals (simp at *)
  · rw [if_neg (by omega)]; (repeat' (first|exact rfl|exact trivial|assumption|apply And.intro|refine fun (_:Unit) (_:True)=>?_|refine Exists.intro () ?_|omega|(dsimp only;omega)))
  · rw [if_pos (by omega)]; refine ⟨?_,rfl⟩; dsimp only; omega
  · rw [if_pos (by omega)]; refine ⟨?_,rfl⟩; dsimp only; omega
theorem zEd : addC.ok Try.prog 95 := z9j gok0 yBz
theorem yCa (i : I2) (h : subC.cnd i) : zZl i := by
  obtain ⟨⟨x1,x2⟩,y1,y2⟩ : yN i.x ∧ yN i.y := h
  have hw := z3v (i.x - i.y) (by omega)
  unfold zZl kT
  generalize IntKind.i64.wrap (i.x - i.y) = w at hw ⊢
  unfold yN at hw ⊢
  refine Cv.cnd.mk (fun c1 => Cv.cnd.mk (fun c2 => ?_) (fun c2 => ?_)) (fun c1 => ?_)
  all_goals (simp at *)
  · rw [if_neg (by omega)]; (repeat' (first|exact rfl|exact trivial|assumption|apply And.intro|refine fun (_:Unit) (_:True)=>?_|refine Exists.intro () ?_|omega|(dsimp only;omega)))
  · rw [if_pos (by omega)]; refine ⟨?_,rfl⟩; dsimp only; omega
  · rw [if_pos (by omega)]; refine ⟨?_,rfl⟩; dsimp only; omega
theorem zCg : subC.ok Try.prog 96 := z9f gok0 yCa
open Go Cv Go.Proofs
structure Slot where
  used : Bool
  n : Int
  id : Int
  qty : Int
  top : Bool
  queue : Int
  ahead : Int
  back : Int
  deriving DecidableEq
structure kB where
  first : Int
  last : Int
  total : Int
  count : Int
  deriving DecidableEq
structure Arena where
  slots : List Slot
  queues : List kB
  free : Int
  deriving DecidableEq
def zN (s : Slot) : List D := [.v (.bool s.used),.v (.int .i64 s.n),.v (.int .i64 s.id),.v (.int .i64 s.qty),.v (.bool s.top),.v (.int .i64 s.queue),.v (.int .i64 s.ahead),.v (.int .i64 s.back)]
def zJ (q : kB) : List D := [.v (.int .i64 q.first),.v (.int .i64 q.last),.v (.int .i64 q.total),.v (.int .i64 q.count)]
def slot0 : Slot := ⟨false,0,0,0,false,0,0,0⟩
def zC (a : Arena) : Nat → AObj
  | 0 => .cells [.own 1,.own 2,zF a.free] 136
  | 1 => .own 142 8 (a.slots.map zN)
  | 2 => .own 146 4 (a.queues.map zJ)
  | _ => .gone
def kG (a : Arena) : AObj := .adt Arena 3 zC a
structure yX where
  price : Int
  queue : Int
  deriving DecidableEq
structure Place where
  side : Int
  price : Int
  slot : Int
  deriving DecidableEq
structure Book where
  a : Arena
  buys : List yX
  sells : List yX
  at_ : List (Int × Place)
  top1 : Int
  top2 : Int
  spare : List Int
  has1 : Bool
  has2 : Bool
  deriving DecidableEq
def zA (r : yX) : List D := [.v (.int .i64 r.price),.v (.int .i64 r.queue)]
def zKh (p : Place) : List D := [.v (.int .i64 p.side),.v (.int .i64 p.price),.v (.int .i64 p.slot)]
def atE (l : List (Int × Place)) : List (Value × List D) := l.map fun x => (.int .i64 x.1,zKh x.2)
def zM (b : Book) : Nat → AObj
  | 0 => .cells [.nm 1 0,.own 2,.own 3,.mp 4,zF b.top1,zF b.top2,.own 5,yG b.has1,yG b.has2] 104
  | 1 => kG b.a
  | 2 => .own 109 2 (b.buys.map zA)
  | 3 => .own 109 2 (b.sells.map zA)
  | 4 => .map (atE b.at_)
  | 5 => .own 3 1 (iE b.spare)
  | _ => .gone
def yC (b : Book) : AObj := .adt Book 6 zM b
structure MSt where
  p : Prd
  books : List Book
  wh : List (Int × Int)
def yJ (l : List (Int × Int)) : List (Value × List D) := l.map fun x => (.int .i64 x.1,[.v (.int .i64 x.2)])
def z8 (s : MSt) : Nat → AObj
  | 0 => .cells [sV s.p.code,.own 3,zF s.p.tick,zF s.p.low,zF s.p.high,zF s.p.wide,zF s.p.rule,zF s.p.top,zF s.p.least,zF s.p.part,.own 4,.own 1,.mp 2] 63
  | 1 => .objs 64 Book 6 zM s.books none
  | 2 => .map (yJ s.wh)
  | 3 => .fro 1 (iE s.p.months)
  | 4 => .fro 1 (iE s.p.settle)
  | _ => .gone
def zR (s : MSt) : AObj := .adt MSt 5 z8 s
def sF (n : Nat) : Arena := ⟨List.replicate n slot0,[],n⟩
def book0 : Book := ⟨sF 250,[],[],[],0,0,[],false,false⟩
def newAC : Con := con1 Nat (fun n => [zF n]) (fun _ => []) (fun n => 1 ≤ n ∧ n ≤ 4096) (fun _ => .tup [.nm 0 0,zF 0]) (fun n => [kG (sF n)])
def newBC : Con := con1 Unit (fun _ => []) (fun _ => []) (fun _ => True) (fun _ => .nm 0 0) (fun _ => [yC book0])
def gC (p : Prd) : MSt := ⟨p,List.replicate p.count book0,[]⟩
def newSC : Con where
  ι := Prd
  pat := fun p => [prdV p]
  pre := fun _ => []
  cnd := fun p => p.small
  alts := fun p => [{ o := Unit,res := fun _ => .tup [.nm 0 0,zF 0],post := fun _ => [zR (gC p)],rel := fun _ => p.check = 0 },{ o := Unit,res := fun _ => .tup [.d (.v (.pointer none)),zF p.check],post := fun _ => [],rel := fun _ => p.check ≠ 0 }]
def z3h (p : Prd) : List SAnn := [{ ι := Nat,slots := fun j => [(5,.nm 0 0),(27,zF j)],rows := fun j => (List.range 5).map (z8 ⟨p,List.replicate j book0,[]⟩) }]
@[reducible] def Arena.small (a : Arena) : Prop := a.slots.length ≤ 1000000 ∧ a.queues.length ≤ 1000000
@[reducible] def Book.small (b : Book) : Prop := b.a.small ∧ b.buys.length ≤ 1000000 ∧ b.sells.length ≤ 1000000 ∧ b.spare.length ≤ 1000000
@[reducible] def MSt.small (s : MSt) : Prop := s.books.length ≤ 1000000 ∧ ∀ b ∈ s.books,b.small
open Go Cv Go.Proofs
def zLl (n : Nat) : Prop :=
  cnd (decide ((↑n : Int) < 1)) (∃ (o : Unit),False) (cnd (decide ((↑n : Int) > 4096)) (∃ (o : Unit),False) ((0 ≤ (↑n : Int)∧(↑n : Int) ≤ (↑n : Int)∧(↑n : Int) ≤ 9223372036854775807∧(↑(64 : Nat) : Int) * (↑n : Int) ≤ 2 ^ (48 : Nat))∧∃ (o : Unit),(0 : Int) = (0 : Int)∧(↑n : Int) = (↑n : Int)∧List.map zN (List.replicate n slot0) = List.replicate (↑n : Int).toNat [D.v (.bool false),D.v (.int .i64 0),D.v (.int .i64 0),D.v (.int .i64 0),D.v (.bool false),D.v (.int .i64 0),D.v (.int .i64 0),D.v (.int .i64 0)]∧([] : List (List D)) = []∧True))
theorem z5v (n : Nat) : zLl n = walk Try.prog ([]) 0 ([]) ([]) [] Try.f43 (Try.f43.body.getD .skip) (newAC.pat n) (newAC.pre n) (newAC.alts n) := by kernel_rfl
theorem z4d (hG : GOk Try.prog ([])) (h : ∀ (n : Nat),newAC.cnd n → zLl n) : newAC.ok Try.prog 43 := zE mixed ([]) hG 0 (fun (n : Nat) => []) (fun (n : Nat) => []) [] Try.func43 (by kernel_rfl) (by kernel_rfl) (by kernel_rfl) (fun _ => by kernel_rfl) (fun (n : Nat) hc => Eq.mp (z5v n) (h n hc))
def z3j (u : Unit) : Prop :=
  ∃ (i : Nat),(↑i : Int) = 250∧(1 ≤ i∧i ≤ 4096)∧∀ (o : Unit),True→∃ (o : Unit),(0 : Int) = (0 : Int)∧(0 : Int) = (0 : Int)∧false = false∧false = false∧AObj.adt Arena 3 zC (sF 250) = AObj.adt Arena 3 zC (sF i)∧([] : List (List D)) = []∧([] : List (List D)) = []∧atE [] = []∧iE [] = []∧True
theorem z8b (u : Unit) : z3j u = walk Try.prog ([(43,newAC)]) 0 ([]) ([]) [] Try.f19 (Try.f19.body.getD .skip) (newBC.pat u) (newBC.pre u) (newBC.alts u) := by kernel_rfl
theorem z7x (hG : GOk Try.prog ([(43,newAC)])) (h : ∀ (u : Unit),newBC.cnd u → z3j u) : newBC.ok Try.prog 19 := zE mixed ([(43,newAC)]) hG 0 (fun (u : Unit) => []) (fun (u : Unit) => []) [] Try.func19 (by kernel_rfl) (by kernel_rfl) (by kernel_rfl) (fun _ => by kernel_rfl) (fun (u : Unit) hc => Eq.mp (z8b u) (h u hc))
@[reducible] def zNt (p : Prd) : AObj := Sx.AObj.cells [V.d (D.v (Value.string (sb p.code))),V.own ((0 : Nat) + (1 : Nat) + (1 : Nat) + (1 : Nat) + ((0 : Nat) - (0 : Nat)) + (1 : Nat)),V.d (D.v (.int .i64 p.tick)),V.d (D.v (.int .i64 p.low)),V.d (D.v (.int .i64 p.high)),V.d (D.v (.int .i64 p.wide)),V.d (D.v (.int .i64 p.rule)),V.d (D.v (.int .i64 p.top)),V.d (D.v (.int .i64 p.least)),V.d (D.v (.int .i64 p.part)),V.own ((0 : Nat) + (1 : Nat) + (1 : Nat) + (1 : Nat) + ((0 : Nat) - (0 : Nat)) + (1 : Nat) + (1 : Nat) + (1 : Nat))] (25 : Nat)
@[reducible] def pR (p : Prd) : AObj := Sx.AObj.cells [V.d (D.v (Value.string (sb p.code))),V.own ((0 : Nat) + (1 : Nat) + (1 : Nat) + (1 : Nat) + ((0 : Nat) - (0 : Nat)) + (1 : Nat) + (1 : Nat)),V.d (D.v (.int .i64 p.tick)),V.d (D.v (.int .i64 p.low)),V.d (D.v (.int .i64 p.high)),V.d (D.v (.int .i64 p.wide)),V.d (D.v (.int .i64 p.rule)),V.d (D.v (.int .i64 p.top)),V.d (D.v (.int .i64 p.least)),V.d (D.v (.int .i64 p.part)),V.own ((0 : Nat) + (1 : Nat) + (1 : Nat) + (1 : Nat) + ((0 : Nat) - (0 : Nat)) + (1 : Nat) + (1 : Nat) + (1 : Nat))] (25 : Nat)
def zUd (p : Prd) : Prop :=
  ∃ (i : Prd),sb i.code = sb p.code∧iE i.months = iE p.months∧i.tick = p.tick∧i.low = p.low∧i.high = p.high∧i.wide = p.wide∧i.rule = p.rule∧i.top = p.top∧i.least = p.least∧i.part = p.part∧iE i.settle = iE p.settle∧(i.code.length ≤ 1099511627776∧i.months.length ≤ 1099511627776∧i.settle.length ≤ 1099511627776)∧∀ (o : Unit),True→cnd (i.check != 0) ((∃ (o : Unit),False) ∨ ∃ (o : Unit),True∧p.check = i.check∧(p.check = 0→False)) ((True∧True∧((0 + (iE p.months).length) * (8 : Nat) ≤ (70368744177664 : Nat)∧True∧True∧(0 + (iE p.settle).length) * (8 : Nat) ≤ (70368744177664 : Nat)∧∃ (i : Prd),sb i.code = sb p.code∧iE i.months = [] ++ iE p.months∧i.tick = p.tick∧i.low = p.low∧i.high = p.high∧i.wide = p.wide∧i.rule = p.rule∧i.top = p.top∧i.least = p.least∧i.part = p.part∧iE i.settle = [] ++ iE p.settle∧(i.code.length ≤ 1099511627776∧i.months.length ≤ 1099511627776∧i.settle.length ≤ 1099511627776)∧∀ (o : Unit),True→∃ (i0 : Nat),(↑i0 : Int) = 0∧sb p.code = sb p.code∧p.tick = p.tick∧p.low = p.low∧p.high = p.high∧p.wide = p.wide∧p.rule = p.rule∧p.top = p.top∧p.least = p.least∧p.part = p.part∧List.replicate i0 book0 = []∧(none : Option Nat) = none∧yJ [] = []∧AObj.fro 1 (iE p.months) = AObj.fro 1 ([] ++ iE p.months)∧AObj.fro 1 (iE p.settle) = AObj.fro 1 ([] ++ iE p.settle)∧∃ (I : Nat→Prop),∃ (μ : Nat→Nat),I i0∧∀ (i_1 : Nat),I i_1→cnd (decide ((↑i_1 : Int) < (↑i.count : Int))) (∃ (i : Unit),True∧∀ (o : Unit),True→True∧True∧∃ (l1' : List Book),AObj.objs 64 Book 6 zM (List.replicate i_1 book0) none = AObj.objs 64 Book 6 zM l1' none∧(l1'.length + 1) * (8 : Nat) ≤ (70368744177664 : Nat)∧∃ (i' : Nat),(↑i' : Int) = IntKind.i64.wrap ((↑i_1 : Int) + 1)∧sb p.code = sb p.code∧p.tick = p.tick∧p.low = p.low∧p.high = p.high∧p.wide = p.wide∧p.rule = p.rule∧p.top = p.top∧p.least = p.least∧p.part = p.part∧AObj.objs 64 Book 6 zM (List.replicate i' book0) none = AObj.objs 64 Book 6 zM (l1' ++ [book0]) none∧yJ [] = yJ []∧AObj.fro 1 (iE p.months) = AObj.fro 1 (iE p.months)∧AObj.fro 1 (iE p.settle) = AObj.fro 1 (iE p.settle)∧I i'∧μ i' < μ i_1∧AObj.fro 1 ([] ++ iE p.settle) = AObj.fro 1 ([] ++ iE p.settle)∧AObj.fro 1 ([] ++ iE p.months) = AObj.fro 1 ([] ++ iE p.months)∧zNt p = zNt p∧AObj.fro 1 (iE p.settle) = AObj.fro 1 (iE p.settle)∧AObj.fro 1 (iE p.months) = AObj.fro 1 (iE p.months)) ((∃ (o : Unit),(0 : Int) = (0 : Int)∧sb p.code = sb p.code∧p.tick = p.tick∧p.low = p.low∧p.high = p.high∧p.wide = p.wide∧p.rule = p.rule∧p.top = p.top∧p.least = p.least∧p.part = p.part∧AObj.objs 64 Book 6 zM (List.replicate p.count book0) none = AObj.objs 64 Book 6 zM (List.replicate i_1 book0) none∧yJ [] = yJ []∧AObj.fro 1 (iE p.months) = AObj.fro 1 (iE p.months)∧AObj.fro 1 (iE p.settle) = AObj.fro 1 (iE p.settle)∧p.check = 0) ∨ ∃ (o : Unit),False))∧True∧True∧(0 + (iE p.months).length) * (8 : Nat) ≤ (70368744177664 : Nat)∧True∧(0 + (iE p.settle).length) * (8 : Nat) ≤ (70368744177664 : Nat)∧∃ (i : Prd),sb i.code = sb p.code∧iE i.months = [] ++ iE p.months∧i.tick = p.tick∧i.low = p.low∧i.high = p.high∧i.wide = p.wide∧i.rule = p.rule∧i.top = p.top∧i.least = p.least∧i.part = p.part∧iE i.settle = [] ++ iE p.settle∧(i.code.length ≤ 1099511627776∧i.months.length ≤ 1099511627776∧i.settle.length ≤ 1099511627776)∧∀ (o : Unit),True→∃ (i0 : Nat),(↑i0 : Int) = 0∧sb p.code = sb p.code∧p.tick = p.tick∧p.low = p.low∧p.high = p.high∧p.wide = p.wide∧p.rule = p.rule∧p.top = p.top∧p.least = p.least∧p.part = p.part∧List.replicate i0 book0 = []∧(none : Option Nat) = none∧yJ [] = []∧AObj.fro 1 (iE p.months) = AObj.fro 1 ([] ++ iE p.months)∧AObj.fro 1 (iE p.settle) = AObj.fro 1 ([] ++ iE p.settle)∧∃ (I : Nat→Prop),∃ (μ : Nat→Nat),I i0∧∀ (i_1 : Nat),I i_1→cnd (decide ((↑i_1 : Int) < (↑i.count : Int))) (∃ (i : Unit),True∧∀ (o : Unit),True→True∧True∧∃ (l1' : List Book),AObj.objs 64 Book 6 zM (List.replicate i_1 book0) none = AObj.objs 64 Book 6 zM l1' none∧(l1'.length + 1) * (8 : Nat) ≤ (70368744177664 : Nat)∧∃ (i' : Nat),(↑i' : Int) = IntKind.i64.wrap ((↑i_1 : Int) + 1)∧sb p.code = sb p.code∧p.tick = p.tick∧p.low = p.low∧p.high = p.high∧p.wide = p.wide∧p.rule = p.rule∧p.top = p.top∧p.least = p.least∧p.part = p.part∧AObj.objs 64 Book 6 zM (List.replicate i' book0) none = AObj.objs 64 Book 6 zM (l1' ++ [book0]) none∧yJ [] = yJ []∧AObj.fro 1 (iE p.months) = AObj.fro 1 (iE p.months)∧AObj.fro 1 (iE p.settle) = AObj.fro 1 (iE p.settle)∧I i'∧μ i' < μ i_1∧AObj.fro 1 ([] ++ iE p.settle) = AObj.fro 1 ([] ++ iE p.settle)∧AObj.fro 1 ([] ++ iE p.months) = AObj.fro 1 ([] ++ iE p.months)∧pR p = pR p∧AObj.fro 1 (iE p.settle) = AObj.fro 1 (iE p.settle)∧AObj.fro 1 (iE p.months) = AObj.fro 1 (iE p.months)) ((∃ (o : Unit),(0 : Int) = (0 : Int)∧sb p.code = sb p.code∧p.tick = p.tick∧p.low = p.low∧p.high = p.high∧p.wide = p.wide∧p.rule = p.rule∧p.top = p.top∧p.least = p.least∧p.part = p.part∧AObj.objs 64 Book 6 zM (List.replicate p.count book0) none = AObj.objs 64 Book 6 zM (List.replicate i_1 book0) none∧yJ [] = yJ []∧AObj.fro 1 (iE p.months) = AObj.fro 1 (iE p.months)∧AObj.fro 1 (iE p.settle) = AObj.fro 1 (iE p.settle)∧p.check = 0) ∨ ∃ (o : Unit),False))∧True∧True∧True∧True∧(0 + (iE p.months).length) * (8 : Nat) ≤ (70368744177664 : Nat)∧True∧(0 + (iE p.settle).length) * (8 : Nat) ≤ (70368744177664 : Nat)∧∃ (i : Prd),sb i.code = sb p.code∧iE i.months = [] ++ iE p.months∧i.tick = p.tick∧i.low = p.low∧i.high = p.high∧i.wide = p.wide∧i.rule = p.rule∧i.top = p.top∧i.least = p.least∧i.part = p.part∧iE i.settle = [] ++ iE p.settle∧(i.code.length ≤ 1099511627776∧i.months.length ≤ 1099511627776∧i.settle.length ≤ 1099511627776)∧∀ (o : Unit),True→∃ (i0 : Nat),(↑i0 : Int) = 0∧sb p.code = sb p.code∧p.tick = p.tick∧p.low = p.low∧p.high = p.high∧p.wide = p.wide∧p.rule = p.rule∧p.top = p.top∧p.least = p.least∧p.part = p.part∧List.replicate i0 book0 = []∧(none : Option Nat) = none∧yJ [] = []∧AObj.fro 1 (iE p.months) = AObj.fro 1 ([] ++ iE p.months)∧AObj.fro 1 (iE p.settle) = AObj.fro 1 ([] ++ iE p.settle)∧∃ (I : Nat→Prop),∃ (μ : Nat→Nat),I i0∧∀ (i_1 : Nat),I i_1→cnd (decide ((↑i_1 : Int) < (↑i.count : Int))) (∃ (i : Unit),True∧∀ (o : Unit),True→True∧True∧∃ (l1' : List Book),AObj.objs 64 Book 6 zM (List.replicate i_1 book0) none = AObj.objs 64 Book 6 zM l1' none∧(l1'.length + 1) * (8 : Nat) ≤ (70368744177664 : Nat)∧∃ (i' : Nat),(↑i' : Int) = IntKind.i64.wrap ((↑i_1 : Int) + 1)∧sb p.code = sb p.code∧p.tick = p.tick∧p.low = p.low∧p.high = p.high∧p.wide = p.wide∧p.rule = p.rule∧p.top = p.top∧p.least = p.least∧p.part = p.part∧AObj.objs 64 Book 6 zM (List.replicate i' book0) none = AObj.objs 64 Book 6 zM (l1' ++ [book0]) none∧yJ [] = yJ []∧AObj.fro 1 (iE p.months) = AObj.fro 1 (iE p.months)∧AObj.fro 1 (iE p.settle) = AObj.fro 1 (iE p.settle)∧I i'∧μ i' < μ i_1∧AObj.fro 1 ([] ++ iE p.settle) = AObj.fro 1 ([] ++ iE p.settle)∧AObj.fro 1 ([] ++ iE p.months) = AObj.fro 1 ([] ++ iE p.months)∧pR p = pR p∧AObj.fro 1 (iE p.settle) = AObj.fro 1 (iE p.settle)∧AObj.fro 1 (iE p.months) = AObj.fro 1 (iE p.months)) ((∃ (o : Unit),(0 : Int) = (0 : Int)∧sb p.code = sb p.code∧p.tick = p.tick∧p.low = p.low∧p.high = p.high∧p.wide = p.wide∧p.rule = p.rule∧p.top = p.top∧p.least = p.least∧p.part = p.part∧AObj.objs 64 Book 6 zM (List.replicate p.count book0) none = AObj.objs 64 Book 6 zM (List.replicate i_1 book0) none∧yJ [] = yJ []∧AObj.fro 1 (iE p.months) = AObj.fro 1 (iE p.months)∧AObj.fro 1 (iE p.settle) = AObj.fro 1 (iE p.settle)∧p.check = 0) ∨ ∃ (o : Unit),False))
theorem z5k (p : Prd) : zUd p = walk Try.prog ([(17,checkC),(18,pcountC),(19,newBC)]) 0 ([]) (z3h p) [] Try.f7 (Try.f7.body.getD .skip) (newSC.pat p) (newSC.pre p) (newSC.alts p) := by kernel_rfl
theorem z6h (hG : GOk Try.prog ([(17,checkC),(18,pcountC),(19,newBC)])) (h : ∀ (p : Prd),newSC.cnd p → zUd p) : newSC.ok Try.prog 7 := zE mixed ([(17,checkC),(18,pcountC),(19,newBC)]) hG 0 (fun (p : Prd) => []) (fun (p : Prd) => z3h p) [] Try.func7 (by kernel_rfl) (by kernel_rfl) (by kernel_rfl) (fun _ => by kernel_rfl) (fun (p : Prd) hc => Eq.mp (z5k p) (h p hc))
open Go Cv Go.Proofs
theorem z9k (n : Nat) (h : newAC.cnd n) : zLl n := by
  obtain ⟨h1,h2⟩ : 1 ≤ n ∧ n ≤ 4096 := h
  unfold zLl
  refine zT (fun c => by omega) fun c => zT (fun c => by omega) fun c => ?_
  refine ⟨⟨by omega,by omega,by omega,?_⟩,?_⟩
  · have : (2 : Int) ^ (48 : Nat) = 281474976710656 := by decide
    rw [this]; omega
  · refine ⟨(),rfl,rfl,?_,rfl,trivial⟩
    rw [List.map_replicate]; rfl
theorem z0f : newAC.ok Try.prog 43 := z4d gok0 z9k
theorem z1j : newBC.ok Try.prog 19 := z7x (gokc z0f gok0) fun u _ => by
  refine ⟨250,rfl,⟨by omega,by omega⟩,?_⟩; (repeat' (first|exact rfl|exact trivial|assumption|apply And.intro|refine fun (_:Unit) (_:True)=>?_|refine Exists.intro () ?_|omega|(dsimp only;omega)))
theorem z8v (p : Prd) (h : newSC.cnd p) : zUd p := by
  have hs : p.small := h
  obtain ⟨h1,h2,h3⟩ : p.small := h
  refine ⟨p,?_⟩
  simp only [yU]
  (repeat' (first|exact rfl|exact trivial|assumption|apply And.intro|refine fun (_:Unit) (_:True)=>?_|refine Exists.intro () ?_|omega|(dsimp only;omega)))
  refine Cv.cnd.mk (fun c => .inr ⟨(),trivial,by (repeat' (first|exact rfl|exact trivial|assumption|apply And.intro|refine fun (_:Unit) (_:True)=>?_|refine Exists.intro () ?_|omega|(dsimp only;omega))),by simpa using c⟩) fun c => ?_
  have c : p.check = 0 := by simpa using c
  have hc := j1 p
  (repeat' (first|exact rfl|exact trivial|assumption|apply And.intro|refine fun (_:Unit) (_:True)=>?_|refine Exists.intro () ?_|omega|(dsimp only;omega)))
  all_goals (refine ⟨p,?_⟩; (repeat' (first|exact rfl|exact trivial|assumption|apply And.intro|refine fun (_:Unit) (_:True)=>?_|refine Exists.intro () ?_|omega|(dsimp only;omega))))
  all_goals (refine ⟨0,?_⟩; (repeat' (first|exact rfl|exact trivial|assumption|apply And.intro|refine fun (_:Unit) (_:True)=>?_|refine Exists.intro () ?_|omega|(dsimp only;omega))))
  all_goals (refine ⟨fun j => j ≤ p.count,fun j => p.count - j,by omega,fun j hj => zT (fun hlt => ?_) (fun hlt => ?_)⟩; all_goals dsimp only at hj hlt)
  all_goals first
    | (refine .inl ⟨(),?_⟩
       obtain rfl : j = p.count := by omega
       (repeat' (first|exact rfl|exact trivial|assumption|apply And.intro|refine fun (_:Unit) (_:True)=>?_|refine Exists.intro () ?_|omega|(dsimp only;omega))))
    | (refine ⟨(),trivial,fun _ _ => ⟨trivial,trivial,List.replicate j book0,rfl,?_,j + 1,?_⟩⟩
       · rw [List.length_replicate]; omega
       · rw [w64 (by omega),← List.replicate_succ']
         (repeat' (first|exact rfl|exact trivial|assumption|apply And.intro|refine fun (_:Unit) (_:True)=>?_|refine Exists.intro () ?_|omega|(dsimp only;omega))))
theorem newS_ok : newSC.ok Try.prog 7 := z6h (gokc sE (gokc uQ (gokc z1j gok0))) z8v
open Go Cv Go.Proofs
structure ArN where
  a : Arena
  n : Int
def Arena.qAt (a : Arena) (n : Int) : kB := if 0 ≤ n ∧ n < a.queues.length then a.queues.getD n.toNat ⟨0,0,0,0⟩ else ⟨0,0,0,0⟩
def atotalC : Con := con1 ArN (fun i => [.nm 0 0,zF i.n]) (fun i => [kG i.a]) (fun i => True) (fun i => zF (i.a.qAt i.n).total) (fun i => [kG i.a])
def acountC : Con := con1 ArN (fun i => [.nm 0 0,zF i.n]) (fun i => [kG i.a]) (fun i => True) (fun i => zF (i.a.qAt i.n).count) (fun i => [kG i.a])
def bisC : Con := con1 Int (fun n => [zF n]) (fun _ => []) (fun _ => True) (fun n => yG (decide (n = 1) || decide (n = 2))) (fun _ => [])
structure BkR where
  b : Book
  r : yX
def Book.told (b : Book) (r : yX) : Lv := ⟨r.price,(b.a.qAt r.queue).total,(b.a.qAt r.queue).count⟩
@[reducible] def Book.cntOk (b : Book) : Prop := ∀ q ∈ b.a.queues,yN q.count
def toldC : Con := con1 BkR (fun i => [.nm 0 0,.agg [zF i.r.price,zF i.r.queue]]) (fun i => [yC i.b]) (fun i => i.b.cntOk) (fun i => lvV (i.b.told i.r)) (fun i => [yC i.b])
def Book.best (b : Book) (l : List yX) : Lv × Bool := match l with
  | [] => (⟨0,0,0⟩,false)
  | r :: _ => (b.told r,true)
structure BkS where
  side : Bool
  b : Book
def Book.side (b : Book) (s : Bool) : List yX := if s then b.sells else b.buys
@[reducible] def zJj (b : Book) (l : List yX) : V := .tup [lvV (b.best l).1,yG (b.best l).2]
def best1C : Con := con1 Book (fun _ => [.nm 0 0,zF 1]) (fun b => [yC b]) Book.cntOk (fun b => zJj b b.buys) (fun b => [yC b])
def best2C : Con := con1 Book (fun _ => [.nm 0 0,zF 2]) (fun b => [yC b]) Book.cntOk (fun b => zJj b b.sells) (fun b => [yC b])
def zB (s : Bool) : Int := if s then 2 else 1
def bestC : Con := con1 BkS (fun i => [.nm 0 0,zF (zB i.side)]) (fun i => [yC i.b]) (fun i => i.b.cntOk) (fun i => zJj i.b (i.b.side i.side)) (fun i => [yC i.b])
structure Top where
  has1 : Bool
  has2 : Bool
  p1 : Int
  p2 : Int
  q1 : Int
  q2 : Int
  deriving DecidableEq
def zQ (t : Top) : List D := [.v (.bool t.has1),.v (.bool t.has2),.v (.int .i64 t.p1),.v (.int .i64 t.p2),.v (.int .i64 t.q1),.v (.int .i64 t.q2)]
def top0 : Top := ⟨false,false,0,0,0,0⟩
def Top.buy (t : Top) (x : Lv × Bool) : Top := if x.2 then { t with has1 := true,p1 := x.1.price,q1 := x.1.qty } else t
def Top.sell (t : Top) (x : Lv × Bool) : Top := if x.2 then { t with has2 := true,p2 := x.1.price,q2 := x.1.qty } else t
def Book.top (b : Book) : Top := (top0.buy (b.best b.buys)).sell (b.best b.sells)
def MSt.tops (s : MSt) : List Top := s.books.map Book.top
@[reducible] def MSt.cntOk (s : MSt) : Prop := s.books.length ≤ 1000000 ∧ ∀ b ∈ s.books,b.cntOk
def yM (s : MSt) (j : Nat) (x : Top) : List Top := (s.tops.take j) ++ x :: List.replicate (s.books.length - j - 1) top0
def kC (s : MSt) (j : Nat) : List Top := (s.tops.take j) ++ List.replicate (s.books.length - j) top0
def z3m (s : MSt) : List SAnn := [
  { ι := Nat,slots := fun j => [(3,.own 0),(21,zF j)],rows := fun j => [.own 151 6 ((kC s j).map zQ)] },
  { ι := Unit,slots := fun _ => [],rows := fun _ => [],un := 3 }]
def z3e (s : MSt) : List (Nat × SAnn) := [(15,{ ι := Nat × Top,slots := fun x => [(3,.own 0)],slots0 := fun x => [(3,.own 0)],rows0 := fun x => [.own 151 6 ((yM s x.1 x.2).map zQ)],rows := fun x => [.own 151 6 ((yM s x.1 x.2).map zQ)] })]
open Go Cv Go.Proofs
def zAz (i : ArN) : Prop :=
  cnd (decide (i.n ≥ 0)) (cnd (!decide (i.n < (↑(List.map zJ i.a.queues).length : Int))) (∃ (o : Unit),(i.a.qAt i.n).total = 0∧i.a.free = i.a.free∧List.map zN i.a.slots = List.map zN i.a.slots∧List.map zJ i.a.queues = List.map zJ i.a.queues∧True) ((0 ≤ i.n∧i.n < (↑(List.map zJ i.a.queues).length : Int))∧∃ (n : Int),zG (List.map zJ i.a.queues) i.n.toNat ((0 : Nat) + (2 : Nat)) 1 = some [D.v (.int .i64 n)]∧∃ (o : Unit),(i.a.qAt i.n).total = n∧i.a.free = i.a.free∧List.map zN i.a.slots = List.map zN i.a.slots∧List.map zJ i.a.queues = List.map zJ i.a.queues∧True)) (∃ (o : Unit),(i.a.qAt i.n).total = 0∧i.a.free = i.a.free∧List.map zN i.a.slots = List.map zN i.a.slots∧List.map zJ i.a.queues = List.map zJ i.a.queues∧True)
theorem zVv (i : ArN) : zAz i = walk Try.prog ([]) 1 ([]) ([]) [0] Try.f79 (Try.f79.body.getD .skip) (atotalC.pat i) (atotalC.pre i) (atotalC.alts i) := by kernel_rfl
theorem zUh (hG : GOk Try.prog ([])) (h : ∀ (i : ArN),atotalC.cnd i → zAz i) : atotalC.ok Try.prog 79 := zE mixed ([]) hG 1 (fun (i : ArN) => []) (fun (i : ArN) => []) [0] Try.func79 (by kernel_rfl) (by kernel_rfl) (by kernel_rfl) (fun _ => by kernel_rfl) (fun (i : ArN) hc => Eq.mp (zVv i) (h i hc))
def zEj (i : ArN) : Prop :=
  cnd (decide (i.n ≥ 0)) (cnd (!decide (i.n < (↑(List.map zJ i.a.queues).length : Int))) (∃ (o : Unit),(i.a.qAt i.n).count = 0∧i.a.free = i.a.free∧List.map zN i.a.slots = List.map zN i.a.slots∧List.map zJ i.a.queues = List.map zJ i.a.queues∧True) ((0 ≤ i.n∧i.n < (↑(List.map zJ i.a.queues).length : Int))∧∃ (n : Int),zG (List.map zJ i.a.queues) i.n.toNat ((0 : Nat) + (3 : Nat)) 1 = some [D.v (.int .i64 n)]∧∃ (o : Unit),(i.a.qAt i.n).count = n∧i.a.free = i.a.free∧List.map zN i.a.slots = List.map zN i.a.slots∧List.map zJ i.a.queues = List.map zJ i.a.queues∧True)) (∃ (o : Unit),(i.a.qAt i.n).count = 0∧i.a.free = i.a.free∧List.map zN i.a.slots = List.map zN i.a.slots∧List.map zJ i.a.queues = List.map zJ i.a.queues∧True)
theorem zVo (i : ArN) : zEj i = walk Try.prog ([]) 1 ([]) ([]) [0] Try.f80 (Try.f80.body.getD .skip) (acountC.pat i) (acountC.pre i) (acountC.alts i) := by kernel_rfl
theorem zSg (hG : GOk Try.prog ([])) (h : ∀ (i : ArN),acountC.cnd i → zEj i) : acountC.ok Try.prog 80 := zE mixed ([]) hG 1 (fun (i : ArN) => []) (fun (i : ArN) => []) [0] Try.func80 (by kernel_rfl) (by kernel_rfl) (by kernel_rfl) (fun _ => by kernel_rfl) (fun (i : ArN) hc => Eq.mp (zVo i) (h i hc))
def z7n (n : Int) : Prop :=
  cnd (n == 1) (∃ (o : Unit),(decide (n = 1) || decide (n = 2)) = true∧True) (∃ (o : Unit),(decide (n = 1) || decide (n = 2)) = (n == 2)∧True)
theorem yAu (n : Int) : z7n n = walk Try.prog ([]) 0 ([]) ([]) [] Try.f44 (Try.f44.body.getD .skip) (bisC.pat n) (bisC.pre n) (bisC.alts n) := by kernel_rfl
theorem z8q (hG : GOk Try.prog ([])) (h : ∀ (n : Int),bisC.cnd n → z7n n) : bisC.ok Try.prog 44 := zE mixed ([]) hG 0 (fun (n : Int) => []) (fun (n : Int) => []) [] Try.func44 (by kernel_rfl) (by kernel_rfl) (by kernel_rfl) (fun _ => by kernel_rfl) (fun (n : Int) hc => Eq.mp (yAu n) (h n hc))
def z3r (i : BkR) : Prop :=
  ∃ (i_1 : ArN),i_1.n = i.r.queue∧AObj.adt Arena 3 zC i_1.a = AObj.adt Arena 3 zC i.b.a∧True∧∀ (o : Unit),True→i.r.queue = i.r.queue∧True∧i.r.price = i.r.price∧∃ (i_2 : ArN),i_2.n = i.r.queue∧AObj.adt Arena 3 zC i_2.a = AObj.adt Arena 3 zC i_1.a∧True∧∀ (o : Unit),True→i.r.price = i.r.price∧∃ (o : Unit),i.r.price = i.r.price∧(i.b.a.qAt i.r.queue).total = (i_1.a.qAt i_1.n).total∧(i.b.a.qAt i.r.queue).count = (i_2.a.qAt i_2.n).count∧i.b.top1 = i.b.top1∧i.b.top2 = i.b.top2∧i.b.has1 = i.b.has1∧i.b.has2 = i.b.has2∧AObj.adt Arena 3 zC i.b.a = AObj.adt Arena 3 zC i_2.a∧List.map zA i.b.buys = List.map zA i.b.buys∧List.map zA i.b.sells = List.map zA i.b.sells∧atE i.b.at_ = atE i.b.at_∧iE i.b.spare = iE i.b.spare∧True
theorem z4t (i : BkR) : z3r i = walk Try.prog ([(79,atotalC),(80,acountC)]) 0 ([]) ([]) [0] Try.f60 (Try.f60.body.getD .skip) (toldC.pat i) (toldC.pre i) (toldC.alts i) := by kernel_rfl
theorem z5r (hG : GOk Try.prog ([(79,atotalC),(80,acountC)])) (h : ∀ (i : BkR),toldC.cnd i → z3r i) : toldC.ok Try.prog 60 := zE mixed ([(79,atotalC),(80,acountC)]) hG 0 (fun (i : BkR) => []) (fun (i : BkR) => []) [0] Try.func60 (by kernel_rfl) (by kernel_rfl) (by kernel_rfl) (fun _ => by kernel_rfl) (fun (i : BkR) hc => Eq.mp (z4t i) (h i hc))
def zXc (b : Book) : Prop :=
  ∃ (i : Int),i = 1∧True∧∀ (o : Unit),True→cnd (!(decide (i = 1) || decide (i = 2))) (∃ (o : Unit),(b.best b.buys).fst.price = 0∧(b.best b.buys).fst.qty = 0∧(b.best b.buys).fst.count = 0∧(b.best b.buys).snd = false∧b.top1 = b.top1∧b.top2 = b.top2∧b.has1 = b.has1∧b.has2 = b.has2∧AObj.adt Arena 3 zC b.a = AObj.adt Arena 3 zC b.a∧List.map zA b.buys = List.map zA b.buys∧List.map zA b.sells = List.map zA b.sells∧atE b.at_ = atE b.at_∧iE b.spare = iE b.spare∧True) (cnd ((↑(List.map zA b.buys).length : Int) == 0) (∃ (o : Unit),(b.best b.buys).fst.price = 0∧(b.best b.buys).fst.qty = 0∧(b.best b.buys).fst.count = 0∧(b.best b.buys).snd = false∧b.top1 = b.top1∧b.top2 = b.top2∧b.has1 = b.has1∧b.has2 = b.has2∧AObj.adt Arena 3 zC b.a = AObj.adt Arena 3 zC b.a∧List.map zA b.buys = List.map zA b.buys∧List.map zA b.sells = List.map zA b.sells∧atE b.at_ = atE b.at_∧iE b.spare = iE b.spare∧True) (((0 : Int) ≤ (0 : Int)∧0 < (↑(List.map zA b.buys).length : Int))∧∃ (n : Int),∃ (n_1 : Int),zG (List.map zA b.buys) (Int.toNat 0) 0 2 = some [D.v (.int .i64 n),D.v (.int .i64 n_1)]∧∃ (i : BkR),i.r.price = n∧i.r.queue = n_1∧i.b.top1 = b.top1∧i.b.top2 = b.top2∧i.b.has1 = b.has1∧i.b.has2 = b.has2∧AObj.adt Arena 3 zC i.b.a = AObj.adt Arena 3 zC b.a∧List.map zA i.b.buys = List.map zA b.buys∧List.map zA i.b.sells = List.map zA b.sells∧atE i.b.at_ = atE b.at_∧iE i.b.spare = iE b.spare∧(∀ (q : kB),q ∈ i.b.a.queues→(-9223372036854775808) ≤ q.count∧q.count ≤ 9223372036854775807)∧∀ (o : Unit),True→∃ (o : Unit),(b.best b.buys).fst.price = i.r.price∧(b.best b.buys).fst.qty = (i.b.a.qAt i.r.queue).total∧(b.best b.buys).fst.count = (i.b.a.qAt i.r.queue).count∧(b.best b.buys).snd = true∧yC b = yC i.b∧True))
theorem zYr (b : Book) : zXc b = walk Try.prog ([(44,bisC),(60,toldC)]) 0 ([]) ([]) [0] Try.f52 (Try.f52.body.getD .skip) (best1C.pat b) (best1C.pre b) (best1C.alts b) := by kernel_rfl
theorem zZg (hG : GOk Try.prog ([(44,bisC),(60,toldC)])) (h : ∀ (b : Book),best1C.cnd b → zXc b) : best1C.ok Try.prog 52 := zE mixed ([(44,bisC),(60,toldC)]) hG 0 (fun (b : Book) => []) (fun (b : Book) => []) [0] Try.func52 (by kernel_rfl) (by kernel_rfl) (by kernel_rfl) (fun _ => by kernel_rfl) (fun (b : Book) hc => Eq.mp (zYr b) (h b hc))
def zVs (b : Book) : Prop :=
  ∃ (i : Int),i = 2∧True∧∀ (o : Unit),True→cnd (!(decide (i = 1) || decide (i = 2))) (∃ (o : Unit),(b.best b.sells).fst.price = 0∧(b.best b.sells).fst.qty = 0∧(b.best b.sells).fst.count = 0∧(b.best b.sells).snd = false∧b.top1 = b.top1∧b.top2 = b.top2∧b.has1 = b.has1∧b.has2 = b.has2∧AObj.adt Arena 3 zC b.a = AObj.adt Arena 3 zC b.a∧List.map zA b.buys = List.map zA b.buys∧List.map zA b.sells = List.map zA b.sells∧atE b.at_ = atE b.at_∧iE b.spare = iE b.spare∧True) (cnd ((↑(List.map zA b.sells).length : Int) == 0) (∃ (o : Unit),(b.best b.sells).fst.price = 0∧(b.best b.sells).fst.qty = 0∧(b.best b.sells).fst.count = 0∧(b.best b.sells).snd = false∧b.top1 = b.top1∧b.top2 = b.top2∧b.has1 = b.has1∧b.has2 = b.has2∧AObj.adt Arena 3 zC b.a = AObj.adt Arena 3 zC b.a∧List.map zA b.buys = List.map zA b.buys∧List.map zA b.sells = List.map zA b.sells∧atE b.at_ = atE b.at_∧iE b.spare = iE b.spare∧True) (((0 : Int) ≤ (0 : Int)∧0 < (↑(List.map zA b.sells).length : Int))∧∃ (n : Int),∃ (n_1 : Int),zG (List.map zA b.sells) (Int.toNat 0) 0 2 = some [D.v (.int .i64 n),D.v (.int .i64 n_1)]∧∃ (i : BkR),i.r.price = n∧i.r.queue = n_1∧i.b.top1 = b.top1∧i.b.top2 = b.top2∧i.b.has1 = b.has1∧i.b.has2 = b.has2∧AObj.adt Arena 3 zC i.b.a = AObj.adt Arena 3 zC b.a∧List.map zA i.b.buys = List.map zA b.buys∧List.map zA i.b.sells = List.map zA b.sells∧atE i.b.at_ = atE b.at_∧iE i.b.spare = iE b.spare∧(∀ (q : kB),q ∈ i.b.a.queues→(-9223372036854775808) ≤ q.count∧q.count ≤ 9223372036854775807)∧∀ (o : Unit),True→∃ (o : Unit),(b.best b.sells).fst.price = i.r.price∧(b.best b.sells).fst.qty = (i.b.a.qAt i.r.queue).total∧(b.best b.sells).fst.count = (i.b.a.qAt i.r.queue).count∧(b.best b.sells).snd = true∧yC b = yC i.b∧True))
theorem z0y (b : Book) : zVs b = walk Try.prog ([(44,bisC),(60,toldC)]) 0 ([]) ([]) [0] Try.f52 (Try.f52.body.getD .skip) (best2C.pat b) (best2C.pre b) (best2C.alts b) := by kernel_rfl
theorem zZf (hG : GOk Try.prog ([(44,bisC),(60,toldC)])) (h : ∀ (b : Book),best2C.cnd b → zVs b) : best2C.ok Try.prog 52 := zE mixed ([(44,bisC),(60,toldC)]) hG 0 (fun (b : Book) => []) (fun (b : Book) => []) [0] Try.func52 (by kernel_rfl) (by kernel_rfl) (by kernel_rfl) (fun _ => by kernel_rfl) (fun (b : Book) hc => Eq.mp (z0y b) (h b hc))
open Go Cv Go.Proofs
theorem elA {α : Type} {f : α → List D} {l : List α} {i g n : Nat} {x : α} {r : List D} (h : l[i]? = some x) (hn : g + n ≤ (f x).length) (hr : ((f x).drop g).take n = r) : zG (l.map f) i g n = some r := by
  unfold zG
  rw [List.getElem?_map,h]
  simp only [Option.map_some,Nat.ble_eq_true_of_le hn,cond_true,hr]
theorem zDj {a : Arena} {n : Int} {q : kB} (h0 : 0 ≤ n) (h : a.queues[n.toNat]? = some q) : a.qAt n = q := by
  have := (List.getElem?_eq_some_iff.1 h).1
  rw [Arena.qAt,if_pos ⟨h0,by omega⟩,List.getD_eq_getElem?_getD,h]; rfl
theorem nV {a : Arena} {n : Int} (h : ¬ (0 ≤ n ∧ n < a.queues.length)) : a.qAt n = ⟨0,0,0,0⟩ := by rw [Arena.qAt,if_neg h]
theorem zOp : atotalC.ok Try.prog 79 := zUh gok0 fun i _ => by
  unfold zAz
  simp only [List.length_map]
  refine zT (fun c => Cv.cnd.mk (fun d => ?_) (fun d => ?_)) (fun c => ?_)
  · have d : ¬ i.n < (i.a.queues.length : Int) := by simpa using d
    rw [nV (by omega)]; (repeat' (first|exact rfl|exact trivial|assumption|apply And.intro|refine fun (_:Unit) (_:True)=>?_|refine Exists.intro () ?_|omega|(dsimp only;omega)))
  · have d : i.n < (i.a.queues.length : Int) := by simpa using d
    obtain ⟨q,hq⟩ := z9 (l := i.a.queues) (i := i.n.toNat) (by omega)
    rw [zDj (by omega) hq]
    refine ⟨⟨by omega,by omega⟩,q.total,elA hq (by simp [zJ]) rfl,?_⟩; (repeat' (first|exact rfl|exact trivial|assumption|apply And.intro|refine fun (_:Unit) (_:True)=>?_|refine Exists.intro () ?_|omega|(dsimp only;omega)))
  · rw [nV (by omega)]; (repeat' (first|exact rfl|exact trivial|assumption|apply And.intro|refine fun (_:Unit) (_:True)=>?_|refine Exists.intro () ?_|omega|(dsimp only;omega)))
theorem mA : acountC.ok Try.prog 80 := zSg gok0 fun i _ => by
  unfold zEj
  simp only [List.length_map]
  refine zT (fun c => Cv.cnd.mk (fun d => ?_) (fun d => ?_)) (fun c => ?_)
  · have d : ¬ i.n < (i.a.queues.length : Int) := by simpa using d
    rw [nV (by omega)]; (repeat' (first|exact rfl|exact trivial|assumption|apply And.intro|refine fun (_:Unit) (_:True)=>?_|refine Exists.intro () ?_|omega|(dsimp only;omega)))
  · have d : i.n < (i.a.queues.length : Int) := by simpa using d
    obtain ⟨q,hq⟩ := z9 (l := i.a.queues) (i := i.n.toNat) (by omega)
    rw [zDj (by omega) hq]
    refine ⟨⟨by omega,by omega⟩,q.count,elA hq (by simp [zJ]) rfl,?_⟩; (repeat' (first|exact rfl|exact trivial|assumption|apply And.intro|refine fun (_:Unit) (_:True)=>?_|refine Exists.intro () ?_|omega|(dsimp only;omega)))
  · rw [nV (by omega)]; (repeat' (first|exact rfl|exact trivial|assumption|apply And.intro|refine fun (_:Unit) (_:True)=>?_|refine Exists.intro () ?_|omega|(dsimp only;omega)))
theorem mH : bisC.ok Try.prog 44 := z8q gok0 fun n _ => by
  unfold z7n
  refine Cv.cnd.mk (fun c => ⟨(),?_,trivial⟩) (fun c => ⟨(),?_,trivial⟩)
  all_goals simp at c
  · simp [c]
  · by_cases h : n = 2 <;> simp [c,h]
theorem zLs : toldC.ok Try.prog 60 := z5r (gokc zOp (gokc mA gok0)) fun i h => by
  refine ⟨⟨i.b.a,i.r.queue⟩,?_⟩; (repeat' (first|exact rfl|exact trivial|assumption|apply And.intro|refine fun (_:Unit) (_:True)=>?_|refine Exists.intro () ?_|omega|(dsimp only;omega)))
  refine ⟨⟨i.b.a,i.r.queue⟩,?_⟩; (repeat' (first|exact rfl|exact trivial|assumption|apply And.intro|refine fun (_:Unit) (_:True)=>?_|refine Exists.intro () ?_|omega|(dsimp only;omega)))
theorem zRk : best1C.ok Try.prog 52 := zZg (gokc mH (gokc zLs gok0)) fun b h => by
  have h : b.cntOk := h
  refine ⟨1,rfl,trivial,fun _ _ => Cv.cnd.mk (fun c => absurd c (by decide)) fun _ => ?_⟩
  simp only [List.length_map]
  refine Cv.cnd.mk (fun c => ?_) (fun c => ?_)
  · have hl : b.buys = [] := List.eq_nil_of_length_eq_zero (by have : (b.buys.length : Int) = 0 := (by simpa using c); omega)
    have e : b.best b.buys = (⟨0,0,0⟩,false) := by rw [hl]; rfl
    rw [e]; (repeat' (first|exact rfl|exact trivial|assumption|apply And.intro|refine fun (_:Unit) (_:True)=>?_|refine Exists.intro () ?_|omega|(dsimp only;omega)))
  · obtain ⟨r,l,hl⟩ : ∃ r l,b.buys = r :: l := by
      cases hb : b.buys with
      | nil => rw [hb] at c; exact absurd c (by decide)
      | cons r l => exact ⟨r,l,rfl⟩
    have e : b.best b.buys = (b.told r,true) := by rw [hl]; rfl
    rw [e]
    refine ⟨⟨by omega,by rw [hl,List.length_cons]; omega⟩,r.price,r.queue,elA (x := r) (by rw [hl]; rfl) (by simp [zA]) rfl,⟨b,r⟩,?_⟩
    (repeat' (first|exact rfl|exact trivial|assumption|apply And.intro|refine fun (_:Unit) (_:True)=>?_|refine Exists.intro () ?_|omega|(dsimp only;omega)))
theorem zTj : best2C.ok Try.prog 52 := zZf (gokc mH (gokc zLs gok0)) fun b h => by
  have h : b.cntOk := h
  refine ⟨2,rfl,trivial,fun _ _ => Cv.cnd.mk (fun c => absurd c (by decide)) fun _ => ?_⟩
  simp only [List.length_map]
  refine Cv.cnd.mk (fun c => ?_) (fun c => ?_)
  · have hl : b.sells = [] := List.eq_nil_of_length_eq_zero (by have : (b.sells.length : Int) = 0 := (by simpa using c); omega)
    have e : b.best b.sells = (⟨0,0,0⟩,false) := by rw [hl]; rfl
    rw [e]; (repeat' (first|exact rfl|exact trivial|assumption|apply And.intro|refine fun (_:Unit) (_:True)=>?_|refine Exists.intro () ?_|omega|(dsimp only;omega)))
  · obtain ⟨r,l,hl⟩ : ∃ r l,b.sells = r :: l := by
      cases hb : b.sells with
      | nil => rw [hb] at c; exact absurd c (by decide)
      | cons r l => exact ⟨r,l,rfl⟩
    have e : b.best b.sells = (b.told r,true) := by rw [hl]; rfl
    rw [e]
    refine ⟨⟨by omega,by rw [hl,List.length_cons]; omega⟩,r.price,r.queue,elA (x := r) (by rw [hl]; rfl) (by simp [zA]) rfl,⟨b,r⟩,?_⟩
    (repeat' (first|exact rfl|exact trivial|assumption|apply And.intro|refine fun (_:Unit) (_:True)=>?_|refine Exists.intro () ?_|omega|(dsimp only;omega)))
theorem zEf : bestC.ok Try.prog 52 := fun i => match i with
  | ⟨false,b⟩ => zRk b
  | ⟨true,b⟩ => zTj b
theorem rA {α : Type} (f : α → α) (x : α) (b : List α) : ∀ a : List α,(a ++ x :: b).modify a.length f = a ++ f x :: b
  | [] => rfl
  | y :: a => by
    show y :: (a ++ x :: b).modify a.length f = _
    rw [rA f x b a]; rfl
theorem lZ {els : List (List D)} {a b : List (List D)} {x y ds : List D} {j f : Nat} (h : els = a ++ x :: b) (hl : a.length = j) (hy : x.take f ++ (ds ++ x.drop (f + ds.length)) = y) : zK els j f ds = a ++ y :: b := by
  rw [zK,h,← hl,rA,hy]
theorem j5 {s : MSt} {j : Nat} {x y : Top} {f : Nat} {ds : List D} (hj : j < s.books.length) (hy : (zQ x).take f ++ (ds ++ (zQ x).drop (f + ds.length)) = zQ y) :
    zK (List.map zQ (yM s j x)) j f ds = List.map zQ (yM s j y) := by
  rw [lZ (a := (s.tops.take j).map zQ) (b := (List.replicate (s.books.length - j - 1) top0).map zQ) (by rw [yM,List.map_append,List.map_cons]) (by
    rw [List.length_map,List.length_take,MSt.tops,List.length_map]; omega) hy,yM,List.map_append,List.map_cons]
theorem zJi {s : MSt} {j : Nat} {x : Top} (hj : j < s.books.length) : (yM s j x).length = s.books.length := by
  rw [yM,List.length_append,List.length_cons,List.length_take,MSt.tops,List.length_map,List.length_replicate]; omega
theorem zFk {s : MSt} {j : Nat} (hj : j < s.books.length) : yM s j top0 = kC s j := by
  rw [yM,kC]
  obtain ⟨m,hm⟩ : ∃ m,s.books.length - j = m + 1 := ⟨s.books.length - j - 1,by omega⟩
  rw [hm,List.replicate_succ]; rfl
theorem zFu {s : MSt} {j : Nat} {b : Book} (hb : s.books[j]? = some b) : yM s j b.top = kC s (j + 1) := by
  have hj := (List.getElem?_eq_some_iff.1 hb).1
  rw [yM,kC,List.take_add_one,show s.tops[j]? = some b.top by rw [MSt.tops,List.getElem?_map,hb]; rfl]
  simp only [Option.toList_some,List.append_assoc,List.cons_append,List.nil_append]
  rw [show s.books.length - j - 1 = s.books.length - (j + 1) by omega]
theorem bS {α : Type} {l : List α} {j : Nat} {x : α} (h : l[j]? = some x) : l.set j x = l := by
  obtain ⟨hj,rfl⟩ := List.getElem?_eq_some_iff.1 h
  exact List.set_getElem_self hj
open Go Cv Go.Proofs
structure Leg where
  inst : Int
  side : Int
  deriving DecidableEq
structure Quote where
  price : Int
  qty : Int
  a : Leg
  b : Leg
  deriving DecidableEq
def zI (q : Quote) : List D := [.v (.int .i64 q.price),.v (.int .i64 q.qty),.v (.int .i64 q.a.inst),.v (.int .i64 q.a.side),.v (.int .i64 q.b.inst),.v (.int .i64 q.b.side)]
@[reducible] def zKi (q : Quote) : V := .agg [zF q.price,zF q.qty,zF q.a.inst,zF q.a.side,zF q.b.inst,zF q.b.side]
def z7r : Quote := ⟨0,0,⟨0,0⟩,⟨0,0⟩⟩
structure I3' where
  side : Int
  x : Int
  y : Int
def btr (side x y : Int) : Bool := if side = 1 then decide (y < x) else decide (x < y)
def iotherC : Con := con1 Int (fun n => [zF n]) (fun _ => []) (fun n => n = 1 ∨ n = 2) (fun n => zF (3 - n)) (fun _ => [])
def ibetterC : Con := con1 I3' (fun i => [zF i.side,zF i.x,zF i.y]) (fun _ => []) (fun _ => True) (fun i => yG (btr i.side i.x i.y)) (fun _ => [])
structure CrI where
  x : Int
  y : Int
  b : Bool
def Top.has (t : Top) (s : Int) : Bool := if s = 1 then t.has1 else t.has2
def Top.price (t : Top) (s : Int) : Int := if s = 1 then t.p1 else t.p2
def Top.qty (t : Top) (s : Int) : Int := if s = 1 then t.q1 else t.q2
def mkq (tops : List Top) (a b : Leg) (less : Bool) : List Quote :=
  let x := tops.getD a.inst.toNat top0
  let y := tops.getD b.inst.toNat top0
  let r := if less then kT (y.price b.side) (x.price a.side) else kX (x.price a.side) (y.price b.side)
  if x.has a.side && y.has b.side && r.2 then [⟨r.1,min (x.qty a.side) (y.qty b.side),a,b⟩] else []
structure MkI where
  tops : List Top
  out : List Quote
  a : Int
  b : Int
  less : Bool
@[reducible] def k0 (l : List Top) : Prop := l.length ≤ 1000000∧∀ t ∈ l,yN t.p1∧yN t.p2
def MkU (x : List Top × List Quote) : Nat → AObj
  | 0 => .cells [.own 1,.own 2] 169
  | 1 => .fro 6 (x.1.map zQ)
  | 2 => .own 77 6 (x.2.map zI)
  | _ => .gone
@[reducible] def MkR (tops : List Top) (out : List Quote) : List AObj := [MkU (tops,out) 0,MkU (tops,out) 1,MkU (tops,out) 2]
@[reducible] def MkP (tops : List Top) (out : List Quote) : List AObj := [.cells [.own 1,.own 3] 169,MkU (tops,out) 1,.gone,MkU (tops,out) 2]
def mkC (sa sb : Int) : Con := con1 MkI (fun i => [.nm 0 0,.agg [zF i.a,zF sa],.agg [zF i.b,zF sb],yG i.less]) (fun i => MkR i.tops i.out)
  (fun i => 0 ≤ i.a ∧ i.a < i.tops.length ∧ 0 ≤ i.b ∧ i.b < i.tops.length ∧ k0 i.tops ∧ i.out.length ≤ 1000) (fun _ => zGb) (fun i => MkP i.tops (i.out ++ mkq i.tops ⟨i.a,sa⟩ ⟨i.b,sb⟩ i.less))
def mk11 : Con := mkC 1 1
def mk12 : Con := mkC 1 2
def mk21 : Con := mkC 2 1
def mk22 : Con := mkC 2 2
open Go Cv Go.Proofs
def zMu (n : Int) : Prop :=
  ∃ (o : Unit),3 - n = IntKind.i64.wrap (3 - n)∧True
theorem zSf (n : Int) : zMu n = walk Try.prog ([]) 0 ([]) ([]) [] Try.f86 (Try.f86.body.getD .skip) (iotherC.pat n) (iotherC.pre n) (iotherC.alts n) := by kernel_rfl
theorem zWz (hG : GOk Try.prog ([])) (h : ∀ (n : Int),iotherC.cnd n → zMu n) : iotherC.ok Try.prog 86 := zE mixed ([]) hG 0 (fun (n : Int) => []) (fun (n : Int) => []) [] Try.func86 (by kernel_rfl) (by kernel_rfl) (by kernel_rfl) (fun _ => by kernel_rfl) (fun (n : Int) hc => Eq.mp (zSf n) (h n hc))
def zGo (i : I3') : Prop :=
  cnd (i.side == 1) (∃ (o : Unit),btr i.side i.x i.y = decide (i.x > i.y)∧True) (∃ (o : Unit),btr i.side i.x i.y = decide (i.x < i.y)∧True)
theorem zPs (i : I3') : zGo i = walk Try.prog ([]) 0 ([]) ([]) [] Try.f71 (Try.f71.body.getD .skip) (ibetterC.pat i) (ibetterC.pre i) (ibetterC.alts i) := by kernel_rfl
theorem zQh (hG : GOk Try.prog ([])) (h : ∀ (i : I3'),ibetterC.cnd i → zGo i) : ibetterC.ok Try.prog 71 := zE mixed ([]) hG 0 (fun (i : I3') => []) (fun (i : I3') => []) [] Try.func71 (by kernel_rfl) (by kernel_rfl) (by kernel_rfl) (fun _ => by kernel_rfl) (fun (i : I3') hc => Eq.mp (zPs i) (h i hc))
@[reducible] def zCo (i : MkI) (b : Bool) (n : Int) (n_2 : Int) (n_4 : Int) (n_6 : Int) : Prop := ∃ (i_1 : I2),i_1.x = n∧i_1.y = n_4∧(((-9223372036854775808) ≤ i_1.x∧i_1.x ≤ 9223372036854775807)∧(-9223372036854775808) ≤ i_1.y∧i_1.y ≤ 9223372036854775807)∧∀ (o : Unit),True→cnd i.less (∃ (i_2 : I2),i_2.x = n_4∧i_2.y = n∧(((-9223372036854775808) ≤ i_2.x∧i_2.x ≤ 9223372036854775807)∧(-9223372036854775808) ≤ i_2.y∧i_2.y ≤ 9223372036854775807)∧∀ (o : Unit),True→cnd (kT i_2.x i_2.y).snd (True∧((List.map zI i.out).length + 1) * (48 : Nat) ≤ (70368744177664 : Nat)∧∃ (o : Unit),AObj.fro 6 (List.map zQ i.tops) = MkU (i.tops,i.out) 1∧List.map zI (i.out ++ mkq i.tops (Leg.mk i.a 1) (Leg.mk i.b 1) i.less) = List.map zI i.out ++ [[D.v (.int .i64 (kT i_2.x i_2.y).fst),D.v (.int .i64 (min n_2 n_6)),D.v (.int .i64 i.a),D.v (.int .i64 1),D.v (.int .i64 i.b),D.v (.int .i64 1)]]∧True) (∃ (o : Unit),AObj.fro 6 (List.map zQ i.tops) = MkU (i.tops,i.out) 1∧List.map zI (i.out ++ mkq i.tops (Leg.mk i.a 1) (Leg.mk i.b 1) i.less) = List.map zI i.out∧True)) (cnd (kX i_1.x i_1.y).snd (True∧((List.map zI i.out).length + 1) * (48 : Nat) ≤ (70368744177664 : Nat)∧∃ (o : Unit),AObj.fro 6 (List.map zQ i.tops) = MkU (i.tops,i.out) 1∧List.map zI (i.out ++ mkq i.tops (Leg.mk i.a 1) (Leg.mk i.b 1) i.less) = List.map zI i.out ++ [[D.v (.int .i64 (kX i_1.x i_1.y).fst),D.v (.int .i64 (min n_2 n_6)),D.v (.int .i64 i.a),D.v (.int .i64 1),D.v (.int .i64 i.b),D.v (.int .i64 1)]]∧True) (∃ (o : Unit),AObj.fro 6 (List.map zQ i.tops) = MkU (i.tops,i.out) 1∧List.map zI (i.out ++ mkq i.tops (Leg.mk i.a 1) (Leg.mk i.b 1) i.less) = List.map zI i.out∧True))
@[reducible] def aM (i : MkI) (b : Bool) : Prop := ∃ (o : Unit),AObj.fro 6 (List.map zQ i.tops) = MkU (i.tops,i.out) 1∧List.map zI (i.out ++ mkq i.tops (Leg.mk i.a 1) (Leg.mk i.b 1) i.less) = List.map zI i.out∧True
def zKy (i : MkI) : Prop :=
  (0 ≤ i.a∧i.a < (↑(List.map zQ i.tops).length : Int))∧∃ (b : Bool),∃ (b_1 : Bool),∃ (n : Int),∃ (n_1 : Int),∃ (n_2 : Int),∃ (n_3 : Int),zG (List.map zQ i.tops) i.a.toNat 0 6 = some [D.v (.bool b),D.v (.bool b_1),D.v (.int .i64 n),D.v (.int .i64 n_1),D.v (.int .i64 n_2),D.v (.int .i64 n_3)]∧(0 ≤ i.b∧i.b < (↑(List.map zQ i.tops).length : Int))∧∃ (b_2 : Bool),∃ (b_3 : Bool),∃ (n_4 : Int),∃ (n_5 : Int),∃ (n_6 : Int),∃ (n_7 : Int),zG (List.map zQ i.tops) i.b.toNat 0 6 = some [D.v (.bool b_2),D.v (.bool b_3),D.v (.int .i64 n_4),D.v (.int .i64 n_5),D.v (.int .i64 n_6),D.v (.int .i64 n_7)]∧(True∧((0 ≤ i.b∧i.b < (↑(List.map zQ i.tops).length : Int))∧i.b.toNat = i.b.toNat)∧i.b = i.b∧True∧True∧((0 ≤ i.a∧i.a < (↑(List.map zQ i.tops).length : Int))∧i.a.toNat = i.a.toNat)∧i.a = i.a∧True∧True∧((0 ≤ i.b∧i.b < (↑(List.map zQ i.tops).length : Int))∧i.b.toNat = i.b.toNat)∧i.b = i.b∧True∧True∧((0 ≤ i.a∧i.a < (↑(List.map zQ i.tops).length : Int))∧i.a.toNat = i.a.toNat)∧i.a = i.a∧True∧True∧((0 ≤ i.b∧i.b < (↑(List.map zQ i.tops).length : Int))∧i.b.toNat = i.b.toNat)∧i.b = i.b∧True∧cnd (!b) (aM i b) (cnd (!b_2) (aM i b) (zCo i b n n_2 n_4 n_6)))∧True∧((0 ≤ i.b∧i.b < (↑(List.map zQ i.tops).length : Int))∧i.b.toNat = i.b.toNat)∧i.b = i.b∧True∧True∧((0 ≤ i.a∧i.a < (↑(List.map zQ i.tops).length : Int))∧i.a.toNat = i.a.toNat)∧i.a = i.a∧True∧True∧((0 ≤ i.b∧i.b < (↑(List.map zQ i.tops).length : Int))∧i.b.toNat = i.b.toNat)∧i.b = i.b∧True∧True∧((0 ≤ i.a∧i.a < (↑(List.map zQ i.tops).length : Int))∧i.a.toNat = i.a.toNat)∧i.a = i.a∧True∧True∧((0 ≤ i.b∧i.b < (↑(List.map zQ i.tops).length : Int))∧i.b.toNat = i.b.toNat)∧i.b = i.b∧True∧cnd (!b) (aM i b) (cnd (!b_2) (aM i b) (zCo i b n n_2 n_4 n_6))
theorem z7u (i : MkI) : zKy i = walk Try.prog ([(95,addC),(96,subC)]) 0 ([]) ([]) [] Try.f87 (Try.f87.body.getD .skip) (mk11.pat i) (mk11.pre i) (mk11.alts i) := by kernel_rfl
theorem z4f (hG : GOk Try.prog ([(95,addC),(96,subC)])) (h : ∀ (i : MkI),mk11.cnd i → zKy i) : mk11.ok Try.prog 87 := zE mixed ([(95,addC),(96,subC)]) hG 0 (fun (i : MkI) => []) (fun (i : MkI) => []) [] Try.func87 (by kernel_rfl) (by kernel_rfl) (by kernel_rfl) (fun _ => by kernel_rfl) (fun (i : MkI) hc => Eq.mp (z7u i) (h i hc))
@[reducible] def zBh (i : MkI) (b : Bool) (n : Int) (n_2 : Int) (n_5 : Int) (n_7 : Int) : Prop := ∃ (i_1 : I2),i_1.x = n∧i_1.y = n_5∧(((-9223372036854775808) ≤ i_1.x∧i_1.x ≤ 9223372036854775807)∧(-9223372036854775808) ≤ i_1.y∧i_1.y ≤ 9223372036854775807)∧∀ (o : Unit),True→cnd i.less (∃ (i_2 : I2),i_2.x = n_5∧i_2.y = n∧(((-9223372036854775808) ≤ i_2.x∧i_2.x ≤ 9223372036854775807)∧(-9223372036854775808) ≤ i_2.y∧i_2.y ≤ 9223372036854775807)∧∀ (o : Unit),True→cnd (kT i_2.x i_2.y).snd (True∧((List.map zI i.out).length + 1) * (48 : Nat) ≤ (70368744177664 : Nat)∧∃ (o : Unit),AObj.fro 6 (List.map zQ i.tops) = MkU (i.tops,i.out) 1∧List.map zI (i.out ++ mkq i.tops (Leg.mk i.a 1) (Leg.mk i.b 2) i.less) = List.map zI i.out ++ [[D.v (.int .i64 (kT i_2.x i_2.y).fst),D.v (.int .i64 (min n_2 n_7)),D.v (.int .i64 i.a),D.v (.int .i64 1),D.v (.int .i64 i.b),D.v (.int .i64 2)]]∧True) (∃ (o : Unit),AObj.fro 6 (List.map zQ i.tops) = MkU (i.tops,i.out) 1∧List.map zI (i.out ++ mkq i.tops (Leg.mk i.a 1) (Leg.mk i.b 2) i.less) = List.map zI i.out∧True)) (cnd (kX i_1.x i_1.y).snd (True∧((List.map zI i.out).length + 1) * (48 : Nat) ≤ (70368744177664 : Nat)∧∃ (o : Unit),AObj.fro 6 (List.map zQ i.tops) = MkU (i.tops,i.out) 1∧List.map zI (i.out ++ mkq i.tops (Leg.mk i.a 1) (Leg.mk i.b 2) i.less) = List.map zI i.out ++ [[D.v (.int .i64 (kX i_1.x i_1.y).fst),D.v (.int .i64 (min n_2 n_7)),D.v (.int .i64 i.a),D.v (.int .i64 1),D.v (.int .i64 i.b),D.v (.int .i64 2)]]∧True) (∃ (o : Unit),AObj.fro 6 (List.map zQ i.tops) = MkU (i.tops,i.out) 1∧List.map zI (i.out ++ mkq i.tops (Leg.mk i.a 1) (Leg.mk i.b 2) i.less) = List.map zI i.out∧True))
@[reducible] def aU (i : MkI) (b : Bool) : Prop := ∃ (o : Unit),AObj.fro 6 (List.map zQ i.tops) = MkU (i.tops,i.out) 1∧List.map zI (i.out ++ mkq i.tops (Leg.mk i.a 1) (Leg.mk i.b 2) i.less) = List.map zI i.out∧True
def zNd (i : MkI) : Prop :=
  (0 ≤ i.a∧i.a < (↑(List.map zQ i.tops).length : Int))∧∃ (b : Bool),∃ (b_1 : Bool),∃ (n : Int),∃ (n_1 : Int),∃ (n_2 : Int),∃ (n_3 : Int),zG (List.map zQ i.tops) i.a.toNat 0 6 = some [D.v (.bool b),D.v (.bool b_1),D.v (.int .i64 n),D.v (.int .i64 n_1),D.v (.int .i64 n_2),D.v (.int .i64 n_3)]∧(0 ≤ i.b∧i.b < (↑(List.map zQ i.tops).length : Int))∧∃ (b_2 : Bool),∃ (b_3 : Bool),∃ (n_4 : Int),∃ (n_5 : Int),∃ (n_6 : Int),∃ (n_7 : Int),zG (List.map zQ i.tops) i.b.toNat 0 6 = some [D.v (.bool b_2),D.v (.bool b_3),D.v (.int .i64 n_4),D.v (.int .i64 n_5),D.v (.int .i64 n_6),D.v (.int .i64 n_7)]∧(True∧((0 ≤ i.b∧i.b < (↑(List.map zQ i.tops).length : Int))∧i.b.toNat = i.b.toNat)∧i.b = i.b∧True∧True∧((0 ≤ i.a∧i.a < (↑(List.map zQ i.tops).length : Int))∧i.a.toNat = i.a.toNat)∧i.a = i.a∧True∧True∧((0 ≤ i.b∧i.b < (↑(List.map zQ i.tops).length : Int))∧i.b.toNat = i.b.toNat)∧i.b = i.b∧True∧True∧((0 ≤ i.a∧i.a < (↑(List.map zQ i.tops).length : Int))∧i.a.toNat = i.a.toNat)∧i.a = i.a∧True∧True∧((0 ≤ i.b∧i.b < (↑(List.map zQ i.tops).length : Int))∧i.b.toNat = i.b.toNat)∧i.b = i.b∧True∧cnd (!b) (aU i b) (cnd (!b_3) (aU i b) (zBh i b n n_2 n_5 n_7)))∧True∧((0 ≤ i.b∧i.b < (↑(List.map zQ i.tops).length : Int))∧i.b.toNat = i.b.toNat)∧i.b = i.b∧True∧True∧((0 ≤ i.a∧i.a < (↑(List.map zQ i.tops).length : Int))∧i.a.toNat = i.a.toNat)∧i.a = i.a∧True∧True∧((0 ≤ i.b∧i.b < (↑(List.map zQ i.tops).length : Int))∧i.b.toNat = i.b.toNat)∧i.b = i.b∧True∧True∧((0 ≤ i.a∧i.a < (↑(List.map zQ i.tops).length : Int))∧i.a.toNat = i.a.toNat)∧i.a = i.a∧True∧True∧((0 ≤ i.b∧i.b < (↑(List.map zQ i.tops).length : Int))∧i.b.toNat = i.b.toNat)∧i.b = i.b∧True∧cnd (!b) (aU i b) (cnd (!b_3) (aU i b) (zBh i b n n_2 n_5 n_7))
theorem z6a (i : MkI) : zNd i = walk Try.prog ([(95,addC),(96,subC)]) 0 ([]) ([]) [] Try.f87 (Try.f87.body.getD .skip) (mk12.pat i) (mk12.pre i) (mk12.alts i) := by kernel_rfl
theorem z4j (hG : GOk Try.prog ([(95,addC),(96,subC)])) (h : ∀ (i : MkI),mk12.cnd i → zNd i) : mk12.ok Try.prog 87 := zE mixed ([(95,addC),(96,subC)]) hG 0 (fun (i : MkI) => []) (fun (i : MkI) => []) [] Try.func87 (by kernel_rfl) (by kernel_rfl) (by kernel_rfl) (fun _ => by kernel_rfl) (fun (i : MkI) hc => Eq.mp (z6a i) (h i hc))
@[reducible] def zCv (i : MkI) (b : Bool) (n : Int) (n_1 : Int) (n_3 : Int) (n_5 : Int) : Prop := ∃ (i_1 : I2),i_1.x = n_1∧i_1.y = n∧(((-9223372036854775808) ≤ i_1.x∧i_1.x ≤ 9223372036854775807)∧(-9223372036854775808) ≤ i_1.y∧i_1.y ≤ 9223372036854775807)∧∀ (o : Unit),True→cnd i.less (∃ (i_2 : I2),i_2.x = n∧i_2.y = n_1∧(((-9223372036854775808) ≤ i_2.x∧i_2.x ≤ 9223372036854775807)∧(-9223372036854775808) ≤ i_2.y∧i_2.y ≤ 9223372036854775807)∧∀ (o : Unit),True→cnd (kT i_2.x i_2.y).snd (True∧((List.map zI i.out).length + 1) * (48 : Nat) ≤ (70368744177664 : Nat)∧∃ (o : Unit),AObj.fro 6 (List.map zQ i.tops) = MkU (i.tops,i.out) 1∧List.map zI (i.out ++ mkq i.tops (Leg.mk i.a 2) (Leg.mk i.b 1) i.less) = List.map zI i.out ++ [[D.v (.int .i64 (kT i_2.x i_2.y).fst),D.v (.int .i64 (min n_3 n_5)),D.v (.int .i64 i.a),D.v (.int .i64 2),D.v (.int .i64 i.b),D.v (.int .i64 1)]]∧True) (∃ (o : Unit),AObj.fro 6 (List.map zQ i.tops) = MkU (i.tops,i.out) 1∧List.map zI (i.out ++ mkq i.tops (Leg.mk i.a 2) (Leg.mk i.b 1) i.less) = List.map zI i.out∧True)) (cnd (kX i_1.x i_1.y).snd (True∧((List.map zI i.out).length + 1) * (48 : Nat) ≤ (70368744177664 : Nat)∧∃ (o : Unit),AObj.fro 6 (List.map zQ i.tops) = MkU (i.tops,i.out) 1∧List.map zI (i.out ++ mkq i.tops (Leg.mk i.a 2) (Leg.mk i.b 1) i.less) = List.map zI i.out ++ [[D.v (.int .i64 (kX i_1.x i_1.y).fst),D.v (.int .i64 (min n_3 n_5)),D.v (.int .i64 i.a),D.v (.int .i64 2),D.v (.int .i64 i.b),D.v (.int .i64 1)]]∧True) (∃ (o : Unit),AObj.fro 6 (List.map zQ i.tops) = MkU (i.tops,i.out) 1∧List.map zI (i.out ++ mkq i.tops (Leg.mk i.a 2) (Leg.mk i.b 1) i.less) = List.map zI i.out∧True))
@[reducible] def bQ (i : MkI) (b : Bool) : Prop := ∃ (o : Unit),AObj.fro 6 (List.map zQ i.tops) = MkU (i.tops,i.out) 1∧List.map zI (i.out ++ mkq i.tops (Leg.mk i.a 2) (Leg.mk i.b 1) i.less) = List.map zI i.out∧True
def zMa (i : MkI) : Prop :=
  (0 ≤ i.a∧i.a < (↑(List.map zQ i.tops).length : Int))∧∃ (b : Bool),∃ (b_1 : Bool),∃ (n : Int),∃ (n_1 : Int),∃ (n_2 : Int),∃ (n_3 : Int),zG (List.map zQ i.tops) i.a.toNat 0 6 = some [D.v (.bool b),D.v (.bool b_1),D.v (.int .i64 n),D.v (.int .i64 n_1),D.v (.int .i64 n_2),D.v (.int .i64 n_3)]∧(0 ≤ i.b∧i.b < (↑(List.map zQ i.tops).length : Int))∧∃ (b : Bool),∃ (b_2 : Bool),∃ (n : Int),∃ (n_4 : Int),∃ (n_5 : Int),∃ (n_6 : Int),zG (List.map zQ i.tops) i.b.toNat 0 6 = some [D.v (.bool b),D.v (.bool b_2),D.v (.int .i64 n),D.v (.int .i64 n_4),D.v (.int .i64 n_5),D.v (.int .i64 n_6)]∧(True∧((0 ≤ i.b∧i.b < (↑(List.map zQ i.tops).length : Int))∧i.b.toNat = i.b.toNat)∧i.b = i.b∧True∧True∧((0 ≤ i.a∧i.a < (↑(List.map zQ i.tops).length : Int))∧i.a.toNat = i.a.toNat)∧i.a = i.a∧True∧True∧((0 ≤ i.b∧i.b < (↑(List.map zQ i.tops).length : Int))∧i.b.toNat = i.b.toNat)∧i.b = i.b∧True∧True∧((0 ≤ i.a∧i.a < (↑(List.map zQ i.tops).length : Int))∧i.a.toNat = i.a.toNat)∧i.a = i.a∧True∧True∧((0 ≤ i.b∧i.b < (↑(List.map zQ i.tops).length : Int))∧i.b.toNat = i.b.toNat)∧i.b = i.b∧True∧cnd (!b_1) (bQ i b) (cnd (!b) (bQ i b) (zCv i b n n_1 n_3 n_5)))∧True∧((0 ≤ i.b∧i.b < (↑(List.map zQ i.tops).length : Int))∧i.b.toNat = i.b.toNat)∧i.b = i.b∧True∧True∧((0 ≤ i.a∧i.a < (↑(List.map zQ i.tops).length : Int))∧i.a.toNat = i.a.toNat)∧i.a = i.a∧True∧True∧((0 ≤ i.b∧i.b < (↑(List.map zQ i.tops).length : Int))∧i.b.toNat = i.b.toNat)∧i.b = i.b∧True∧True∧((0 ≤ i.a∧i.a < (↑(List.map zQ i.tops).length : Int))∧i.a.toNat = i.a.toNat)∧i.a = i.a∧True∧True∧((0 ≤ i.b∧i.b < (↑(List.map zQ i.tops).length : Int))∧i.b.toNat = i.b.toNat)∧i.b = i.b∧True∧cnd (!b_1) (bQ i b) (cnd (!b) (bQ i b) (zCv i b n n_1 n_3 n_5))
theorem z5s (i : MkI) : zMa i = walk Try.prog ([(95,addC),(96,subC)]) 0 ([]) ([]) [] Try.f87 (Try.f87.body.getD .skip) (mk21.pat i) (mk21.pre i) (mk21.alts i) := by kernel_rfl
theorem z7f (hG : GOk Try.prog ([(95,addC),(96,subC)])) (h : ∀ (i : MkI),mk21.cnd i → zMa i) : mk21.ok Try.prog 87 := zE mixed ([(95,addC),(96,subC)]) hG 0 (fun (i : MkI) => []) (fun (i : MkI) => []) [] Try.func87 (by kernel_rfl) (by kernel_rfl) (by kernel_rfl) (fun _ => by kernel_rfl) (fun (i : MkI) hc => Eq.mp (z5s i) (h i hc))
@[reducible] def zDg (i : MkI) (b : Bool) (n_1 : Int) (n_3 : Int) (n_4 : Int) (n_6 : Int) : Prop := ∃ (i_1 : I2),i_1.x = n_1∧i_1.y = n_4∧(((-9223372036854775808) ≤ i_1.x∧i_1.x ≤ 9223372036854775807)∧(-9223372036854775808) ≤ i_1.y∧i_1.y ≤ 9223372036854775807)∧∀ (o : Unit),True→cnd i.less (∃ (i_2 : I2),i_2.x = n_4∧i_2.y = n_1∧(((-9223372036854775808) ≤ i_2.x∧i_2.x ≤ 9223372036854775807)∧(-9223372036854775808) ≤ i_2.y∧i_2.y ≤ 9223372036854775807)∧∀ (o : Unit),True→cnd (kT i_2.x i_2.y).snd (True∧((List.map zI i.out).length + 1) * (48 : Nat) ≤ (70368744177664 : Nat)∧∃ (o : Unit),AObj.fro 6 (List.map zQ i.tops) = MkU (i.tops,i.out) 1∧List.map zI (i.out ++ mkq i.tops (Leg.mk i.a 2) (Leg.mk i.b 2) i.less) = List.map zI i.out ++ [[D.v (.int .i64 (kT i_2.x i_2.y).fst),D.v (.int .i64 (min n_3 n_6)),D.v (.int .i64 i.a),D.v (.int .i64 2),D.v (.int .i64 i.b),D.v (.int .i64 2)]]∧True) (∃ (o : Unit),AObj.fro 6 (List.map zQ i.tops) = MkU (i.tops,i.out) 1∧List.map zI (i.out ++ mkq i.tops (Leg.mk i.a 2) (Leg.mk i.b 2) i.less) = List.map zI i.out∧True)) (cnd (kX i_1.x i_1.y).snd (True∧((List.map zI i.out).length + 1) * (48 : Nat) ≤ (70368744177664 : Nat)∧∃ (o : Unit),AObj.fro 6 (List.map zQ i.tops) = MkU (i.tops,i.out) 1∧List.map zI (i.out ++ mkq i.tops (Leg.mk i.a 2) (Leg.mk i.b 2) i.less) = List.map zI i.out ++ [[D.v (.int .i64 (kX i_1.x i_1.y).fst),D.v (.int .i64 (min n_3 n_6)),D.v (.int .i64 i.a),D.v (.int .i64 2),D.v (.int .i64 i.b),D.v (.int .i64 2)]]∧True) (∃ (o : Unit),AObj.fro 6 (List.map zQ i.tops) = MkU (i.tops,i.out) 1∧List.map zI (i.out ++ mkq i.tops (Leg.mk i.a 2) (Leg.mk i.b 2) i.less) = List.map zI i.out∧True))
@[reducible] def aD (i : MkI) (b : Bool) : Prop := ∃ (o : Unit),AObj.fro 6 (List.map zQ i.tops) = MkU (i.tops,i.out) 1∧List.map zI (i.out ++ mkq i.tops (Leg.mk i.a 2) (Leg.mk i.b 2) i.less) = List.map zI i.out∧True
def zMe (i : MkI) : Prop :=
  (0 ≤ i.a∧i.a < (↑(List.map zQ i.tops).length : Int))∧∃ (b : Bool),∃ (b_1 : Bool),∃ (n : Int),∃ (n_1 : Int),∃ (n_2 : Int),∃ (n_3 : Int),zG (List.map zQ i.tops) i.a.toNat 0 6 = some [D.v (.bool b),D.v (.bool b_1),D.v (.int .i64 n),D.v (.int .i64 n_1),D.v (.int .i64 n_2),D.v (.int .i64 n_3)]∧(0 ≤ i.b∧i.b < (↑(List.map zQ i.tops).length : Int))∧∃ (b : Bool),∃ (b_2 : Bool),∃ (n : Int),∃ (n_4 : Int),∃ (n_5 : Int),∃ (n_6 : Int),zG (List.map zQ i.tops) i.b.toNat 0 6 = some [D.v (.bool b),D.v (.bool b_2),D.v (.int .i64 n),D.v (.int .i64 n_4),D.v (.int .i64 n_5),D.v (.int .i64 n_6)]∧(True∧((0 ≤ i.b∧i.b < (↑(List.map zQ i.tops).length : Int))∧i.b.toNat = i.b.toNat)∧i.b = i.b∧True∧True∧((0 ≤ i.a∧i.a < (↑(List.map zQ i.tops).length : Int))∧i.a.toNat = i.a.toNat)∧i.a = i.a∧True∧True∧((0 ≤ i.b∧i.b < (↑(List.map zQ i.tops).length : Int))∧i.b.toNat = i.b.toNat)∧i.b = i.b∧True∧True∧((0 ≤ i.a∧i.a < (↑(List.map zQ i.tops).length : Int))∧i.a.toNat = i.a.toNat)∧i.a = i.a∧True∧True∧((0 ≤ i.b∧i.b < (↑(List.map zQ i.tops).length : Int))∧i.b.toNat = i.b.toNat)∧i.b = i.b∧True∧cnd (!b_1) (aD i b) (cnd (!b_2) (aD i b) (zDg i b n_1 n_3 n_4 n_6)))∧True∧((0 ≤ i.b∧i.b < (↑(List.map zQ i.tops).length : Int))∧i.b.toNat = i.b.toNat)∧i.b = i.b∧True∧True∧((0 ≤ i.a∧i.a < (↑(List.map zQ i.tops).length : Int))∧i.a.toNat = i.a.toNat)∧i.a = i.a∧True∧True∧((0 ≤ i.b∧i.b < (↑(List.map zQ i.tops).length : Int))∧i.b.toNat = i.b.toNat)∧i.b = i.b∧True∧True∧((0 ≤ i.a∧i.a < (↑(List.map zQ i.tops).length : Int))∧i.a.toNat = i.a.toNat)∧i.a = i.a∧True∧True∧((0 ≤ i.b∧i.b < (↑(List.map zQ i.tops).length : Int))∧i.b.toNat = i.b.toNat)∧i.b = i.b∧True∧cnd (!b_1) (aD i b) (cnd (!b_2) (aD i b) (zDg i b n_1 n_3 n_4 n_6))
theorem z8i (i : MkI) : zMe i = walk Try.prog ([(95,addC),(96,subC)]) 0 ([]) ([]) [] Try.f87 (Try.f87.body.getD .skip) (mk22.pat i) (mk22.pre i) (mk22.alts i) := by kernel_rfl
theorem z5l (hG : GOk Try.prog ([(95,addC),(96,subC)])) (h : ∀ (i : MkI),mk22.cnd i → zMe i) : mk22.ok Try.prog 87 := zE mixed ([(95,addC),(96,subC)]) hG 0 (fun (i : MkI) => []) (fun (i : MkI) => []) [] Try.func87 (by kernel_rfl) (by kernel_rfl) (by kernel_rfl) (fun _ => by kernel_rfl) (fun (i : MkI) hc => Eq.mp (z8i i) (h i hc))
open Go Cv Go.Proofs
theorem zAn : iotherC.ok Try.prog 86 := zWz gok0 fun n h => by
  have h : n = 1 ∨ n = 2 := h
  refine ⟨(),?_,trivial⟩
  rw [w64 (by omega)]
theorem zKq : ibetterC.ok Try.prog 71 := zQh gok0 fun i _ => by
  refine Cv.cnd.mk (fun e => ⟨(),?_,trivial⟩) (fun e => ⟨(),?_,trivial⟩)
  · have e : i.side = 1 := by simpa using e
    simp [btr,e]
  · have e : i.side ≠ 1 := by simpa using e
    simp [btr,e]
theorem zXq (a b : Int) : (if b < a then b else a) = min a b := by split <;> omega
theorem yAe (i : MkI) (h : mk11.cnd i) : zKy i := by
  obtain ⟨a0,a1,b0,b1,⟨ht,hp⟩,ho⟩ : 0 ≤ i.a ∧ i.a < i.tops.length ∧ 0 ≤ i.b ∧ i.b < i.tops.length ∧ k0 i.tops ∧ i.out.length ≤ 1000 := h
  obtain ⟨x,hx⟩ := z9 (l := i.tops) (i := i.a.toNat) (by omega)
  obtain ⟨y,hy⟩ := z9 (l := i.tops) (i := i.b.toNat) (by omega)
  obtain ⟨⟨px1,px2⟩,px3,px4⟩ := hp x (List.mem_of_getElem? hx)
  obtain ⟨⟨py1,py2⟩,py3,py4⟩ := hp y (List.mem_of_getElem? hy)
  have e0 : mkq i.tops ⟨i.a,1⟩ ⟨i.b,1⟩ i.less = if x.has1 && y.has1 && (if i.less then kT y.p1 x.p1 else kX x.p1 y.p1).2 then [⟨(if i.less then kT y.p1 x.p1 else kX x.p1 y.p1).1,min x.q1 y.q1,⟨i.a,1⟩,⟨i.b,1⟩⟩] else [] := by
    simp only [mkq,List.getD_eq_getElem?_getD,hx,hy,Option.getD_some]; rfl
  unfold zKy zCo aM
  simp only [List.length_map]
  refine ⟨⟨by omega,by omega⟩,x.has1,x.has2,x.p1,x.p2,x.q1,x.q2,elA hx (by simp [zQ]) rfl,⟨by omega,by omega⟩,y.has1,y.has2,y.p1,y.p2,y.q1,y.q2,elA hy (by simp [zQ]) rfl,?_⟩
  rw [e0]
  (repeat' (first|exact rfl|exact trivial|assumption|apply And.intro|refine fun (_:Unit) (_:True)=>?_|refine Exists.intro () ?_|omega|(dsimp only;omega)))
  all_goals
    refine Cv.cnd.mk (fun c1 => ?_) (fun c1 => Cv.cnd.mk (fun c2 => ?_) (fun c2 => ?_))
    · have c1 : x.has1 = false := by simpa using c1
      simp only [c1,Bool.false_and,Bool.false_eq_true,if_false,List.append_nil]; (repeat' (first|exact rfl|exact trivial|assumption|apply And.intro|refine fun (_:Unit) (_:True)=>?_|refine Exists.intro () ?_|omega|(dsimp only;omega)))
    · have c2 : y.has1 = false := by simpa using c2
      simp only [c2,Bool.and_false,Bool.false_and,Bool.false_eq_true,if_false,List.append_nil]; (repeat' (first|exact rfl|exact trivial|assumption|apply And.intro|refine fun (_:Unit) (_:True)=>?_|refine Exists.intro () ?_|omega|(dsimp only;omega)))
    · have c1 : x.has1 = true := by simpa using c1
      have c2 : y.has1 = true := by simpa using c2
      simp only [c1,c2,Bool.true_and,zXq]
      refine ⟨⟨x.p1,y.p1⟩,?_⟩
      (repeat' (first|exact rfl|exact trivial|assumption|apply And.intro|refine fun (_:Unit) (_:True)=>?_|refine Exists.intro () ?_|omega|(dsimp only;omega)))
      refine Cv.cnd.mk (fun c3 => ?_) (fun c3 => ?_)
      · have c3 : i.less = true := c3
        simp only [c3,if_true]
        refine ⟨⟨y.p1,x.p1⟩,?_⟩
        (repeat' (first|exact rfl|exact trivial|assumption|apply And.intro|refine fun (_:Unit) (_:True)=>?_|refine Exists.intro () ?_|omega|(dsimp only;omega)))
        refine Cv.cnd.mk (fun c4 => ?_) (fun c4 => ?_)
        · have c4 : (kT y.p1 x.p1).2 = true := c4
          simp only [c4,if_true,List.map_append]; (repeat' (first|exact rfl|exact trivial|assumption|apply And.intro|refine fun (_:Unit) (_:True)=>?_|refine Exists.intro () ?_|omega|(dsimp only;omega)))
        · have c4 : (kT y.p1 x.p1).2 = false := c4
          simp only [c4,Bool.false_eq_true,if_false,List.append_nil]; (repeat' (first|exact rfl|exact trivial|assumption|apply And.intro|refine fun (_:Unit) (_:True)=>?_|refine Exists.intro () ?_|omega|(dsimp only;omega)))
      · have c3 : i.less = false := c3
        simp only [c3,Bool.false_eq_true,if_false]
        refine Cv.cnd.mk (fun c4 => ?_) (fun c4 => ?_)
        · have c4 : (kX x.p1 y.p1).2 = true := c4
          simp only [c4,if_true,List.map_append]; (repeat' (first|exact rfl|exact trivial|assumption|apply And.intro|refine fun (_:Unit) (_:True)=>?_|refine Exists.intro () ?_|omega|(dsimp only;omega)))
        · have c4 : (kX x.p1 y.p1).2 = false := c4
          simp only [c4,Bool.false_eq_true,if_false,List.append_nil]; (repeat' (first|exact rfl|exact trivial|assumption|apply And.intro|refine fun (_:Unit) (_:True)=>?_|refine Exists.intro () ?_|omega|(dsimp only;omega)))
theorem zYq : mk11.ok Try.prog 87 := z4f (gokc zEd (gokc zCg gok0)) yAe
theorem z9e (i : MkI) (h : mk12.cnd i) : zNd i := by
  obtain ⟨a0,a1,b0,b1,⟨ht,hp⟩,ho⟩ : 0 ≤ i.a ∧ i.a < i.tops.length ∧ 0 ≤ i.b ∧ i.b < i.tops.length ∧ k0 i.tops ∧ i.out.length ≤ 1000 := h
  obtain ⟨x,hx⟩ := z9 (l := i.tops) (i := i.a.toNat) (by omega)
  obtain ⟨y,hy⟩ := z9 (l := i.tops) (i := i.b.toNat) (by omega)
  obtain ⟨⟨px1,px2⟩,px3,px4⟩ := hp x (List.mem_of_getElem? hx)
  obtain ⟨⟨py1,py2⟩,py3,py4⟩ := hp y (List.mem_of_getElem? hy)
  have e0 : mkq i.tops ⟨i.a,1⟩ ⟨i.b,2⟩ i.less = if x.has1 && y.has2 && (if i.less then kT y.p2 x.p1 else kX x.p1 y.p2).2 then [⟨(if i.less then kT y.p2 x.p1 else kX x.p1 y.p2).1,min x.q1 y.q2,⟨i.a,1⟩,⟨i.b,2⟩⟩] else [] := by
    simp only [mkq,List.getD_eq_getElem?_getD,hx,hy,Option.getD_some]; rfl
  unfold zNd zBh aU
  simp only [List.length_map]
  refine ⟨⟨by omega,by omega⟩,x.has1,x.has2,x.p1,x.p2,x.q1,x.q2,elA hx (by simp [zQ]) rfl,⟨by omega,by omega⟩,y.has1,y.has2,y.p1,y.p2,y.q1,y.q2,elA hy (by simp [zQ]) rfl,?_⟩
  rw [e0]
  (repeat' (first|exact rfl|exact trivial|assumption|apply And.intro|refine fun (_:Unit) (_:True)=>?_|refine Exists.intro () ?_|omega|(dsimp only;omega)))
  all_goals
    refine Cv.cnd.mk (fun c1 => ?_) (fun c1 => Cv.cnd.mk (fun c2 => ?_) (fun c2 => ?_))
    · have c1 : x.has1 = false := by simpa using c1
      simp only [c1,Bool.false_and,Bool.false_eq_true,if_false,List.append_nil]; (repeat' (first|exact rfl|exact trivial|assumption|apply And.intro|refine fun (_:Unit) (_:True)=>?_|refine Exists.intro () ?_|omega|(dsimp only;omega)))
    · have c2 : y.has2 = false := by simpa using c2
      simp only [c2,Bool.and_false,Bool.false_and,Bool.false_eq_true,if_false,List.append_nil]; (repeat' (first|exact rfl|exact trivial|assumption|apply And.intro|refine fun (_:Unit) (_:True)=>?_|refine Exists.intro () ?_|omega|(dsimp only;omega)))
    · have c1 : x.has1 = true := by simpa using c1
      have c2 : y.has2 = true := by simpa using c2
      simp only [c1,c2,Bool.true_and,zXq]
      refine ⟨⟨x.p1,y.p2⟩,?_⟩
      (repeat' (first|exact rfl|exact trivial|assumption|apply And.intro|refine fun (_:Unit) (_:True)=>?_|refine Exists.intro () ?_|omega|(dsimp only;omega)))
      refine Cv.cnd.mk (fun c3 => ?_) (fun c3 => ?_)
      · have c3 : i.less = true := c3
        simp only [c3,if_true]
        refine ⟨⟨y.p2,x.p1⟩,?_⟩
        (repeat' (first|exact rfl|exact trivial|assumption|apply And.intro|refine fun (_:Unit) (_:True)=>?_|refine Exists.intro () ?_|omega|(dsimp only;omega)))
        refine Cv.cnd.mk (fun c4 => ?_) (fun c4 => ?_)
        · have c4 : (kT y.p2 x.p1).2 = true := c4
          simp only [c4,if_true,List.map_append]; (repeat' (first|exact rfl|exact trivial|assumption|apply And.intro|refine fun (_:Unit) (_:True)=>?_|refine Exists.intro () ?_|omega|(dsimp only;omega)))
        · have c4 : (kT y.p2 x.p1).2 = false := c4
          simp only [c4,Bool.false_eq_true,if_false,List.append_nil]; (repeat' (first|exact rfl|exact trivial|assumption|apply And.intro|refine fun (_:Unit) (_:True)=>?_|refine Exists.intro () ?_|omega|(dsimp only;omega)))
      · have c3 : i.less = false := c3
        simp only [c3,Bool.false_eq_true,if_false]
        refine Cv.cnd.mk (fun c4 => ?_) (fun c4 => ?_)
        · have c4 : (kX x.p1 y.p2).2 = true := c4
          simp only [c4,if_true,List.map_append]; (repeat' (first|exact rfl|exact trivial|assumption|apply And.intro|refine fun (_:Unit) (_:True)=>?_|refine Exists.intro () ?_|omega|(dsimp only;omega)))
        · have c4 : (kX x.p1 y.p2).2 = false := c4
          simp only [c4,Bool.false_eq_true,if_false,List.append_nil]; (repeat' (first|exact rfl|exact trivial|assumption|apply And.intro|refine fun (_:Unit) (_:True)=>?_|refine Exists.intro () ?_|omega|(dsimp only;omega)))
theorem zXr : mk12.ok Try.prog 87 := z4j (gokc zEd (gokc zCg gok0)) z9e
theorem z8n (i : MkI) (h : mk21.cnd i) : zMa i := by
  obtain ⟨a0,a1,b0,b1,⟨ht,hp⟩,ho⟩ : 0 ≤ i.a ∧ i.a < i.tops.length ∧ 0 ≤ i.b ∧ i.b < i.tops.length ∧ k0 i.tops ∧ i.out.length ≤ 1000 := h
  obtain ⟨x,hx⟩ := z9 (l := i.tops) (i := i.a.toNat) (by omega)
  obtain ⟨y,hy⟩ := z9 (l := i.tops) (i := i.b.toNat) (by omega)
  obtain ⟨⟨px1,px2⟩,px3,px4⟩ := hp x (List.mem_of_getElem? hx)
  obtain ⟨⟨py1,py2⟩,py3,py4⟩ := hp y (List.mem_of_getElem? hy)
  have e0 : mkq i.tops ⟨i.a,2⟩ ⟨i.b,1⟩ i.less = if x.has2 && y.has1 && (if i.less then kT y.p1 x.p2 else kX x.p2 y.p1).2 then [⟨(if i.less then kT y.p1 x.p2 else kX x.p2 y.p1).1,min x.q2 y.q1,⟨i.a,2⟩,⟨i.b,1⟩⟩] else [] := by
    simp only [mkq,List.getD_eq_getElem?_getD,hx,hy,Option.getD_some]; rfl
  unfold zMa zCv bQ
  simp only [List.length_map]
  refine ⟨⟨by omega,by omega⟩,x.has1,x.has2,x.p1,x.p2,x.q1,x.q2,elA hx (by simp [zQ]) rfl,⟨by omega,by omega⟩,y.has1,y.has2,y.p1,y.p2,y.q1,y.q2,elA hy (by simp [zQ]) rfl,?_⟩
  rw [e0]
  (repeat' (first|exact rfl|exact trivial|assumption|apply And.intro|refine fun (_:Unit) (_:True)=>?_|refine Exists.intro () ?_|omega|(dsimp only;omega)))
  all_goals
    refine Cv.cnd.mk (fun c1 => ?_) (fun c1 => Cv.cnd.mk (fun c2 => ?_) (fun c2 => ?_))
    · have c1 : x.has2 = false := by simpa using c1
      simp only [c1,Bool.false_and,Bool.false_eq_true,if_false,List.append_nil]; (repeat' (first|exact rfl|exact trivial|assumption|apply And.intro|refine fun (_:Unit) (_:True)=>?_|refine Exists.intro () ?_|omega|(dsimp only;omega)))
    · have c2 : y.has1 = false := by simpa using c2
      simp only [c2,Bool.and_false,Bool.false_and,Bool.false_eq_true,if_false,List.append_nil]; (repeat' (first|exact rfl|exact trivial|assumption|apply And.intro|refine fun (_:Unit) (_:True)=>?_|refine Exists.intro () ?_|omega|(dsimp only;omega)))
    · have c1 : x.has2 = true := by simpa using c1
      have c2 : y.has1 = true := by simpa using c2
      simp only [c1,c2,Bool.true_and,zXq]
      refine ⟨⟨x.p2,y.p1⟩,?_⟩
      (repeat' (first|exact rfl|exact trivial|assumption|apply And.intro|refine fun (_:Unit) (_:True)=>?_|refine Exists.intro () ?_|omega|(dsimp only;omega)))
      refine Cv.cnd.mk (fun c3 => ?_) (fun c3 => ?_)
      · have c3 : i.less = true := c3
        simp only [c3,if_true]
        refine ⟨⟨y.p1,x.p2⟩,?_⟩
        (repeat' (first|exact rfl|exact trivial|assumption|apply And.intro|refine fun (_:Unit) (_:True)=>?_|refine Exists.intro () ?_|omega|(dsimp only;omega)))
        refine Cv.cnd.mk (fun c4 => ?_) (fun c4 => ?_)
        · have c4 : (kT y.p1 x.p2).2 = true := c4
          simp only [c4,if_true,List.map_append]; (repeat' (first|exact rfl|exact trivial|assumption|apply And.intro|refine fun (_:Unit) (_:True)=>?_|refine Exists.intro () ?_|omega|(dsimp only;omega)))
        · have c4 : (kT y.p1 x.p2).2 = false := c4
          simp only [c4,Bool.false_eq_true,if_false,List.append_nil]; (repeat' (first|exact rfl|exact trivial|assumption|apply And.intro|refine fun (_:Unit) (_:True)=>?_|refine Exists.intro () ?_|omega|(dsimp only;omega)))
      · have c3 : i.less = false := c3
        simp only [c3,Bool.false_eq_true,if_false]
        refine Cv.cnd.mk (fun c4 => ?_) (fun c4 => ?_)
        · have c4 : (kX x.p2 y.p1).2 = true := c4
          simp only [c4,if_true,List.map_append]; (repeat' (first|exact rfl|exact trivial|assumption|apply And.intro|refine fun (_:Unit) (_:True)=>?_|refine Exists.intro () ?_|omega|(dsimp only;omega)))
        · have c4 : (kX x.p2 y.p1).2 = false := c4
          simp only [c4,Bool.false_eq_true,if_false,List.append_nil]; (repeat' (first|exact rfl|exact trivial|assumption|apply And.intro|refine fun (_:Unit) (_:True)=>?_|refine Exists.intro () ?_|omega|(dsimp only;omega)))
theorem zZc : mk21.ok Try.prog 87 := z7f (gokc zEd (gokc zCg gok0)) z8n
theorem z8u (i : MkI) (h : mk22.cnd i) : zMe i := by
  obtain ⟨a0,a1,b0,b1,⟨ht,hp⟩,ho⟩ : 0 ≤ i.a ∧ i.a < i.tops.length ∧ 0 ≤ i.b ∧ i.b < i.tops.length ∧ k0 i.tops ∧ i.out.length ≤ 1000 := h
  obtain ⟨x,hx⟩ := z9 (l := i.tops) (i := i.a.toNat) (by omega)
  obtain ⟨y,hy⟩ := z9 (l := i.tops) (i := i.b.toNat) (by omega)
  obtain ⟨⟨px1,px2⟩,px3,px4⟩ := hp x (List.mem_of_getElem? hx)
  obtain ⟨⟨py1,py2⟩,py3,py4⟩ := hp y (List.mem_of_getElem? hy)
  have e0 : mkq i.tops ⟨i.a,2⟩ ⟨i.b,2⟩ i.less = if x.has2 && y.has2 && (if i.less then kT y.p2 x.p2 else kX x.p2 y.p2).2 then [⟨(if i.less then kT y.p2 x.p2 else kX x.p2 y.p2).1,min x.q2 y.q2,⟨i.a,2⟩,⟨i.b,2⟩⟩] else [] := by
    simp only [mkq,List.getD_eq_getElem?_getD,hx,hy,Option.getD_some]; rfl
  unfold zMe zDg aD
  simp only [List.length_map]
  refine ⟨⟨by omega,by omega⟩,x.has1,x.has2,x.p1,x.p2,x.q1,x.q2,elA hx (by simp [zQ]) rfl,⟨by omega,by omega⟩,y.has1,y.has2,y.p1,y.p2,y.q1,y.q2,elA hy (by simp [zQ]) rfl,?_⟩
  rw [e0]
  (repeat' (first|exact rfl|exact trivial|assumption|apply And.intro|refine fun (_:Unit) (_:True)=>?_|refine Exists.intro () ?_|omega|(dsimp only;omega)))
  all_goals
    refine Cv.cnd.mk (fun c1 => ?_) (fun c1 => Cv.cnd.mk (fun c2 => ?_) (fun c2 => ?_))
    · have c1 : x.has2 = false := by simpa using c1
      simp only [c1,Bool.false_and,Bool.false_eq_true,if_false,List.append_nil]; (repeat' (first|exact rfl|exact trivial|assumption|apply And.intro|refine fun (_:Unit) (_:True)=>?_|refine Exists.intro () ?_|omega|(dsimp only;omega)))
    · have c2 : y.has2 = false := by simpa using c2
      simp only [c2,Bool.and_false,Bool.false_and,Bool.false_eq_true,if_false,List.append_nil]; (repeat' (first|exact rfl|exact trivial|assumption|apply And.intro|refine fun (_:Unit) (_:True)=>?_|refine Exists.intro () ?_|omega|(dsimp only;omega)))
    · have c1 : x.has2 = true := by simpa using c1
      have c2 : y.has2 = true := by simpa using c2
      simp only [c1,c2,Bool.true_and,zXq]
      refine ⟨⟨x.p2,y.p2⟩,?_⟩
      (repeat' (first|exact rfl|exact trivial|assumption|apply And.intro|refine fun (_:Unit) (_:True)=>?_|refine Exists.intro () ?_|omega|(dsimp only;omega)))
      refine Cv.cnd.mk (fun c3 => ?_) (fun c3 => ?_)
      · have c3 : i.less = true := c3
        simp only [c3,if_true]
        refine ⟨⟨y.p2,x.p2⟩,?_⟩
        (repeat' (first|exact rfl|exact trivial|assumption|apply And.intro|refine fun (_:Unit) (_:True)=>?_|refine Exists.intro () ?_|omega|(dsimp only;omega)))
        refine Cv.cnd.mk (fun c4 => ?_) (fun c4 => ?_)
        · have c4 : (kT y.p2 x.p2).2 = true := c4
          simp only [c4,if_true,List.map_append]; (repeat' (first|exact rfl|exact trivial|assumption|apply And.intro|refine fun (_:Unit) (_:True)=>?_|refine Exists.intro () ?_|omega|(dsimp only;omega)))
        · have c4 : (kT y.p2 x.p2).2 = false := c4
          simp only [c4,Bool.false_eq_true,if_false,List.append_nil]; (repeat' (first|exact rfl|exact trivial|assumption|apply And.intro|refine fun (_:Unit) (_:True)=>?_|refine Exists.intro () ?_|omega|(dsimp only;omega)))
      · have c3 : i.less = false := c3
        simp only [c3,Bool.false_eq_true,if_false]
        refine Cv.cnd.mk (fun c4 => ?_) (fun c4 => ?_)
        · have c4 : (kX x.p2 y.p2).2 = true := c4
          simp only [c4,if_true,List.map_append]; (repeat' (first|exact rfl|exact trivial|assumption|apply And.intro|refine fun (_:Unit) (_:True)=>?_|refine Exists.intro () ?_|omega|(dsimp only;omega)))
        · have c4 : (kX x.p2 y.p2).2 = false := c4
          simp only [c4,Bool.false_eq_true,if_false,List.append_nil]; (repeat' (first|exact rfl|exact trivial|assumption|apply And.intro|refine fun (_:Unit) (_:True)=>?_|refine Exists.intro () ?_|omega|(dsimp only;omega)))
theorem z1a : mk22.ok Try.prog 87 := z5l (gokc zEd (gokc zCg gok0)) z8u
open Go Cv Go.Proofs
structure MkJ where
  i : MkI
  sa : Bool
  sb : Bool
def mkAnyC : Con := con1 MkJ (fun j => [.nm 0 0,.agg [zF j.i.a,zF (zB j.sa)],.agg [zF j.i.b,zF (zB j.sb)],yG j.i.less]) (fun j => MkR j.i.tops j.i.out)
  (fun j => 0 ≤ j.i.a ∧ j.i.a < j.i.tops.length ∧ 0 ≤ j.i.b ∧ j.i.b < j.i.tops.length ∧ k0 j.i.tops ∧ j.i.out.length ≤ 1000) (fun _ => zGb) (fun j => MkP j.i.tops (j.i.out ++ mkq j.i.tops ⟨j.i.a,zB j.sa⟩ ⟨j.i.b,zB j.sb⟩ j.i.less))
theorem zFd : mkAnyC.ok Try.prog 87 := fun j => match j with
  | ⟨i,false,false⟩ => zYq i
  | ⟨i,false,true⟩ => zXr i
  | ⟨i,true,false⟩ => zZc i
  | ⟨i,true,true⟩ => z1a i
structure jW where
  p : Prd
  tops : List Top
  inst : Int
def xE (i : jW) (s : Int) (k : Nat) : List Quote := (List.range k).flatMap fun (k : Nat) => mkq i.tops ⟨(i.p.spread i.inst (i.inst + 1 + k)).1,s⟩ ⟨i.inst + 1 + k,s⟩ false
def xB (i : jW) (s : Int) (k : Nat) : List Quote := (List.range k).flatMap fun (k : Nat) => mkq i.tops ⟨(i.p.spread k i.inst).1,3 - s⟩ ⟨k,s⟩ true
def zY (i : jW) (s : Int) : List Quote := mkq i.tops ⟨(i.p.legs i.inst).2.1,3 - s⟩ ⟨(i.p.legs i.inst).1,s⟩ true
def qT (i : jW) (s : Int) (q : Quote) : Quote := { q with a := ⟨(i.p.legs i.inst).1,s⟩,b := ⟨(i.p.legs i.inst).2.1,3 - s⟩ }
def xN (i : jW) (s : Int) : List Quote :=
  if i.p.count = 0 ∨ (i.tops.length : Int) ≠ i.p.count ∨ i.inst < 0 ∨ (i.p.count : Int) ≤ i.inst then []
  else if (i.p.legs i.inst).2.2 then (zY i s).map (qT i s)
  else xE i s (i.p.months.length - (i.inst.toNat + 1)) ++ xB i s i.inst.toNat
def z3i (s : Int) : Con := con1 jW (fun i => [prdV i.p,roV 6 (i.tops.map zQ),zF i.inst,zF s]) (fun _ => []) (fun i => i.p.small ∧ k0 i.tops) (fun _ => .own 0) (fun i => [.own 77 6 ((xN i s).map zI)])
def all1C : Con := z3i 1
def all2C : Con := z3i 2
def zYn (i : jW) (s : Int) : List SAnn := [
  { ι := Nat,slots := fun k => [(10,.nm 0 0),(77,zF k)],rows := fun k => (List.range 3).map (MkU (i.tops,((zY i s).take k).map (qT i s) ++ (zY i s).drop k)) },
  { ι := Nat,slots := fun k => [(10,.nm 0 0),(17,zF (i.inst + 1 + k))],rows := fun k => MkR i.tops (xE i s k) },
  { ι := Nat,slots := fun k => [(10,.nm 0 0),(120,zF k)],rows := fun k => MkR i.tops (xE i s (i.p.months.length - (i.inst.toNat + 1)) ++ xB i s k) }]
structure dP where
  i : jW
  s : Bool
def allC : Con := con1 dP (fun j => [prdV j.i.p,roV 6 (j.i.tops.map zQ),zF j.i.inst,zF (zB j.s)]) (fun _ => []) (fun j => j.i.p.small ∧ k0 j.i.tops) (fun _ => .own 0) (fun j => [.own 77 6 ((xN j.i (zB j.s)).map zI)])
def qY (i : jW) (s : Int) : List Quote := (xN i s).filter fun q => decide (i.p.price i.inst q.price = 0)
def quotesC : Con := con1 dP (fun j => [prdV j.i.p,roV 6 (j.i.tops.map zQ),zF j.i.inst,zF (zB j.s)]) (fun _ => []) (fun j => j.i.p.small ∧ k0 j.i.tops) (fun _ => .own 0) (fun j => [.own 77 6 ((qY j.i (zB j.s)).map zI)])
def zMr (j : dP) : List SAnn := [{ ι := Nat,slots := fun k => [(9,.own 0),(18,zF k)],rows := fun k => [.own 77 6 ((((xN j.i (zB j.s)).take k).filter fun q => decide (j.i.p.price j.i.inst q.price = 0)).map zI)] }]
structure BsI where
  l : List Quote
  s : Int
def zW (l : List Quote) (s : Int) : Quote × Bool := match l with
  | [] => (z7r,false)
  | q :: r => (r.foldl (fun b q => if btr s q.price b.price then q else b) q,true)
def bestQC : Con := con1 BsI (fun i => [roV 6 (i.l.map zI),zF i.s]) (fun _ => []) (fun i => (i.s = 1 ∨ i.s = 2) ∧ i.l.length ≤ 1000000) (fun i => .tup [zKi (zW i.l i.s).1,yG (zW i.l i.s).2]) (fun _ => [])
def zTt (i : BsI) : List SAnn := [{ ι := Nat,slots := fun k => [(6,.nm 0 0),(26,zF k)],rows := fun k => [.cells (zKi (zW (i.l.take (max k 1)) i.s).1).cl 77] }]
open Go Cv Go.Proofs
@[reducible] def zLf (i_2 : j8) (i_3 : Int) : AObj := Sx.AObj.cells [V.d (D.v (.int .i64 (i_2.p.legs i_2.n).snd.fst)),V.d (D.v (.int .i64 ((3 : Int) - i_3)))] (74 : Nat)
@[reducible] def zNs (i_2 : j8) : AObj := Sx.AObj.cells [V.d (D.v (.int .i64 (i_2.p.legs i_2.n).fst)),V.d (D.v (.int .i64 1))] (74 : Nat)
@[reducible] def fZ (i : jW) : AObj := Sx.AObj.cells [V.d (D.v (Value.string (sb i.p.code))),V.own (0 : Nat),V.d (D.v (.int .i64 i.p.tick)),V.d (D.v (.int .i64 i.p.low)),V.d (D.v (.int .i64 i.p.high)),V.d (D.v (.int .i64 i.p.wide)),V.d (D.v (.int .i64 i.p.rule)),V.d (D.v (.int .i64 i.p.top)),V.d (D.v (.int .i64 i.p.least)),V.d (D.v (.int .i64 i.p.part)),V.own ((0 : Nat) + (1 : Nat))] (25 : Nat)
def zXe (i : jW) : Prop :=
  ∃ (i_1 : Prd),sb i_1.code = sb i.p.code∧iE i_1.months = iE i.p.months∧i_1.tick = i.p.tick∧i_1.low = i.p.low∧i_1.high = i.p.high∧i_1.wide = i.p.wide∧i_1.rule = i.p.rule∧i_1.top = i.p.top∧i_1.least = i.p.least∧i_1.part = i.p.part∧iE i_1.settle = iE i.p.settle∧(i_1.code.length ≤ 1099511627776∧i_1.months.length ≤ 1099511627776∧i_1.settle.length ≤ 1099511627776)∧∀ (o : Unit),True→cnd ((↑i_1.count : Int) == 0) (∃ (o : Unit),List.map zI (xN i 1) = []∧True) (cnd ((↑(List.map zQ i.tops).length : Int) != (↑i_1.count : Int)) (∃ (o : Unit),List.map zI (xN i 1) = []∧True) (cnd (decide (i.inst < 0)) (∃ (o : Unit),List.map zI (xN i 1) = []∧True) (cnd (decide (i.inst ≥ (↑i_1.count : Int))) (∃ (o : Unit),List.map zI (xN i 1) = []∧True) (∃ (i_2 : j8),sb i_2.p.code = sb i.p.code∧iE i_2.p.months = iE i.p.months∧i_2.p.tick = i.p.tick∧i_2.p.low = i.p.low∧i_2.p.high = i.p.high∧i_2.p.wide = i.p.wide∧i_2.p.rule = i.p.rule∧i_2.p.top = i.p.top∧i_2.p.least = i.p.least∧i_2.p.part = i.p.part∧iE i_2.p.settle = iE i.p.settle∧i_2.n = i.inst∧(i_2.p.code.length ≤ 1099511627776∧i_2.p.months.length ≤ 1099511627776∧i_2.p.settle.length ≤ 1099511627776)∧∀ (o : Unit),True→cnd (i_2.p.legs i_2.n).snd.snd (∃ (i_3 : Int),i_3 = 1∧(i_3 = 1 ∨ i_3 = 2)∧∀ (o : Unit),True→∃ (i_4 : MkJ),i_4.i.a = (i_2.p.legs i_2.n).snd.fst∧zB i_4.sa = 3 - i_3∧i_4.i.b = (i_2.p.legs i_2.n).fst∧zB i_4.sb = 1∧i_4.i.less = true∧AObj.fro 6 (List.map zQ i_4.i.tops) = AObj.fro 6 (List.map zQ i.tops)∧List.map zI i_4.i.out = []∧(0 ≤ i_4.i.a∧i_4.i.a < (↑i_4.i.tops.length : Int)∧0 ≤ i_4.i.b∧i_4.i.b < (↑i_4.i.tops.length : Int)∧(i_4.i.tops.length ≤ 1000000∧∀ (t : Top),t ∈ i_4.i.tops→((-9223372036854775808) ≤ t.p1∧t.p1 ≤ 9223372036854775807)∧(-9223372036854775808) ≤ t.p2∧t.p2 ≤ 9223372036854775807)∧i_4.i.out.length ≤ 1000)∧∀ (o : Unit),True→∃ (i0 : Nat),(↑i0 : Int) = 0∧AObj.fro 6 (List.map zQ i.tops) = AObj.fro 6 (List.map zQ i_4.i.tops)∧List.map zI (List.map (qT i 1) (List.take i0 (zY i 1)) ++ List.drop i0 (zY i 1)) = List.map zI (i_4.i.out ++ mkq i_4.i.tops (Leg.mk i_4.i.a (zB i_4.sa)) (Leg.mk i_4.i.b (zB i_4.sb)) i_4.i.less)∧∃ (I : Nat→Prop),∃ (μ : Nat→Nat),I i0∧∀ (i_5 : Nat),I i_5→cnd (decide ((↑i_5 : Int) < (↑(List.map zI (i_4.i.out ++ mkq i_4.i.tops (Leg.mk i_4.i.a (zB i_4.sa)) (Leg.mk i_4.i.b (zB i_4.sb)) i_4.i.less)).length : Int))) ((0 ≤ (↑i_5 : Int)∧(↑i_5 : Int) < (↑(List.map zI (List.map (qT i 1) (List.take i_5 (zY i 1)) ++ List.drop i_5 (zY i 1))).length : Int))∧(↑i_5 : Int).toNat < (List.map zI (List.map (qT i 1) (List.take i_5 (zY i 1)) ++ List.drop i_5 (zY i 1))).length∧∃ (i' : Nat),(↑i' : Int) = IntKind.i64.wrap ((↑i_5 : Int) + 1)∧AObj.fro 6 (List.map zQ i.tops) = AObj.fro 6 (List.map zQ i.tops)∧List.map zI (List.map (qT i 1) (List.take i' (zY i 1)) ++ List.drop i' (zY i 1)) = zK (List.map zI (List.map (qT i 1) (List.take i_5 (zY i 1)) ++ List.drop i_5 (zY i 1))) (↑i_5 : Int).toNat ((0 : Nat) + (2 : Nat)) [D.v (.int .i64 (i_2.p.legs i_2.n).fst),D.v (.int .i64 1),D.v (.int .i64 (i_2.p.legs i_2.n).snd.fst),D.v (.int .i64 (3 - i_3))]∧I i'∧μ i' < μ i_5∧AObj.fro 6 (List.map zQ i_4.i.tops) = AObj.fro 6 (List.map zQ i_4.i.tops)∧zLf i_2 i_3 = zLf i_2 i_3∧zNs i_2 = zNs i_2∧AObj.fro 6 (List.map zQ i.tops) = AObj.fro 6 (List.map zQ i.tops)∧fZ i = fZ i∧AObj.fro 1 (iE i.p.settle) = AObj.fro 1 (iE i.p.settle)∧AObj.fro 1 (iE i.p.months) = AObj.fro 1 (iE i.p.months)) (∃ (o : Unit),List.map zI (xN i 1) = List.map zI (List.map (qT i 1) (List.take i_5 (zY i 1)) ++ List.drop i_5 (zY i 1))∧True)) (∃ (i0 : Nat),i.inst + 1 + (↑i0 : Int) = IntKind.i64.wrap (i.inst + 1)∧AObj.fro 6 (List.map zQ i.tops) = AObj.fro 6 (List.map zQ i.tops)∧List.map zI (xE i 1 i0) = []∧∃ (I : Nat→Prop),∃ (μ : Nat→Nat),I i0∧∀ (i_3 : Nat),I i_3→cnd (decide (i.inst + 1 + (↑i_3 : Int) < (↑(iE i.p.months).length : Int))) (∃ (i_4 : wN),sb i_4.p.code = sb i.p.code∧iE i_4.p.months = iE i.p.months∧i_4.p.tick = i.p.tick∧i_4.p.low = i.p.low∧i_4.p.high = i.p.high∧i_4.p.wide = i.p.wide∧i_4.p.rule = i.p.rule∧i_4.p.top = i.p.top∧i_4.p.least = i.p.least∧i_4.p.part = i.p.part∧iE i_4.p.settle = iE i.p.settle∧i_4.a = i.inst∧i_4.b = i.inst + 1 + (↑i_3 : Int)∧(i_4.p.code.length ≤ 1099511627776∧i_4.p.months.length ≤ 1099511627776∧i_4.p.settle.length ≤ 1099511627776)∧∀ (o : Unit),True→∃ (i_5 : MkJ),i_5.i.a = (i_4.p.spread i_4.a i_4.b).fst∧zB i_5.sa = 1∧i_5.i.b = i.inst + 1 + (↑i_3 : Int)∧zB i_5.sb = 1∧i_5.i.less = false∧AObj.fro 6 (List.map zQ i_5.i.tops) = AObj.fro 6 (List.map zQ i.tops)∧List.map zI i_5.i.out = List.map zI (xE i 1 i_3)∧(0 ≤ i_5.i.a∧i_5.i.a < (↑i_5.i.tops.length : Int)∧0 ≤ i_5.i.b∧i_5.i.b < (↑i_5.i.tops.length : Int)∧(i_5.i.tops.length ≤ 1000000∧∀ (t : Top),t ∈ i_5.i.tops→((-9223372036854775808) ≤ t.p1∧t.p1 ≤ 9223372036854775807)∧(-9223372036854775808) ≤ t.p2∧t.p2 ≤ 9223372036854775807)∧i_5.i.out.length ≤ 1000)∧∀ (o : Unit),True→∃ (i' : Nat),i.inst + 1 + (↑i' : Int) = IntKind.i64.wrap (i.inst + 1 + (↑i_3 : Int) + 1)∧AObj.fro 6 (List.map zQ i.tops) = AObj.fro 6 (List.map zQ i_5.i.tops)∧List.map zI (xE i 1 i') = List.map zI (i_5.i.out ++ mkq i_5.i.tops (Leg.mk i_5.i.a (zB i_5.sa)) (Leg.mk i_5.i.b (zB i_5.sb)) i_5.i.less)∧I i'∧μ i' < μ i_3∧AObj.fro 6 (List.map zQ i.tops) = AObj.fro 6 (List.map zQ i.tops)∧fZ i = fZ i∧AObj.fro 1 (iE i.p.settle) = AObj.fro 1 (iE i.p.settle)∧AObj.fro 1 (iE i.p.months) = AObj.fro 1 (iE i.p.months)) (∃ (i0 : Nat),(↑i0 : Int) = 0∧AObj.fro 6 (List.map zQ i.tops) = AObj.fro 6 (List.map zQ i.tops)∧List.map zI (xE i 1 (i.p.months.length - (i.inst.toNat + 1)) ++ xB i 1 i0) = List.map zI (xE i 1 i_3)∧∃ (I : Nat→Prop),∃ (μ : Nat→Nat),I i0∧∀ (i_4 : Nat),I i_4→cnd (decide ((↑i_4 : Int) < i.inst)) (∃ (i_5 : wN),sb i_5.p.code = sb i.p.code∧iE i_5.p.months = iE i.p.months∧i_5.p.tick = i.p.tick∧i_5.p.low = i.p.low∧i_5.p.high = i.p.high∧i_5.p.wide = i.p.wide∧i_5.p.rule = i.p.rule∧i_5.p.top = i.p.top∧i_5.p.least = i.p.least∧i_5.p.part = i.p.part∧iE i_5.p.settle = iE i.p.settle∧i_5.a = (↑i_4 : Int)∧i_5.b = i.inst∧(i_5.p.code.length ≤ 1099511627776∧i_5.p.months.length ≤ 1099511627776∧i_5.p.settle.length ≤ 1099511627776)∧∀ (o : Unit),True→∃ (i_6 : Int),i_6 = 1∧(i_6 = 1 ∨ i_6 = 2)∧∀ (o : Unit),True→∃ (i_7 : MkJ),i_7.i.a = (i_5.p.spread i_5.a i_5.b).fst∧zB i_7.sa = 3 - i_6∧i_7.i.b = (↑i_4 : Int)∧zB i_7.sb = 1∧i_7.i.less = true∧AObj.fro 6 (List.map zQ i_7.i.tops) = AObj.fro 6 (List.map zQ i.tops)∧List.map zI i_7.i.out = List.map zI (xE i 1 (i.p.months.length - (i.inst.toNat + 1)) ++ xB i 1 i_4)∧(0 ≤ i_7.i.a∧i_7.i.a < (↑i_7.i.tops.length : Int)∧0 ≤ i_7.i.b∧i_7.i.b < (↑i_7.i.tops.length : Int)∧(i_7.i.tops.length ≤ 1000000∧∀ (t : Top),t ∈ i_7.i.tops→((-9223372036854775808) ≤ t.p1∧t.p1 ≤ 9223372036854775807)∧(-9223372036854775808) ≤ t.p2∧t.p2 ≤ 9223372036854775807)∧i_7.i.out.length ≤ 1000)∧∀ (o : Unit),True→∃ (i' : Nat),(↑i' : Int) = IntKind.i64.wrap ((↑i_4 : Int) + 1)∧AObj.fro 6 (List.map zQ i.tops) = AObj.fro 6 (List.map zQ i_7.i.tops)∧List.map zI (xE i 1 (i.p.months.length - (i.inst.toNat + 1)) ++ xB i 1 i') = List.map zI (i_7.i.out ++ mkq i_7.i.tops (Leg.mk i_7.i.a (zB i_7.sa)) (Leg.mk i_7.i.b (zB i_7.sb)) i_7.i.less)∧I i'∧μ i' < μ i_4∧AObj.fro 6 (List.map zQ i.tops) = AObj.fro 6 (List.map zQ i.tops)∧AObj.fro 6 (List.map zQ i.tops) = AObj.fro 6 (List.map zQ i.tops)∧fZ i = fZ i∧AObj.fro 1 (iE i.p.settle) = AObj.fro 1 (iE i.p.settle)∧AObj.fro 1 (iE i.p.months) = AObj.fro 1 (iE i.p.months)) (∃ (o : Unit),List.map zI (xN i 1) = List.map zI (xE i 1 (i.p.months.length - (i.inst.toNat + 1)) ++ xB i 1 i_4)∧True)))))))
theorem z4n (i : jW) : zXe i = walk Try.prog ([(18,pcountC),(85,legsC),(88,spreadC),(86,iotherC),(87,mkAnyC)]) 0 ([]) (zYn i 1) [] Try.f72 (Try.f72.body.getD .skip) (all1C.pat i) (all1C.pre i) (all1C.alts i) := by kernel_rfl
theorem z7b (hG : GOk Try.prog ([(18,pcountC),(85,legsC),(88,spreadC),(86,iotherC),(87,mkAnyC)])) (h : ∀ (i : jW),all1C.cnd i → zXe i) : all1C.ok Try.prog 72 := zE mixed ([(18,pcountC),(85,legsC),(88,spreadC),(86,iotherC),(87,mkAnyC)]) hG 0 (fun (i : jW) => []) (fun (i : jW) => zYn i 1) [] Try.func72 (by kernel_rfl) (by kernel_rfl) (by kernel_rfl) (fun _ => by kernel_rfl) (fun (i : jW) hc => Eq.mp (z4n i) (h i hc))
@[reducible] def zMf (i_2 : j8) (i_3 : Int) : AObj := Sx.AObj.cells [V.d (D.v (.int .i64 (i_2.p.legs i_2.n).snd.fst)),V.d (D.v (.int .i64 ((3 : Int) - i_3)))] (74 : Nat)
@[reducible] def zNc (i_2 : j8) : AObj := Sx.AObj.cells [V.d (D.v (.int .i64 (i_2.p.legs i_2.n).fst)),V.d (D.v (.int .i64 2))] (74 : Nat)
@[reducible] def fT (i : jW) : AObj := Sx.AObj.cells [V.d (D.v (Value.string (sb i.p.code))),V.own (0 : Nat),V.d (D.v (.int .i64 i.p.tick)),V.d (D.v (.int .i64 i.p.low)),V.d (D.v (.int .i64 i.p.high)),V.d (D.v (.int .i64 i.p.wide)),V.d (D.v (.int .i64 i.p.rule)),V.d (D.v (.int .i64 i.p.top)),V.d (D.v (.int .i64 i.p.least)),V.d (D.v (.int .i64 i.p.part)),V.own ((0 : Nat) + (1 : Nat))] (25 : Nat)
def zUy (i : jW) : Prop :=
  ∃ (i_1 : Prd),sb i_1.code = sb i.p.code∧iE i_1.months = iE i.p.months∧i_1.tick = i.p.tick∧i_1.low = i.p.low∧i_1.high = i.p.high∧i_1.wide = i.p.wide∧i_1.rule = i.p.rule∧i_1.top = i.p.top∧i_1.least = i.p.least∧i_1.part = i.p.part∧iE i_1.settle = iE i.p.settle∧(i_1.code.length ≤ 1099511627776∧i_1.months.length ≤ 1099511627776∧i_1.settle.length ≤ 1099511627776)∧∀ (o : Unit),True→cnd ((↑i_1.count : Int) == 0) (∃ (o : Unit),List.map zI (xN i 2) = []∧True) (cnd ((↑(List.map zQ i.tops).length : Int) != (↑i_1.count : Int)) (∃ (o : Unit),List.map zI (xN i 2) = []∧True) (cnd (decide (i.inst < 0)) (∃ (o : Unit),List.map zI (xN i 2) = []∧True) (cnd (decide (i.inst ≥ (↑i_1.count : Int))) (∃ (o : Unit),List.map zI (xN i 2) = []∧True) (∃ (i_2 : j8),sb i_2.p.code = sb i.p.code∧iE i_2.p.months = iE i.p.months∧i_2.p.tick = i.p.tick∧i_2.p.low = i.p.low∧i_2.p.high = i.p.high∧i_2.p.wide = i.p.wide∧i_2.p.rule = i.p.rule∧i_2.p.top = i.p.top∧i_2.p.least = i.p.least∧i_2.p.part = i.p.part∧iE i_2.p.settle = iE i.p.settle∧i_2.n = i.inst∧(i_2.p.code.length ≤ 1099511627776∧i_2.p.months.length ≤ 1099511627776∧i_2.p.settle.length ≤ 1099511627776)∧∀ (o : Unit),True→cnd (i_2.p.legs i_2.n).snd.snd (∃ (i_3 : Int),i_3 = 2∧(i_3 = 1 ∨ i_3 = 2)∧∀ (o : Unit),True→∃ (i_4 : MkJ),i_4.i.a = (i_2.p.legs i_2.n).snd.fst∧zB i_4.sa = 3 - i_3∧i_4.i.b = (i_2.p.legs i_2.n).fst∧zB i_4.sb = 2∧i_4.i.less = true∧AObj.fro 6 (List.map zQ i_4.i.tops) = AObj.fro 6 (List.map zQ i.tops)∧List.map zI i_4.i.out = []∧(0 ≤ i_4.i.a∧i_4.i.a < (↑i_4.i.tops.length : Int)∧0 ≤ i_4.i.b∧i_4.i.b < (↑i_4.i.tops.length : Int)∧(i_4.i.tops.length ≤ 1000000∧∀ (t : Top),t ∈ i_4.i.tops→((-9223372036854775808) ≤ t.p1∧t.p1 ≤ 9223372036854775807)∧(-9223372036854775808) ≤ t.p2∧t.p2 ≤ 9223372036854775807)∧i_4.i.out.length ≤ 1000)∧∀ (o : Unit),True→∃ (i0 : Nat),(↑i0 : Int) = 0∧AObj.fro 6 (List.map zQ i.tops) = AObj.fro 6 (List.map zQ i_4.i.tops)∧List.map zI (List.map (qT i 2) (List.take i0 (zY i 2)) ++ List.drop i0 (zY i 2)) = List.map zI (i_4.i.out ++ mkq i_4.i.tops (Leg.mk i_4.i.a (zB i_4.sa)) (Leg.mk i_4.i.b (zB i_4.sb)) i_4.i.less)∧∃ (I : Nat→Prop),∃ (μ : Nat→Nat),I i0∧∀ (i_5 : Nat),I i_5→cnd (decide ((↑i_5 : Int) < (↑(List.map zI (i_4.i.out ++ mkq i_4.i.tops (Leg.mk i_4.i.a (zB i_4.sa)) (Leg.mk i_4.i.b (zB i_4.sb)) i_4.i.less)).length : Int))) ((0 ≤ (↑i_5 : Int)∧(↑i_5 : Int) < (↑(List.map zI (List.map (qT i 2) (List.take i_5 (zY i 2)) ++ List.drop i_5 (zY i 2))).length : Int))∧(↑i_5 : Int).toNat < (List.map zI (List.map (qT i 2) (List.take i_5 (zY i 2)) ++ List.drop i_5 (zY i 2))).length∧∃ (i' : Nat),(↑i' : Int) = IntKind.i64.wrap ((↑i_5 : Int) + 1)∧AObj.fro 6 (List.map zQ i.tops) = AObj.fro 6 (List.map zQ i.tops)∧List.map zI (List.map (qT i 2) (List.take i' (zY i 2)) ++ List.drop i' (zY i 2)) = zK (List.map zI (List.map (qT i 2) (List.take i_5 (zY i 2)) ++ List.drop i_5 (zY i 2))) (↑i_5 : Int).toNat ((0 : Nat) + (2 : Nat)) [D.v (.int .i64 (i_2.p.legs i_2.n).fst),D.v (.int .i64 2),D.v (.int .i64 (i_2.p.legs i_2.n).snd.fst),D.v (.int .i64 (3 - i_3))]∧I i'∧μ i' < μ i_5∧AObj.fro 6 (List.map zQ i_4.i.tops) = AObj.fro 6 (List.map zQ i_4.i.tops)∧zMf i_2 i_3 = zMf i_2 i_3∧zNc i_2 = zNc i_2∧AObj.fro 6 (List.map zQ i.tops) = AObj.fro 6 (List.map zQ i.tops)∧fT i = fT i∧AObj.fro 1 (iE i.p.settle) = AObj.fro 1 (iE i.p.settle)∧AObj.fro 1 (iE i.p.months) = AObj.fro 1 (iE i.p.months)) (∃ (o : Unit),List.map zI (xN i 2) = List.map zI (List.map (qT i 2) (List.take i_5 (zY i 2)) ++ List.drop i_5 (zY i 2))∧True)) (∃ (i0 : Nat),i.inst + 1 + (↑i0 : Int) = IntKind.i64.wrap (i.inst + 1)∧AObj.fro 6 (List.map zQ i.tops) = AObj.fro 6 (List.map zQ i.tops)∧List.map zI (xE i 2 i0) = []∧∃ (I : Nat→Prop),∃ (μ : Nat→Nat),I i0∧∀ (i_3 : Nat),I i_3→cnd (decide (i.inst + 1 + (↑i_3 : Int) < (↑(iE i.p.months).length : Int))) (∃ (i_4 : wN),sb i_4.p.code = sb i.p.code∧iE i_4.p.months = iE i.p.months∧i_4.p.tick = i.p.tick∧i_4.p.low = i.p.low∧i_4.p.high = i.p.high∧i_4.p.wide = i.p.wide∧i_4.p.rule = i.p.rule∧i_4.p.top = i.p.top∧i_4.p.least = i.p.least∧i_4.p.part = i.p.part∧iE i_4.p.settle = iE i.p.settle∧i_4.a = i.inst∧i_4.b = i.inst + 1 + (↑i_3 : Int)∧(i_4.p.code.length ≤ 1099511627776∧i_4.p.months.length ≤ 1099511627776∧i_4.p.settle.length ≤ 1099511627776)∧∀ (o : Unit),True→∃ (i_5 : MkJ),i_5.i.a = (i_4.p.spread i_4.a i_4.b).fst∧zB i_5.sa = 2∧i_5.i.b = i.inst + 1 + (↑i_3 : Int)∧zB i_5.sb = 2∧i_5.i.less = false∧AObj.fro 6 (List.map zQ i_5.i.tops) = AObj.fro 6 (List.map zQ i.tops)∧List.map zI i_5.i.out = List.map zI (xE i 2 i_3)∧(0 ≤ i_5.i.a∧i_5.i.a < (↑i_5.i.tops.length : Int)∧0 ≤ i_5.i.b∧i_5.i.b < (↑i_5.i.tops.length : Int)∧(i_5.i.tops.length ≤ 1000000∧∀ (t : Top),t ∈ i_5.i.tops→((-9223372036854775808) ≤ t.p1∧t.p1 ≤ 9223372036854775807)∧(-9223372036854775808) ≤ t.p2∧t.p2 ≤ 9223372036854775807)∧i_5.i.out.length ≤ 1000)∧∀ (o : Unit),True→∃ (i' : Nat),i.inst + 1 + (↑i' : Int) = IntKind.i64.wrap (i.inst + 1 + (↑i_3 : Int) + 1)∧AObj.fro 6 (List.map zQ i.tops) = AObj.fro 6 (List.map zQ i_5.i.tops)∧List.map zI (xE i 2 i') = List.map zI (i_5.i.out ++ mkq i_5.i.tops (Leg.mk i_5.i.a (zB i_5.sa)) (Leg.mk i_5.i.b (zB i_5.sb)) i_5.i.less)∧I i'∧μ i' < μ i_3∧AObj.fro 6 (List.map zQ i.tops) = AObj.fro 6 (List.map zQ i.tops)∧fT i = fT i∧AObj.fro 1 (iE i.p.settle) = AObj.fro 1 (iE i.p.settle)∧AObj.fro 1 (iE i.p.months) = AObj.fro 1 (iE i.p.months)) (∃ (i0 : Nat),(↑i0 : Int) = 0∧AObj.fro 6 (List.map zQ i.tops) = AObj.fro 6 (List.map zQ i.tops)∧List.map zI (xE i 2 (i.p.months.length - (i.inst.toNat + 1)) ++ xB i 2 i0) = List.map zI (xE i 2 i_3)∧∃ (I : Nat→Prop),∃ (μ : Nat→Nat),I i0∧∀ (i_4 : Nat),I i_4→cnd (decide ((↑i_4 : Int) < i.inst)) (∃ (i_5 : wN),sb i_5.p.code = sb i.p.code∧iE i_5.p.months = iE i.p.months∧i_5.p.tick = i.p.tick∧i_5.p.low = i.p.low∧i_5.p.high = i.p.high∧i_5.p.wide = i.p.wide∧i_5.p.rule = i.p.rule∧i_5.p.top = i.p.top∧i_5.p.least = i.p.least∧i_5.p.part = i.p.part∧iE i_5.p.settle = iE i.p.settle∧i_5.a = (↑i_4 : Int)∧i_5.b = i.inst∧(i_5.p.code.length ≤ 1099511627776∧i_5.p.months.length ≤ 1099511627776∧i_5.p.settle.length ≤ 1099511627776)∧∀ (o : Unit),True→∃ (i_6 : Int),i_6 = 2∧(i_6 = 1 ∨ i_6 = 2)∧∀ (o : Unit),True→∃ (i_7 : MkJ),i_7.i.a = (i_5.p.spread i_5.a i_5.b).fst∧zB i_7.sa = 3 - i_6∧i_7.i.b = (↑i_4 : Int)∧zB i_7.sb = 2∧i_7.i.less = true∧AObj.fro 6 (List.map zQ i_7.i.tops) = AObj.fro 6 (List.map zQ i.tops)∧List.map zI i_7.i.out = List.map zI (xE i 2 (i.p.months.length - (i.inst.toNat + 1)) ++ xB i 2 i_4)∧(0 ≤ i_7.i.a∧i_7.i.a < (↑i_7.i.tops.length : Int)∧0 ≤ i_7.i.b∧i_7.i.b < (↑i_7.i.tops.length : Int)∧(i_7.i.tops.length ≤ 1000000∧∀ (t : Top),t ∈ i_7.i.tops→((-9223372036854775808) ≤ t.p1∧t.p1 ≤ 9223372036854775807)∧(-9223372036854775808) ≤ t.p2∧t.p2 ≤ 9223372036854775807)∧i_7.i.out.length ≤ 1000)∧∀ (o : Unit),True→∃ (i' : Nat),(↑i' : Int) = IntKind.i64.wrap ((↑i_4 : Int) + 1)∧AObj.fro 6 (List.map zQ i.tops) = AObj.fro 6 (List.map zQ i_7.i.tops)∧List.map zI (xE i 2 (i.p.months.length - (i.inst.toNat + 1)) ++ xB i 2 i') = List.map zI (i_7.i.out ++ mkq i_7.i.tops (Leg.mk i_7.i.a (zB i_7.sa)) (Leg.mk i_7.i.b (zB i_7.sb)) i_7.i.less)∧I i'∧μ i' < μ i_4∧AObj.fro 6 (List.map zQ i.tops) = AObj.fro 6 (List.map zQ i.tops)∧AObj.fro 6 (List.map zQ i.tops) = AObj.fro 6 (List.map zQ i.tops)∧fT i = fT i∧AObj.fro 1 (iE i.p.settle) = AObj.fro 1 (iE i.p.settle)∧AObj.fro 1 (iE i.p.months) = AObj.fro 1 (iE i.p.months)) (∃ (o : Unit),List.map zI (xN i 2) = List.map zI (xE i 2 (i.p.months.length - (i.inst.toNat + 1)) ++ xB i 2 i_4)∧True)))))))
theorem z6x (i : jW) : zUy i = walk Try.prog ([(18,pcountC),(85,legsC),(88,spreadC),(86,iotherC),(87,mkAnyC)]) 0 ([]) (zYn i 2) [] Try.f72 (Try.f72.body.getD .skip) (all2C.pat i) (all2C.pre i) (all2C.alts i) := by kernel_rfl
theorem z4q (hG : GOk Try.prog ([(18,pcountC),(85,legsC),(88,spreadC),(86,iotherC),(87,mkAnyC)])) (h : ∀ (i : jW),all2C.cnd i → zUy i) : all2C.ok Try.prog 72 := zE mixed ([(18,pcountC),(85,legsC),(88,spreadC),(86,iotherC),(87,mkAnyC)]) hG 0 (fun (i : jW) => []) (fun (i : jW) => zYn i 2) [] Try.func72 (by kernel_rfl) (by kernel_rfl) (by kernel_rfl) (fun _ => by kernel_rfl) (fun (i : jW) hc => Eq.mp (z6x i) (h i hc))
@[reducible] def dE (j : dP) (i : dP) : AObj := Sx.AObj.cells [V.d (D.v (Value.string (sb j.i.p.code))),V.own (0 : Nat),V.d (D.v (.int .i64 j.i.p.tick)),V.d (D.v (.int .i64 j.i.p.low)),V.d (D.v (.int .i64 j.i.p.high)),V.d (D.v (.int .i64 j.i.p.wide)),V.d (D.v (.int .i64 j.i.p.rule)),V.d (D.v (.int .i64 j.i.p.top)),V.d (D.v (.int .i64 j.i.p.least)),V.d (D.v (.int .i64 j.i.p.part)),V.own ((0 : Nat) + (1 : Nat))] (25 : Nat)
def zCl (j : dP) : Prop :=
  ∃ (i : dP),sb i.i.p.code = sb j.i.p.code∧iE i.i.p.months = iE j.i.p.months∧i.i.p.tick = j.i.p.tick∧i.i.p.low = j.i.p.low∧i.i.p.high = j.i.p.high∧i.i.p.wide = j.i.p.wide∧i.i.p.rule = j.i.p.rule∧i.i.p.top = j.i.p.top∧i.i.p.least = j.i.p.least∧i.i.p.part = j.i.p.part∧iE i.i.p.settle = iE j.i.p.settle∧List.map zQ i.i.tops = List.map zQ j.i.tops∧i.i.inst = j.i.inst∧zB i.s = zB j.s∧((i.i.p.code.length ≤ 1099511627776∧i.i.p.months.length ≤ 1099511627776∧i.i.p.settle.length ≤ 1099511627776)∧i.i.tops.length ≤ 1000000∧∀ (t : Top),t ∈ i.i.tops→((-9223372036854775808) ≤ t.p1∧t.p1 ≤ 9223372036854775807)∧(-9223372036854775808) ≤ t.p2∧t.p2 ≤ 9223372036854775807)∧∀ (o : Unit),True→∃ (i0 : Nat),(↑i0 : Int) = 0∧List.map zI (List.filter (fun (q : Sx.Quote) ↦ decide (j.i.p.price j.i.inst q.price = 0)) (List.take i0 (xN j.i (zB j.s)))) = []∧∃ (I : Nat→Prop),∃ (μ : Nat→Nat),I i0∧∀ (i_1 : Nat),I i_1→cnd (decide ((↑i_1 : Int) < (↑(List.map zI (xN i.i (zB i.s))).length : Int))) ((0 ≤ (↑i_1 : Int)∧(↑i_1 : Int) < (↑(List.map zI (xN i.i (zB i.s))).length : Int))∧∃ (n : Int),∃ (n_1 : Int),∃ (n_2 : Int),∃ (n_3 : Int),∃ (n_4 : Int),∃ (n_5 : Int),zG (List.map zI (xN i.i (zB i.s))) (↑i_1 : Int).toNat 0 6 = some [D.v (.int .i64 n),D.v (.int .i64 n_1),D.v (.int .i64 n_2),D.v (.int .i64 n_3),D.v (.int .i64 n_4),D.v (.int .i64 n_5)]∧∃ (i_2 : wN),sb i_2.p.code = sb j.i.p.code∧iE i_2.p.months = iE j.i.p.months∧i_2.p.tick = j.i.p.tick∧i_2.p.low = j.i.p.low∧i_2.p.high = j.i.p.high∧i_2.p.wide = j.i.p.wide∧i_2.p.rule = j.i.p.rule∧i_2.p.top = j.i.p.top∧i_2.p.least = j.i.p.least∧i_2.p.part = j.i.p.part∧iE i_2.p.settle = iE j.i.p.settle∧i_2.a = j.i.inst∧i_2.b = n∧(i_2.p.code.length ≤ 1099511627776∧i_2.p.months.length ≤ 1099511627776∧i_2.p.settle.length ≤ 1099511627776)∧∀ (o : Unit),True→cnd (i_2.p.price i_2.a i_2.b == 0) (((List.map zI (List.filter (fun (q : Sx.Quote) ↦ decide (j.i.p.price j.i.inst q.price = 0)) (List.take i_1 (xN j.i (zB j.s))))).length + 1) * (48 : Nat) ≤ (70368744177664 : Nat)∧∃ (i' : Nat),(↑i' : Int) = IntKind.i64.wrap ((↑i_1 : Int) + 1)∧List.map zI (List.filter (fun (q : Sx.Quote) ↦ decide (j.i.p.price j.i.inst q.price = 0)) (List.take i' (xN j.i (zB j.s)))) = List.map zI (List.filter (fun (q : Sx.Quote) ↦ decide (j.i.p.price j.i.inst q.price = 0)) (List.take i_1 (xN j.i (zB j.s)))) ++ [[D.v (.int .i64 n),D.v (.int .i64 n_1),D.v (.int .i64 n_2),D.v (.int .i64 n_3),D.v (.int .i64 n_4),D.v (.int .i64 n_5)]]∧I i'∧μ i' < μ i_1∧AObj.own 77 6 (List.map zI (xN i.i (zB i.s))) = AObj.own 77 6 (List.map zI (xN i.i (zB i.s)))∧dE j i = dE j i∧AObj.fro 1 (iE j.i.p.settle) = AObj.fro 1 (iE j.i.p.settle)∧AObj.fro 1 (iE j.i.p.months) = AObj.fro 1 (iE j.i.p.months)) (∃ (i' : Nat),(↑i' : Int) = IntKind.i64.wrap ((↑i_1 : Int) + 1)∧List.map zI (List.filter (fun (q : Sx.Quote) ↦ decide (j.i.p.price j.i.inst q.price = 0)) (List.take i' (xN j.i (zB j.s)))) = List.map zI (List.filter (fun (q : Sx.Quote) ↦ decide (j.i.p.price j.i.inst q.price = 0)) (List.take i_1 (xN j.i (zB j.s))))∧I i'∧μ i' < μ i_1∧AObj.own 77 6 (List.map zI (xN i.i (zB i.s))) = AObj.own 77 6 (List.map zI (xN i.i (zB i.s)))∧dE j i = dE j i∧AObj.fro 1 (iE j.i.p.settle) = AObj.fro 1 (iE j.i.p.settle)∧AObj.fro 1 (iE j.i.p.months) = AObj.fro 1 (iE j.i.p.months))) (∃ (o : Unit),List.map zI (qY j.i (zB j.s)) = List.map zI (List.filter (fun (q : Sx.Quote) ↦ decide (j.i.p.price j.i.inst q.price = 0)) (List.take i_1 (xN j.i (zB j.s))))∧True)
theorem zUw (j : dP) : zCl j = walk Try.prog ([(72,allC),(22,priceC)]) 0 ([]) (zMr j) [] Try.f50 (Try.f50.body.getD .skip) (quotesC.pat j) (quotesC.pre j) (quotesC.alts j) := by kernel_rfl
theorem zTe (hG : GOk Try.prog ([(72,allC),(22,priceC)])) (h : ∀ (j : dP),quotesC.cnd j → zCl j) : quotesC.ok Try.prog 50 := zE mixed ([(72,allC),(22,priceC)]) hG 0 (fun (j : dP) => []) (fun (j : dP) => zMr j) [] Try.func50 (by kernel_rfl) (by kernel_rfl) (by kernel_rfl) (fun _ => by kernel_rfl) (fun (j : dP) hc => Eq.mp (zUw j) (h j hc))
@[reducible] def bC  : AObj := Sx.AObj.cells (Sx.V.agg [V.d (D.v (.int .i64 0)),V.d (D.v (.int .i64 0)),V.d (D.v (.int .i64 0)),V.d (D.v (.int .i64 0)),V.d (D.v (.int .i64 0)),V.d (D.v (.int .i64 0))]).cl (77 : Nat)
@[reducible] def sX (i : BsI) : Prop := ∃ (n : Int),∃ (n_1 : Int),∃ (n_2 : Int),∃ (n_3 : Int),∃ (n_4 : Int),∃ (n_5 : Int),zG (List.map zI i.l) (Int.toNat 0) 0 6 = some [D.v (.int .i64 n),D.v (.int .i64 n_1),D.v (.int .i64 n_2),D.v (.int .i64 n_3),D.v (.int .i64 n_4),D.v (.int .i64 n_5)]∧∃ (i0 : Nat),(↑i0 : Int) = 0∧(zW (List.take (max i0 1) i.l) i.s).fst.price = n∧(zW (List.take (max i0 1) i.l) i.s).fst.qty = n_1∧(zW (List.take (max i0 1) i.l) i.s).fst.a.inst = n_2∧(zW (List.take (max i0 1) i.l) i.s).fst.a.side = n_3∧(zW (List.take (max i0 1) i.l) i.s).fst.b.inst = n_4∧(zW (List.take (max i0 1) i.l) i.s).fst.b.side = n_5∧∃ (I : Nat→Prop),∃ (μ : Nat→Nat),I i0∧∀ (i_1 : Nat),I i_1→cnd (decide ((↑i_1 : Int) < (↑(List.map zI i.l).length : Int))) ((0 ≤ (↑i_1 : Int)∧(↑i_1 : Int) < (↑(List.map zI i.l).length : Int))∧∃ (n : Int),∃ (n_6 : Int),∃ (n_7 : Int),∃ (n_8 : Int),∃ (n_9 : Int),∃ (n_10 : Int),zG (List.map zI i.l) (↑i_1 : Int).toNat 0 6 = some [D.v (.int .i64 n),D.v (.int .i64 n_6),D.v (.int .i64 n_7),D.v (.int .i64 n_8),D.v (.int .i64 n_9),D.v (.int .i64 n_10)]∧∃ (i_2 : I3'),i_2.side = i.s∧i_2.x = n∧i_2.y = (zW (List.take (max i_1 1) i.l) i.s).fst.price∧True∧∀ (o : Unit),True→cnd (btr i_2.side i_2.x i_2.y) (∃ (i' : Nat),(↑i' : Int) = IntKind.i64.wrap ((↑i_1 : Int) + 1)∧(zW (List.take (max i' 1) i.l) i.s).fst.price = n∧(zW (List.take (max i' 1) i.l) i.s).fst.qty = n_6∧(zW (List.take (max i' 1) i.l) i.s).fst.a.inst = n_7∧(zW (List.take (max i' 1) i.l) i.s).fst.a.side = n_8∧(zW (List.take (max i' 1) i.l) i.s).fst.b.inst = n_9∧(zW (List.take (max i' 1) i.l) i.s).fst.b.side = n_10∧I i'∧μ i' < μ i_1∧bC = bC) (∃ (i' : Nat),(↑i' : Int) = IntKind.i64.wrap ((↑i_1 : Int) + 1)∧(zW (List.take (max i' 1) i.l) i.s).fst.price = (zW (List.take (max i_1 1) i.l) i.s).fst.price∧(zW (List.take (max i' 1) i.l) i.s).fst.qty = (zW (List.take (max i_1 1) i.l) i.s).fst.qty∧(zW (List.take (max i' 1) i.l) i.s).fst.a.inst = (zW (List.take (max i_1 1) i.l) i.s).fst.a.inst∧(zW (List.take (max i' 1) i.l) i.s).fst.a.side = (zW (List.take (max i_1 1) i.l) i.s).fst.a.side∧(zW (List.take (max i' 1) i.l) i.s).fst.b.inst = (zW (List.take (max i_1 1) i.l) i.s).fst.b.inst∧(zW (List.take (max i' 1) i.l) i.s).fst.b.side = (zW (List.take (max i_1 1) i.l) i.s).fst.b.side∧I i'∧μ i' < μ i_1∧bC = bC)) (∃ (o : Unit),(zW i.l i.s).fst.price = (zW (List.take (max i_1 1) i.l) i.s).fst.price∧(zW i.l i.s).fst.qty = (zW (List.take (max i_1 1) i.l) i.s).fst.qty∧(zW i.l i.s).fst.a.inst = (zW (List.take (max i_1 1) i.l) i.s).fst.a.inst∧(zW i.l i.s).fst.a.side = (zW (List.take (max i_1 1) i.l) i.s).fst.a.side∧(zW i.l i.s).fst.b.inst = (zW (List.take (max i_1 1) i.l) i.s).fst.b.inst∧(zW i.l i.s).fst.b.side = (zW (List.take (max i_1 1) i.l) i.s).fst.b.side∧(zW i.l i.s).snd = true∧True)
@[reducible] def r9 (i : BsI) : Prop := ∃ (o : Unit),(zW i.l i.s).fst.price = 0∧(zW i.l i.s).fst.qty = 0∧(zW i.l i.s).fst.a.inst = 0∧(zW i.l i.s).fst.a.side = 0∧(zW i.l i.s).fst.b.inst = 0∧(zW i.l i.s).fst.b.side = 0∧(zW i.l i.s).snd = false∧True
def zDi (i : BsI) : Prop :=
  cnd ((↑(List.map zI i.l).length : Int) == 0) (r9 i) (cnd (i.s != 1) (cnd (i.s != 2) (r9 i) (((0 : Int) ≤ (0 : Int)∧0 < (↑(List.map zI i.l).length : Int))∧sX i)) (((0 : Int) ≤ (0 : Int)∧0 < (↑(List.map zI i.l).length : Int))∧sX i))
theorem zZz (i : BsI) : zDi i = walk Try.prog ([(71,ibetterC)]) 0 ([]) (zTt i) [] Try.f49 (Try.f49.body.getD .skip) (bestQC.pat i) (bestQC.pre i) (bestQC.alts i) := by kernel_rfl
theorem zXz (hG : GOk Try.prog ([(71,ibetterC)])) (h : ∀ (i : BsI),bestQC.cnd i → zDi i) : bestQC.ok Try.prog 49 := zE mixed ([(71,ibetterC)]) hG 0 (fun (i : BsI) => []) (fun (i : BsI) => zTt i) [] Try.func49 (by kernel_rfl) (by kernel_rfl) (by kernel_rfl) (fun _ => by kernel_rfl) (fun (i : BsI) hc => Eq.mp (zZz i) (h i hc))
open Go Cv Go.Proofs
theorem zJy {l : List Quote} {q : Quote} (s : Int) (h : l[0]? = some q) : (zW (l.take (max 0 1)) s).1 = q := by
  cases l with
  | nil => simp at h
  | cons a l => simp at h; subst h; rfl
theorem zKo {l : List Quote} {j : Nat} {q : Quote} (s : Int) (h : l[j]? = some q) :
    (zW (l.take (max (j + 1) 1)) s).1 = if btr s q.price (zW (l.take (max j 1)) s).1.price then q else (zW (l.take (max j 1)) s).1 := by
  cases l with
  | nil => simp at h
  | cons a l =>
    cases j with
    | zero => simp at h; subst h; simp [zW]
    | succ m =>
      simp only [List.getElem?_cons_succ] at h
      rw [show max (m + 1 + 1) 1 = (m + 1) + 1 by omega,show max (m + 1) 1 = m + 1 by omega,List.take_succ_cons,List.take_succ_cons,List.take_add_one,h]
      simp only [zW,Option.toList_some,List.foldl_append]
      rfl
theorem zOg {l : List Quote} (s : Int) (h : l ≠ []) : (zW l s).2 = true := by
  cases l with
  | nil => exact absurd rfl h
  | cons a l => rfl
theorem z5u (i : BsI) (h : bestQC.cnd i) : zDi i := by
  obtain ⟨hs,hl⟩ : (i.s = 1 ∨ i.s = 2) ∧ i.l.length ≤ 1000000 := h
  unfold zDi sX r9
  simp only [List.length_map]
  refine Cv.cnd.mk (fun c => ?_) (fun c => ?_)
  · have e : i.l = [] := List.eq_nil_of_length_eq_zero (by have : (i.l.length : Int) = 0 := (by simpa using c); omega)
    rw [e]; (repeat' (first|exact rfl|exact trivial|assumption|apply And.intro|refine fun (_:Unit) (_:True)=>?_|refine Exists.intro () ?_|omega|(dsimp only;omega)))
  have h0 : 0 < i.l.length := by
    rcases Nat.eq_zero_or_pos i.l.length with h | h
    · rw [h] at c; exact absurd c (by decide)
    · exact h
  have hne : i.l ≠ [] := by intro e; rw [e] at h0; simp at h0
  have two := zOg i.s hne
  obtain ⟨q,hq⟩ := z9 h0
  have b0 := zJy i.s hq
  have fin : (zW (i.l.take (max i.l.length 1)) i.s).1 = (zW i.l i.s).1 := by
    rw [List.take_of_length_le (by omega)]
  have step : ∀ j : Nat,j < i.l.length → ∀ x : Quote,i.l[j]? = some x → (btr i.s x.price (zW (i.l.take (max j 1)) i.s).1.price = true → (zW (i.l.take (max (j + 1) 1)) i.s).1 = x) ∧ (btr i.s x.price (zW (i.l.take (max j 1)) i.s).1.price = false → (zW (i.l.take (max (j + 1) 1)) i.s).1 = (zW (i.l.take (max j 1)) i.s).1) := fun j hj x hx => by
    have := zKo i.s hx
    constructor
    · intro e; rw [this,if_pos e]
    · intro e; rw [this,if_neg (by rw [e]; simp)]
  refine Cv.cnd.mk (fun c1 => Cv.cnd.mk (fun c2 => ?_) (fun c2 => ?_)) (fun c1 => ?_)
  · exfalso
    have c1 : i.s ≠ 1 := by simpa using c1
    have c2 : i.s ≠ 2 := by simpa using c2
    omega
  all_goals
    refine ⟨⟨by omega,by omega⟩,q.price,q.qty,q.a.inst,q.a.side,q.b.inst,q.b.side,elA hq (by simp [zI]) rfl,0,?_⟩
    rw [b0]
    (repeat' (first|exact rfl|exact trivial|assumption|apply And.intro|refine fun (_:Unit) (_:True)=>?_|refine Exists.intro () ?_|omega|(dsimp only;omega)))
    refine ⟨fun j => j ≤ i.l.length,fun j => i.l.length - j,by omega,fun j hj => zT (fun hlt => ?_) (fun hlt => ?_)⟩
    · have hj' : j < i.l.length := by omega
      obtain ⟨x,hx⟩ := z9 hj'
      obtain ⟨st,sf⟩ := step j hj' x hx
      refine ⟨⟨by omega,by omega⟩,x.price,x.qty,x.a.inst,x.a.side,x.b.inst,x.b.side,elA hx (by simp [zI]) rfl,⟨i.s,x.price,_⟩,rfl,rfl,rfl,trivial,fun _ _ => Cv.cnd.mk (fun e => ⟨j + 1,by rw [w64 (by omega)]; rfl,?_⟩) (fun e => ⟨j + 1,by rw [w64 (by omega)]; rfl,?_⟩)⟩
      · rw [st e]; (repeat' (first|exact rfl|exact trivial|assumption|apply And.intro|refine fun (_:Unit) (_:True)=>?_|refine Exists.intro () ?_|omega|(dsimp only;omega)))
      · rw [sf e]; (repeat' (first|exact rfl|exact trivial|assumption|apply And.intro|refine fun (_:Unit) (_:True)=>?_|refine Exists.intro () ?_|omega|(dsimp only;omega)))
    · have hj : j ≤ i.l.length := hj
      obtain rfl : j = i.l.length := by omega
      rw [fin,two]; (repeat' (first|exact rfl|exact trivial|assumption|apply And.intro|refine fun (_:Unit) (_:True)=>?_|refine Exists.intro () ?_|omega|(dsimp only;omega)))
theorem zTz : bestQC.ok Try.prog 49 := zXz (gokc zKq gok0) z5u
theorem b9 (tops : List Top) (a b : Leg) (less : Bool) : (mkq tops a b less).length ≤ 1 := by
  unfold mkq
  dsimp only
  split <;> split <;> simp
theorem zCe {α : Type} {f : Nat → List α} (h : ∀ k,(f k).length ≤ 1) : ∀ n,((List.range n).flatMap f).length ≤ n
  | 0 => by simp
  | n + 1 => by
    rw [List.range_succ,List.flatMap_append,List.length_append]
    have := zCe h n
    have := h n
    simp only [List.flatMap_cons,List.flatMap_nil,List.append_nil]
    omega
theorem cM (i : jW) (s : Int) (k : Nat) : (xE i s k).length ≤ k := zCe (fun _ => b9 _ _ _ _) k
theorem gH (i : jW) (s : Int) (k : Nat) : (xB i s k).length ≤ k := zCe (fun _ => b9 _ _ _ _) k
theorem zEt (i : jW) (s : Int) : (xN i s).length ≤ 100 := by
  unfold xN
  split
  · simp
  · rename_i h
    have hc := j1 i.p
    have m6 := (xV (gV (p := i.p) (by omega))).m6
    split
    · rw [List.length_map]
      have := b9 i.tops ⟨(i.p.legs i.inst).2.1,3 - s⟩ ⟨(i.p.legs i.inst).1,s⟩ true
      have e : (zY i s).length ≤ 1 := this
      omega
    · rw [List.length_append]
      have h1 := cM i s (i.p.months.length - (i.inst.toNat + 1))
      have h2 := gH i s i.inst.toNat
      omega
theorem zZo (j : dP) (h : quotesC.cnd j) : zCl j := by
  obtain ⟨hp,ht,hr⟩ : j.i.p.small ∧ k0 j.i.tops := h
  obtain ⟨h1,h2,h3⟩ := hp
  have hl := zEt j.i (zB j.s)
  refine ⟨j,?_⟩
  simp only [List.length_map]
  (repeat' (first|exact rfl|exact trivial|assumption|apply And.intro|refine fun (_:Unit) (_:True)=>?_|refine Exists.intro () ?_|omega|(dsimp only;omega)))
  refine ⟨0,rfl,rfl,fun k => k ≤ (xN j.i (zB j.s)).length,fun k => (xN j.i (zB j.s)).length - k,by omega,fun k hk => zT (fun hlt => ?_) (fun hlt => ?_)⟩
  · have hk' : k < (xN j.i (zB j.s)).length := by omega
    obtain ⟨q,hq⟩ := z9 hk'
    have hf : (List.filter (fun q => decide (j.i.p.price j.i.inst q.price = 0)) (List.take k (xN j.i (zB j.s)))).length ≤ 100 := by
      have := List.length_filter_le (fun q : Quote => decide (j.i.p.price j.i.inst q.price = 0)) (List.take k (xN j.i (zB j.s)))
      rw [List.length_take] at this
      omega
    refine ⟨⟨by omega,by omega⟩,q.price,q.qty,q.a.inst,q.a.side,q.b.inst,q.b.side,elA hq (by simp [zI]) rfl,⟨j.i.p,j.i.inst,q.price⟩,?_⟩
    (repeat' (first|exact rfl|exact trivial|assumption|apply And.intro|refine fun (_:Unit) (_:True)=>?_|refine Exists.intro () ?_|omega|(dsimp only;omega)))
    refine Cv.cnd.mk (fun c => ⟨by omega,k + 1,by rw [w64 (by omega)]; rfl,?_⟩) (fun c => ⟨k + 1,by rw [w64 (by omega)]; rfl,?_⟩)
    · have c : j.i.p.price j.i.inst q.price = 0 := by simpa using c
      rw [List.take_add_one,hq,Option.toList_some,List.filter_append,List.filter_cons_of_pos (by simpa using c),List.map_append]
      (repeat' (first|exact rfl|exact trivial|assumption|apply And.intro|refine fun (_:Unit) (_:True)=>?_|refine Exists.intro () ?_|omega|(dsimp only;omega)))
    · have c : ¬ j.i.p.price j.i.inst q.price = 0 := by simpa using c
      rw [List.take_add_one,hq,Option.toList_some,List.filter_append,List.filter_cons_of_neg (by simpa using c),List.filter_nil,List.append_nil]
      (repeat' (first|exact rfl|exact trivial|assumption|apply And.intro|refine fun (_:Unit) (_:True)=>?_|refine Exists.intro () ?_|omega|(dsimp only;omega)))
  · have hk : k ≤ (xN j.i (zB j.s)).length := hk
    obtain rfl : k = (xN j.i (zB j.s)).length := by omega
    rw [List.take_of_length_le (Nat.le_refl _)]
    (repeat' (first|exact rfl|exact trivial|assumption|apply And.intro|refine fun (_:Unit) (_:True)=>?_|refine Exists.intro () ?_|omega|(dsimp only;omega)))
end Sx
