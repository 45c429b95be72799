/- Texts of ours, one behind the other: a walk that the kernel reckons, and contracts of functions. No condition. -/
import Derived.Test.YtphifgepggjcnaaRows
import Derived.Test.YtphifgepggjcnaaM3

namespace Sx
set_option linter.unusedVariables false
open Go Cv Go.Proofs

theorem mixed : Try.prog.follows .mixedOrders = true := by kernel_rfl

/-- A level, as it is told. -/
structure Lv where
  price : Int
  qty : Int
  count : Int
def lvV (l : Lv) : V := .agg [i64V l.price, i64V l.qty, i64V l.count]

end Sx

namespace Sx
set_option linter.unusedVariables false
open Go Cv Go.Proofs

/-! ### Texts -/
def sb (l : List UInt8) : ByteArray := ⟨l.toArray⟩
@[reducible] def sV (l : List UInt8) : V := .d (.v (.string (sb l)))

/-- The first rune of a text that is not empty, and its width. -/
def dec1 (l : List UInt8) : Nat × Nat := Utf8.decode (sb l) 0
/-- A text's runes, each with its place. -/
def runesAt : Nat → Nat → List UInt8 → List (Nat × Nat)
  | 0, _, _ => []
  | k + 1, p, l => match l with
    | [] => []
    | _ => (p, (dec1 l).1) :: runesAt k (p + (dec1 l).2) (l.drop (dec1 l).2)
def runesP (s : List UInt8) (p : Nat) : List (Nat × Nat) := runesAt (s.length - p) p (s.drop p)
def runes (s : List UInt8) : List Nat := (runesP s 0).map (·.2)

def countC : Con := con1 (List UInt8) (fun s => [sV s]) (fun _ => []) (fun s => s.length ≤ 1099511627776) (fun s => i64V (runes s).length) (fun _ => [])
/-- n runes are behind the place p. -/
def countA (s : List UInt8) : List SAnn := [{ ι := Nat × Nat, slots := fun x => [(3, i64V x.2), (5, .nm 0 0)], rows := fun x => [.iter (sb s) x.1] }]

def great (r : Nat) : Bool := (decide (65 ≤ r) && decide (r ≤ 90)) || (decide (913 ≤ r) && decide (r ≤ 937) && decide (r ≠ 930))
def symOk (s : List UInt8) : Bool := (runes s).all great && decide (s ≠ []) && decide ((runes s).length ≤ 4)
def symC : Con := con1 (List UInt8) (fun s => [sV s]) (fun _ => []) (fun s => s.length ≤ 1099511627776) (fun s => boolV (symOk s)) (fun _ => [])
def symA (s : List UInt8) : List SAnn := [{ ι := Nat, slots := fun x => [(7, .nm 0 0)], rows := fun x => [.iter (sb s) x] }]

/-! ### Products -/
def iE (l : List Int) : List (List D) := l.map fun n => [.v (.int .i64 n)]
@[reducible] def iV (l : List Int) : V := roV 1 (iE l)
structure Prd where
  code : List UInt8
  months : List Int
  tick : Int
  low : Int
  high : Int
  wide : Int
  rule : Int
  top : Int
  least : Int
  part : Int
  settle : List Int
  deriving DecidableEq
@[reducible] def Prd.cells (p : Prd) : List V := [sV p.code, iV p.months, i64V p.tick, i64V p.low, i64V p.high, i64V p.wide, i64V p.rule, i64V p.top, i64V p.least, i64V p.part, iV p.settle]
@[reducible] def prdV (p : Prd) : V := .agg p.cells
@[reducible] def Prd.small (p : Prd) : Prop := p.code.length ≤ 1099511627776 ∧ p.months.length ≤ 1099511627776 ∧ p.settle.length ≤ 1099511627776

def monthAt (l : List Int) (k : Nat) : Bool := decide (0 ≤ l.getD k 0) && decide (l.getD k 0 ≤ 1199) && (decide (k = 0) || decide (l.getD (k - 1) 0 < l.getD k 0))
def monthsOk (l : List Int) : Bool := (List.range l.length).all (monthAt l) && decide (2 ≤ l.length) && decide (l.length ≤ 6)
def monthsC : Con := con1 (List Int) (fun l => [iV l]) (fun _ => []) (fun l => l.length ≤ 1099511627776) (fun l => boolV (monthsOk l)) (fun _ => [])
def monthsA : List SAnn := [{ ι := Nat, slots := fun j => [(7, i64V j)], rows := fun _ => [] }]

structure MinI where
  l : List Int
def minL (l : List Int) : Int := l.tail.foldl min (l.headD 0)
def maxL (l : List Int) : Int := l.tail.foldl max (l.headD 0)
def minC : Con := con1 (List Int) (fun l => [iV l]) (fun _ => []) (fun l => 0 < l.length ∧ l.length ≤ 1099511627776) (fun l => i64V (minL l)) (fun _ => [])
def maxC : Con := con1 (List Int) (fun l => [iV l]) (fun _ => []) (fun l => 0 < l.length ∧ l.length ≤ 1099511627776) (fun l => i64V (maxL l)) (fun _ => [])
def minA (l : List Int) : List SAnn := [{ ι := Nat, slots := fun j => [(3, i64V (minL (l.take j))), (4, i64V j)], rows := fun _ => [] }]
def maxA (l : List Int) : List SAnn := [{ ι := Nat, slots := fun j => [(3, i64V (maxL (l.take j))), (4, i64V j)], rows := fun _ => [] }]

end Sx

namespace Sx
set_option linter.unusedVariables false
set_option maxRecDepth 100000
open Go Cv Go.Proofs
def Vcount (s : List UInt8) : Prop :=
  ∃ (i0 : Nat × Nat), (↑i0.snd : Int) = (0 : Int) ∧ sb s = sb s ∧ i0.fst = (0 : Nat) ∧ ∃ (I : Nat × Nat → Prop), ∃ (μ : Nat × Nat → Nat), I i0 ∧ ∀ (i : Nat × Nat), I i → cnd (i.fst.blt (sb s).size) (∃ (i' : Nat × Nat), (↑i'.snd : Int) = IntKind.i64.wrap ((↑i.snd : Int) + (1 : Int)) ∧ sb s = sb s ∧ i'.fst = i.fst + (Utf8.decode (sb s) i.fst).snd ∧ I i' ∧ μ i' < μ i ∧ True) (∃ (o : Unit), (↑(runes s).length : Int) = (↑i.snd : Int) ∧ True)
theorem eqcount (s : List UInt8) : Vcount s = walk Try.prog ([]) 0 ([]) (countA s) [] Try.f68 (Try.f68.body.getD .skip) (countC.pat s) (countC.pre s) (countC.alts s) := by kernel_rfl

theorem bycount (hG : GOk Try.prog ([])) (h : ∀ (s : List UInt8), countC.cnd s → Vcount s) : countC.ok Try.prog 68 := ok_of_walk mixed ([]) hG 0 (fun (s : List UInt8) => []) (fun (s : List UInt8) => countA s) [] Try.func68 (by kernel_rfl) (by kernel_rfl) (by kernel_rfl) (fun _ => by kernel_rfl) (fun (s : List UInt8) hc => Eq.mp (eqcount s) (h s hc))

def Vsym (s : List UInt8) : Prop :=
  ∃ (i0 : Nat), sb s = sb s ∧ i0 = (0 : Nat) ∧ ∃ (I : Nat → Prop), ∃ (μ : Nat → Nat), I i0 ∧ ∀ (i : Nat), I i → cnd (i.blt (sb s).size) (cnd (decide ((↑(Utf8.decode (sb s) i).fst : Int) ≥ (65 : Int))) (cnd (decide ((↑(Utf8.decode (sb s) i).fst : Int) ≤ (90 : Int))) (∃ (i' : Nat), sb s = sb s ∧ i' = i + (Utf8.decode (sb s) i).snd ∧ I i' ∧ μ i' < μ i ∧ True) (cnd (decide ((↑(Utf8.decode (sb s) i).fst : Int) ≥ (913 : Int))) (cnd (decide ((↑(Utf8.decode (sb s) i).fst : Int) ≤ (937 : Int))) (cnd (!(↑(Utf8.decode (sb s) i).fst : Int) != (930 : Int)) (∃ (o : Unit), symOk s = false ∧ True) (∃ (i' : Nat), sb s = sb s ∧ i' = i + (Utf8.decode (sb s) i).snd ∧ I i' ∧ μ i' < μ i ∧ True)) (∃ (o : Unit), symOk s = false ∧ True)) (∃ (o : Unit), symOk s = false ∧ True))) (cnd (decide ((↑(Utf8.decode (sb s) i).fst : Int) ≥ (913 : Int))) (cnd (decide ((↑(Utf8.decode (sb s) i).fst : Int) ≤ (937 : Int))) (cnd (!(↑(Utf8.decode (sb s) i).fst : Int) != (930 : Int)) (∃ (o : Unit), symOk s = false ∧ True) (∃ (i' : Nat), sb s = sb s ∧ i' = i + (Utf8.decode (sb s) i).snd ∧ I i' ∧ μ i' < μ i ∧ True)) (∃ (o : Unit), symOk s = false ∧ True)) (∃ (o : Unit), symOk s = false ∧ True))) (cnd (!(sb s).toList == (ByteArray.mk #[]).toList) (∃ (i : List UInt8), sb i = sb s ∧ i.length ≤ (1099511627776 : Nat) ∧ ∀ (o : Unit), True → ∃ (o : Unit), symOk s = decide ((↑(runes i).length : Int) ≤ (4 : Int)) ∧ True) (∃ (o : Unit), symOk s = false ∧ True))
theorem eqsym (s : List UInt8) : Vsym s = walk Try.prog ([(68, countC)]) 0 ([]) (symA s) [] Try.f49 (Try.f49.body.getD .skip) (symC.pat s) (symC.pre s) (symC.alts s) := by kernel_rfl

theorem bysym (hG : GOk Try.prog ([(68, countC)])) (h : ∀ (s : List UInt8), symC.cnd s → Vsym s) : symC.ok Try.prog 49 := ok_of_walk mixed ([(68, countC)]) hG 0 (fun (s : List UInt8) => []) (fun (s : List UInt8) => symA s) [] Try.func49 (by kernel_rfl) (by kernel_rfl) (by kernel_rfl) (fun _ => by kernel_rfl) (fun (s : List UInt8) hc => Eq.mp (eqsym s) (h s hc))

def Vmonths (l : List Int) : Prop :=
  ∃ (i0 : Nat), (↑i0 : Int) = (0 : Int) ∧ ∃ (I : Nat → Prop), ∃ (μ : Nat → Nat), I i0 ∧ ∀ (i : Nat), I i → cnd (decide ((↑i : Int) < (↑(iE l).length : Int))) (((0 : Int) ≤ (↑i : Int) ∧ (↑i : Int) < (↑(iE l).length : Int)) ∧ ∃ (n : Int), elPart (iE l) (↑i : Int).toNat (0 : Nat) (1 : Nat) = some [D.v (.int .i64 n)] ∧ cnd (decide (n < (0 : Int))) (∃ (o : Unit), monthsOk l = false ∧ True) (cnd (decide (n > (1199 : Int))) (∃ (o : Unit), monthsOk l = false ∧ True) (cnd (decide ((↑i : Int) > (0 : Int))) (((0 : Int) ≤ IntKind.i64.wrap ((↑i : Int) - (1 : Int)) ∧ IntKind.i64.wrap ((↑i : Int) - (1 : Int)) < (↑(iE l).length : Int)) ∧ ∃ (n_1 : Int), elPart (iE l) (IntKind.i64.wrap ((↑i : Int) - (1 : Int))).toNat (0 : Nat) (1 : Nat) = some [D.v (.int .i64 n_1)] ∧ cnd (decide (n_1 ≥ n)) (∃ (o : Unit), monthsOk l = false ∧ True) (∃ (i' : Nat), (↑i' : Int) = IntKind.i64.wrap ((↑i : Int) + (1 : Int)) ∧ I i' ∧ μ i' < μ i ∧ True)) (∃ (i' : Nat), (↑i' : Int) = IntKind.i64.wrap ((↑i : Int) + (1 : Int)) ∧ I i' ∧ μ i' < μ i ∧ True)))) (cnd (decide ((↑(iE l).length : Int) ≥ (2 : Int))) (∃ (o : Unit), monthsOk l = decide ((↑(iE l).length : Int) ≤ (6 : Int)) ∧ True) (∃ (o : Unit), monthsOk l = false ∧ True))
theorem eqmonths (l : List Int) : Vmonths l = walk Try.prog ([]) 0 ([]) (monthsA) [] Try.f50 (Try.f50.body.getD .skip) (monthsC.pat l) (monthsC.pre l) (monthsC.alts l) := by kernel_rfl

theorem bymonths (hG : GOk Try.prog ([])) (h : ∀ (l : List Int), monthsC.cnd l → Vmonths l) : monthsC.ok Try.prog 50 := ok_of_walk mixed ([]) hG 0 (fun (l : List Int) => []) (fun (l : List Int) => monthsA) [] Try.func50 (by kernel_rfl) (by kernel_rfl) (by kernel_rfl) (fun _ => by kernel_rfl) (fun (l : List Int) hc => Eq.mp (eqmonths l) (h l hc))

def Vmin (l : List Int) : Prop :=
  cnd (decide ((↑(iE l).length : Int) < (1 : Int))) False (((0 : Int) ≤ (0 : Int) ∧ (0 : Int) < (↑(iE l).length : Int)) ∧ ∃ (n : Int), elPart (iE l) (Int.toNat (0 : Int)) (0 : Nat) (1 : Nat) = some [D.v (.int .i64 n)] ∧ ∃ (i0 : Nat), minL (List.take i0 l) = n ∧ (↑i0 : Int) = (1 : Int) ∧ ∃ (I : Nat → Prop), ∃ (μ : Nat → Nat), I i0 ∧ ∀ (i : Nat), I i → cnd (decide ((↑i : Int) < (↑(iE l).length : Int))) (((0 : Int) ≤ (↑i : Int) ∧ (↑i : Int) < (↑(iE l).length : Int)) ∧ ∃ (n : Int), elPart (iE l) (↑i : Int).toNat (0 : Nat) (1 : Nat) = some [D.v (.int .i64 n)] ∧ ∃ (i' : Nat), (minL (List.take i' l) = if n < minL (List.take i l) then n else minL (List.take i l)) ∧ (↑i' : Int) = IntKind.i64.wrap ((↑i : Int) + (1 : Int)) ∧ I i' ∧ μ i' < μ i ∧ True) (∃ (o : Unit), minL l = minL (List.take i l) ∧ True))
theorem eqmin (l : List Int) : Vmin l = walk Try.prog ([]) 0 ([]) (minA l) [] Try.f52 (Try.f52.body.getD .skip) (minC.pat l) (minC.pre l) (minC.alts l) := by kernel_rfl

theorem bymin (hG : GOk Try.prog ([])) (h : ∀ (l : List Int), minC.cnd l → Vmin l) : minC.ok Try.prog 52 := ok_of_walk mixed ([]) hG 0 (fun (l : List Int) => []) (fun (l : List Int) => minA l) [] Try.func52 (by kernel_rfl) (by kernel_rfl) (by kernel_rfl) (fun _ => by kernel_rfl) (fun (l : List Int) hc => Eq.mp (eqmin l) (h l hc))

def Vmax (l : List Int) : Prop :=
  cnd (decide ((↑(iE l).length : Int) < (1 : Int))) False (((0 : Int) ≤ (0 : Int) ∧ (0 : Int) < (↑(iE l).length : Int)) ∧ ∃ (n : Int), elPart (iE l) (Int.toNat (0 : Int)) (0 : Nat) (1 : Nat) = some [D.v (.int .i64 n)] ∧ ∃ (i0 : Nat), maxL (List.take i0 l) = n ∧ (↑i0 : Int) = (1 : Int) ∧ ∃ (I : Nat → Prop), ∃ (μ : Nat → Nat), I i0 ∧ ∀ (i : Nat), I i → cnd (decide ((↑i : Int) < (↑(iE l).length : Int))) (((0 : Int) ≤ (↑i : Int) ∧ (↑i : Int) < (↑(iE l).length : Int)) ∧ ∃ (n : Int), elPart (iE l) (↑i : Int).toNat (0 : Nat) (1 : Nat) = some [D.v (.int .i64 n)] ∧ ∃ (i' : Nat), (maxL (List.take i' l) = if n > maxL (List.take i l) then n else maxL (List.take i l)) ∧ (↑i' : Int) = IntKind.i64.wrap ((↑i : Int) + (1 : Int)) ∧ I i' ∧ μ i' < μ i ∧ True) (∃ (o : Unit), maxL l = maxL (List.take i l) ∧ True))
theorem eqmax (l : List Int) : Vmax l = walk Try.prog ([]) 0 ([]) (maxA l) [] Try.f53 (Try.f53.body.getD .skip) (maxC.pat l) (maxC.pre l) (maxC.alts l) := by kernel_rfl

theorem bymax (hG : GOk Try.prog ([])) (h : ∀ (l : List Int), maxC.cnd l → Vmax l) : maxC.ok Try.prog 53 := ok_of_walk mixed ([]) hG 0 (fun (l : List Int) => []) (fun (l : List Int) => maxA l) [] Try.func53 (by kernel_rfl) (by kernel_rfl) (by kernel_rfl) (fun _ => by kernel_rfl) (fun (l : List Int) hc => Eq.mp (eqmax l) (h l hc))

end Sx

namespace Sx
set_option linter.unusedVariables false
set_option linter.unusedSimpArgs false
set_option maxRecDepth 100000
open Go Cv Go.Proofs



/-! ### Texts -/
@[simp] theorem sb_size (s : List UInt8) : (sb s).size = s.length := by simp [sb, ByteArray.size]
theorem sb_toList (s : List UInt8) : (sb s).toList = s := by rw [ByteArray.toList_eq]; rfl
theorem sb_get (s : List UInt8) (p k : Nat) : (sb s).get! (p + k) = (sb (s.drop p)).get! (0 + k) := by
  simp only [sb, ByteArray.get!, Nat.zero_add]
  simp only [List.getElem!_toArray, List.getElem!_eq_getElem?_getD, List.getElem?_drop]
theorem decode_drop (s : List UInt8) (p : Nat) : Utf8.decode (sb s) p = dec1 (s.drop p) := by
  have h (k : Nat) : (decide (p + k < (sb s).size)) = decide (0 + k < (sb (s.drop p)).size) := by
    simp only [sb_size, List.length_drop]
    by_cases h : p + k < s.length
    · rw [decide_eq_true h, decide_eq_true (by omega)]
    · rw [decide_eq_false h, decide_eq_false (by omega)]
  unfold dec1 Utf8.decode
  simp only [sb_get s p, h]
theorem decode_w (s : List UInt8) {p : Nat} (h : p < s.length) : 1 ≤ (Utf8.decode (sb s) p).2 ∧ p + (Utf8.decode (sb s) p).2 ≤ s.length := by
  unfold Utf8.decode
  simp only [sb_size, Bool.and_eq_true, decide_eq_true_eq]
  split
  · exact ⟨by simp, by simp; omega⟩
  split
  · rename_i h1
    split
    · exact ⟨by simp, by simp; omega⟩
    · exact ⟨by simp, by simp; omega⟩
  split
  · rename_i h1
    split
    · exact ⟨by simp, by simp; omega⟩
    · exact ⟨by simp, by simp; omega⟩
  split
  · rename_i h1
    split
    · exact ⟨by simp, by simp; omega⟩
    · exact ⟨by simp, by simp; omega⟩
  · exact ⟨by simp, by simp; omega⟩
theorem dec1_w {l : List UInt8} (h : l ≠ []) : 1 ≤ (dec1 l).2 ∧ (dec1 l).2 ≤ l.length := by
  have := decode_w l (p := 0) (by cases l <;> simp_all)
  rw [dec1]; omega
theorem runesAt_fuel : ∀ (k : Nat) (p : Nat) (l : List UInt8), l.length ≤ k → runesAt k p l = runesAt l.length p l
  | 0, p, l, h => by
    have : l = [] := List.eq_nil_of_length_eq_zero (by omega)
    subst this; rfl
  | k + 1, p, [], h => rfl
  | k + 1, p, b :: l, h => by
    have hw := dec1_w (l := b :: l) (by simp)
    have hl : ((b :: l).drop (dec1 (b :: l)).2).length ≤ l.length := by rw [List.length_drop, List.length_cons]; omega
    rw [List.length_cons]
    simp only [runesAt]
    rw [runesAt_fuel k _ _ (by rw [List.length_cons] at h; omega), runesAt_fuel l.length _ _ hl]
theorem runesP_end {s : List UInt8} {p : Nat} (h : s.length ≤ p) : runesP s p = [] := by
  rw [runesP, show s.length - p = 0 by omega]; rfl
theorem runesP_step {s : List UInt8} {p : Nat} (h : p < s.length) : runesP s p = (p, (Utf8.decode (sb s) p).1) :: runesP s (p + (Utf8.decode (sb s) p).2) := by
  obtain ⟨k, hk⟩ : ∃ k, s.length - p = k + 1 := ⟨s.length - p - 1, by omega⟩
  have hw := decode_w s h
  obtain ⟨b, l, hb⟩ : ∃ b l, s.drop p = b :: l := by
    cases hd : s.drop p with
    | nil => rw [List.drop_eq_nil_iff] at hd; omega
    | cons b l => exact ⟨b, l, rfl⟩
  have hlen : (b :: l).length = s.length - p := by rw [← hb, List.length_drop]
  rw [runesP, hk, hb, decode_drop, hb, runesP]
  rw [decode_drop, hb] at hw
  simp only [runesAt]
  have e : (b :: l).drop (dec1 (b :: l)).2 = s.drop (p + (dec1 (b :: l)).2) := by rw [← hb, List.drop_drop]
  rw [e, runesAt_fuel k _ _ (by rw [List.length_drop]; omega), List.length_drop]
theorem runesP_len (s : List UInt8) : ∀ (k p : Nat), s.length - p ≤ k → (runesP s p).length ≤ s.length - p
  | 0, p, h => by rw [runesP_end (by omega)]; simp
  | k + 1, p, h => by
    by_cases hp : p < s.length
    · have hw := decode_w s hp
      rw [runesP_step hp, List.length_cons]
      have := runesP_len s k (p + (Utf8.decode (sb s) p).2) (by omega)
      omega
    · rw [runesP_end (by omega)]; simp
theorem runes_len (s : List UInt8) : (runes s).length ≤ s.length := by
  rw [runes, List.length_map]
  have := runesP_len s s.length 0 (by omega)
  omega

theorem blt_f {a b : Nat} (h : Nat.blt a b = false) : b ≤ a := by
  rcases Nat.lt_or_ge a b with h1 | h1
  · rw [show Nat.blt a b = true by rw [Nat.blt_eq]; exact h1] at h; cases h
  · exact h1
theorem sb_nil : (ByteArray.mk #[]).toList = [] := sb_toList []

theorem vcount (s : List UInt8) (h : countC.cnd s) : Vcount s := by
  have h : s.length ≤ 1099511627776 := h
  have hr := runes_len s
  unfold Vcount
  refine ⟨(0, 0), rfl, rfl, rfl, fun x => x.1 ≤ s.length ∧ x.2 + (runesP s x.1).length = (runes s).length, fun x => s.length - x.1, ⟨by omega, by rw [runes, List.length_map]; simp⟩, ?_⟩
  rintro ⟨p, n⟩ ⟨h1, h2⟩
  dsimp only at h1 h2 ⊢
  refine Cv.cnd.mk (fun hp => ?_) (fun hp => ?_)
  · have hp : p < s.length := by simpa [Nat.blt_eq] using hp
    have hw := decode_w s hp
    rw [runesP_step hp, List.length_cons] at h2
    refine ⟨(p + (Utf8.decode (sb s) p).2, n + 1), ?_, rfl, rfl, ⟨hw.2, by (first | omega | (dsimp only; omega))⟩, by (first | omega | (dsimp only; omega)), trivial⟩
    rw [w64 (by omega)]; rfl
  · have hp : s.length ≤ p := by have := blt_f hp; simpa using this
    rw [runesP_end hp] at h2
    exact ⟨(), by rw [← h2]; rfl, trivial⟩
theorem count_ok : countC.ok Try.prog 68 := bycount gok0 vcount

theorem vsym (s : List UInt8) (h : symC.cnd s) : Vsym s := by
  have h : s.length ≤ 1099511627776 := h
  unfold Vsym
  refine ⟨0, rfl, rfl, fun p => p ≤ s.length ∧ (runes s).all great = (runesP s p).all fun x => great x.2, fun p => s.length - p, ⟨by omega, by rw [runes, List.all_map]; rfl⟩, ?_⟩
  rintro p ⟨h1, h2⟩
  refine Cv.cnd.mk (fun hp => ?_) (fun hp => ?_)
  · have hp : p < s.length := by simpa [Nat.blt_eq] using hp
    have hw := decode_w s hp
    rw [runesP_step hp, List.all_cons] at h2
    generalize hc : (Utf8.decode (sb s) p).1 = c at h2 ⊢
    generalize hww : (Utf8.decode (sb s) p).2 = w at h2 hw ⊢
    dsimp only at h2
    have bad : great c = false → ∃ (o : Unit), symOk s = false ∧ True := fun e => ⟨(), by rw [symOk, h2, e]; rfl, trivial⟩
    have good : great c = true → ∃ i' : Nat, sb s = sb s ∧ i' = p + w ∧ (i' ≤ s.length ∧ (runes s).all great = (runesP s i').all fun x => great x.2) ∧ s.length - i' < s.length - p ∧ True := fun e => ⟨p + w, rfl, rfl, ⟨hw.2, by rw [h2, e]; rfl⟩, by omega, trivial⟩
    refine cndD (fun c1 => cndD (fun c2 => ?_) (fun c2 => cndD (fun c3 => cndD (fun c4 => Cv.cnd.mk (fun c5 => ?_) (fun c5 => ?_)) (fun c4 => ?_)) (fun c3 => ?_))) (fun c1 => cndD (fun c3 => cndD (fun c4 => Cv.cnd.mk (fun c5 => ?_) (fun c5 => ?_)) (fun c4 => ?_)) (fun c3 => ?_))
    all_goals first | (refine good ?_; simp [great] at *; omega) | (refine bad ?_; simp [great] at *; omega)
  · have hp : s.length ≤ p := by have := blt_f hp; simpa using this
    rw [runesP_end hp] at h2
    have h2 : (runes s).all great = true := h2
    refine Cv.cnd.mk (fun e => ⟨s, rfl, h, fun _ _ => ⟨(), ?_, trivial⟩⟩) (fun e => ⟨(), ?_, trivial⟩)
    · rw [sb_toList, sb_nil] at e
      have : s ≠ [] := by simpa using e
      rw [symOk, h2, decide_eq_true this]
      simp only [Bool.true_and]
      congr 1
      simp only [eq_iff_iff]; omega
    · have : s = [] := by
        rw [sb_toList, sb_nil] at e
        simpa using e
      rw [symOk, this]; rfl
theorem sym_ok : symC.ok Try.prog 49 := bysym (gokc count_ok gok0) vsym

/-! ### Lists of numbers -/
@[simp] theorem iE_len (l : List Int) : (iE l).length = l.length := by simp [iE]
theorem elI {l : List Int} {k : Nat} {n : Int} (h : l[k]? = some n) : elPart (iE l) k 0 1 = some [D.v (.int .i64 n)] := by
  simp [elPart, iE, h]; rfl
theorem getI {α : Type} {l : List α} {i : Nat} (h : i < l.length) : ∃ x, l[i]? = some x := ⟨l[i], List.getElem?_eq_getElem h⟩
theorem all_false {n k : Nat} {f : Nat → Bool} (hk : k < n) (h : f k = false) : (List.range n).all f = false := by
  cases hh : (List.range n).all f
  · rfl
  · rw [List.all_eq_true] at hh
    rw [hh k (by simpa using hk)] at h; cases h
theorem all_true {n : Nat} {f : Nat → Bool} (h : ∀ k < n, f k = true) : (List.range n).all f = true := by
  rw [List.all_eq_true]; intro k hk; exact h k (by simpa using hk)

theorem vmonths (l : List Int) (h : monthsC.cnd l) : Vmonths l := by
  have h : l.length ≤ 1099511627776 := h
  unfold Vmonths
  simp only [iE_len]
  refine ⟨0, rfl, fun j => j ≤ l.length ∧ ∀ k < j, monthAt l k = true, fun j => l.length - j, ⟨by omega, fun k hk => by omega⟩, ?_⟩
  rintro j ⟨h1, h2⟩
  have bad : j < l.length → monthAt l j = false → ∃ (o : Unit), monthsOk l = false ∧ True := fun hj e => ⟨(), by rw [monthsOk, all_false hj e]; rfl, trivial⟩
  have good : j < l.length → monthAt l j = true → ∃ i' : Nat, (i' : Int) = IntKind.i64.wrap ((j : Int) + 1) ∧ (i' ≤ l.length ∧ ∀ k < i', monthAt l k = true) ∧ l.length - i' < l.length - j ∧ True := fun hj e => ⟨j + 1, by rw [w64 (by omega)]; rfl, ⟨by omega, fun k hk => by
    rcases Nat.lt_or_ge k j with hk' | hk'
    · exact h2 k hk'
    · obtain rfl : k = j := by omega
      exact e⟩, by omega, trivial⟩
  refine cndD (fun hj => ?_) (fun hj => ?_)
  · have hj : j < l.length := by omega
    obtain ⟨n, hn⟩ := getI hj
    have hg : l.getD j 0 = n := by simp [hn]
    refine ⟨⟨by omega, by omega⟩, n, elI hn, cndD (fun c1 => bad hj (by simp [monthAt, hn]; omega)) (fun c1 => cndD (fun c2 => bad hj (by simp [monthAt, hn]; omega)) (fun c2 => cndD (fun c3 => ?_) (fun c3 => good hj ?_)))⟩
    · have e : IntKind.i64.wrap ((j : Int) - 1) = ((j - 1 : Nat) : Int) := by rw [w64 (by omega)]; omega
      obtain ⟨m, hm⟩ := getI (l := l) (i := j - 1) (by omega)
      rw [e]
      refine ⟨⟨by omega, by omega⟩, m, elI hm, cndD (fun c4 => bad hj ?_) (fun c4 => good hj ?_)⟩
      · simp [monthAt, hn, hm]; omega
      · simp [monthAt, hn, hm]; omega
    · simp [monthAt, hn]; omega
  · have e : (List.range l.length).all (monthAt l) = true := all_true fun k hk => h2 k (by omega)
    refine cndD (fun c => ⟨(), ?_, trivial⟩) (fun c => ⟨(), ?_, trivial⟩)
    · rw [monthsOk, e, decide_eq_true (show 2 ≤ l.length by omega)]
      simp; omega
    · rw [monthsOk, decide_eq_false (show ¬ 2 ≤ l.length by omega)]; simp
theorem months_ok : monthsC.ok Try.prog 50 := bymonths gok0 vmonths

theorem fold_take {f : Int → Int → Int} {l : List Int} {j : Nat} {n : Int} (h : l[j + 1]? = some n) : (l.take (j + 2)).tail.foldl f ((l.take (j + 2)).headD 0) = f ((l.take (j + 1)).tail.foldl f ((l.take (j + 1)).headD 0)) n := by
  cases l with
  | nil => simp at h
  | cons a l =>
    simp only [List.getElem?_cons_succ] at h
    simp only [List.take_succ_cons, List.tail_cons, List.headD_cons]
    rw [List.take_add_one, h, List.foldl_append]; rfl
theorem one_take {l : List Int} {n : Int} (h : l[0]? = some n) (f : Int → Int → Int) : (l.take 1).tail.foldl f ((l.take 1).headD 0) = n := by
  cases l with
  | nil => simp at h
  | cons a l => simpa using h

theorem vmin (l : List Int) (h : minC.cnd l) : Vmin l := by
  obtain ⟨h0, h⟩ : 0 < l.length ∧ l.length ≤ 1099511627776 := h
  unfold Vmin
  simp only [iE_len]
  obtain ⟨n, hn⟩ := getI h0
  refine cndD (fun c => by omega) (fun c => ⟨⟨by omega, by omega⟩, n, elI hn, 1, one_take hn min, rfl, fun j => 1 ≤ j ∧ j ≤ l.length, fun j => l.length - j, ⟨by omega, by omega⟩, ?_⟩)
  rintro j ⟨h1, h2⟩
  refine cndD (fun hj => ?_) (fun hj => ⟨(), ?_, trivial⟩)
  · obtain ⟨m, hm⟩ := getI (l := l) (i := j) (by omega)
    refine ⟨⟨by omega, by omega⟩, m, elI hm, j + 1, ?_, ?_, ⟨by omega, by omega⟩, by (first | omega | (dsimp only; omega)), trivial⟩
    · obtain ⟨k, rfl⟩ : ∃ k, j = k + 1 := ⟨j - 1, by omega⟩
      rw [minL, fold_take hm, ← minL]
      generalize minL (l.take (k + 1)) = x
      split <;> omega
    · rw [w64 (by omega)]; rfl
  · rw [List.take_of_length_le (by omega)]
theorem min_ok : minC.ok Try.prog 52 := bymin gok0 vmin

theorem vmax (l : List Int) (h : maxC.cnd l) : Vmax l := by
  obtain ⟨h0, h⟩ : 0 < l.length ∧ l.length ≤ 1099511627776 := h
  unfold Vmax
  simp only [iE_len]
  obtain ⟨n, hn⟩ := getI h0
  refine cndD (fun c => by omega) (fun c => ⟨⟨by omega, by omega⟩, n, elI hn, 1, one_take hn max, rfl, fun j => 1 ≤ j ∧ j ≤ l.length, fun j => l.length - j, ⟨by omega, by omega⟩, ?_⟩)
  rintro j ⟨h1, h2⟩
  refine cndD (fun hj => ?_) (fun hj => ⟨(), ?_, trivial⟩)
  · obtain ⟨m, hm⟩ := getI (l := l) (i := j) (by omega)
    refine ⟨⟨by omega, by omega⟩, m, elI hm, j + 1, ?_, ?_, ⟨by omega, by omega⟩, by (first | omega | (dsimp only; omega)), trivial⟩
    · obtain ⟨k, rfl⟩ : ∃ k, j = k + 1 := ⟨j - 1, by omega⟩
      rw [maxL, fold_take hm, ← maxL]
      generalize maxL (l.take (k + 1)) = x
      split <;> omega
    · rw [w64 (by omega)]; rfl
  · rw [List.take_of_length_le (by omega)]
theorem max_ok : maxC.ok Try.prog 53 := bymax gok0 vmax

end Sx

namespace Sx
set_option linter.unusedVariables false
open Go Cv Go.Proofs

@[reducible] def Prd.row (p : Prd) : AObj := .cells p.cells 25
structure OffI where
  p : Prd
  n : Int
structure OffL where
  p : Prd
  l : List Int
def offB (t n : Int) : Bool := n.tmod t != 0
def offC : Con := con1 OffI (fun i => [i64V i.n, .nm 0 0]) (fun i => [i.p.row]) (fun i => 1 ≤ i.p.tick) (fun i => boolV (offB i.p.tick i.n)) (fun i => [i.p.row])
@[reducible] def offF : V := .fn 69 [] [.nm 0 0]
def idxOr (k : Option Nat) : Int := match k with
  | some k => k
  | none => -1
def idxC : Con := con1 OffL (fun i => [iV i.l, offF]) (fun i => [i.p.row]) (fun i => 1 ≤ i.p.tick ∧ i.l.length ≤ 1099511627776) (fun i => i64V (idxOr (i.l.findIdx? (offB i.p.tick)))) (fun i => [i.p.row])
def idxA (i : OffL) : List SAnn := [{ ι := Nat, slots := fun j => [(8, i64V j)], rows := fun _ => [] }]
def containsC : Con := con1 OffL (fun i => [iV i.l, offF]) (fun i => [i.p.row]) (fun i => 1 ≤ i.p.tick ∧ i.l.length ≤ 1099511627776) (fun i => boolV (i.l.any (offB i.p.tick))) (fun i => [i.p.row])

def ticksOk (p : Prd) : Bool := decide (1 ≤ p.tick) && decide (p.tick ≤ 1000) && !offB p.tick p.low && !offB p.tick p.high && !offB p.tick p.wide && !p.settle.any (offB p.tick)
def ticksC : Con := con1 Prd (fun p => [prdV p]) (fun _ => []) Prd.small (fun p => boolV (ticksOk p)) (fun _ => [])

def bandBad (p : Prd) : Bool := decide (p.low < -1000000) || decide (p.low ≥ p.high) || decide (p.high > 1000000) || decide (p.wide < 0) || decide (p.wide > p.high - p.low)
def settleBad (p : Prd) : Bool := decide (p.settle.length ≠ p.months.length) || decide (minL p.settle < p.low) || decide (maxL p.settle > p.high)
def ruleBad (p : Prd) : Bool := decide (p.rule < 1) || decide (p.rule > 3)
def qtyBad (p : Prd) : Bool := decide (p.top < 0) || decide (p.top > 1000000) || decide (p.least < 1) || decide (p.least > 1000) || decide (p.part < 0) || decide (p.part > 100)
def Prd.check (p : Prd) : Int :=
  if !symOk p.code then 12 else if !monthsOk p.months then 1 else if !ticksOk p then 22 else if bandBad p then 23 else if settleBad p then 1 else if ruleBad p then 31 else if qtyBad p then 24 else 0
def checkC : Con := con1 Prd (fun p => [prdV p]) (fun _ => []) Prd.small (fun p => i64V p.check) (fun _ => [])

def Prd.count (p : Prd) : Nat := if p.check = 0 then p.months.length + p.months.length * (p.months.length - 1) / 2 else 0
def pcountC : Con := con1 Prd (fun p => [prdV p]) (fun _ => []) Prd.small (fun p => i64V p.count) (fun _ => [])

structure LegI where
  p : Prd
  n : Int
/-- The number of the first spread of a month, of n. -/
def firstOf (n : Nat) : Nat → Nat
  | 0 => n
  | k + 1 => firstOf n k + (n - 1 - k)
/-- The months of an instrument; whether it is a spread. -/
def legsFrom (n inst : Nat) : Nat → Nat → Int × Int × Bool
  | 0, _ => (0, 0, false)
  | k + 1, m => if inst < firstOf n m + (n - 1 - m) then (m, m + 1 + (inst - firstOf n m : Nat), true) else legsFrom n inst k (m + 1)
def Prd.legs (p : Prd) (i : Int) : Int × Int × Bool :=
  if i < 0 ∨ (p.count : Int) ≤ i then (0, 0, false) else if i < p.months.length then (i, i, false) else legsFrom p.months.length i.toNat p.months.length 0
def legsC : Con := con1 LegI (fun i => [prdV i.p, i64V i.n]) (fun _ => []) (fun i => i.p.small) (fun i => .tup [i64V (i.p.legs i.n).1, i64V (i.p.legs i.n).2.1, boolV (i.p.legs i.n).2.2]) (fun _ => [])

structure SprI where
  p : Prd
  a : Int
  b : Int
def Prd.spread (p : Prd) (a b : Int) : Int × Bool :=
  if p.check ≠ 0 ∨ a < 0 ∨ b ≤ a ∨ (p.months.length : Int) ≤ b then (0, false) else ((firstOf p.months.length a.toNat : Int) + b - a - 1, true)
def spreadC : Con := con1 SprI (fun i => [prdV i.p, i64V i.a, i64V i.b]) (fun _ => []) (fun i => i.p.small) (fun i => .tup [i64V (i.p.spread i.a i.b).1, boolV (i.p.spread i.a i.b).2]) (fun _ => [])

def Prd.price (p : Prd) (i n : Int) : Int :=
  if p.count = 0 then 1 else if i < 0 ∨ (p.count : Int) ≤ i then 20 else if offB p.tick n then 22 else
  if n < (if (p.months.length : Int) ≤ i then -p.wide else p.low) ∨ (if (p.months.length : Int) ≤ i then p.wide else p.high) < n then 23 else 0
def priceC : Con := con1 SprI (fun i => [prdV i.p, i64V i.a, i64V i.b]) (fun _ => []) (fun i => i.p.small) (fun i => i64V (i.p.price i.a i.b)) (fun _ => [])

structure I2 where
  x : Int
  y : Int
@[reducible] def i64r (n : Int) : Prop := -9223372036854775808 ≤ n ∧ n ≤ 9223372036854775807
def addP (x y : Int) : Int × Bool := if i64r (x + y) then (x + y, true) else (0, false)
def subP (x y : Int) : Int × Bool := if i64r (x - y) then (x - y, true) else (0, false)
def addC : Con := con1 I2 (fun i => [i64V i.x, i64V i.y]) (fun _ => []) (fun i => i64r i.x ∧ i64r i.y) (fun i => .tup [i64V (addP i.x i.y).1, boolV (addP i.x i.y).2]) (fun _ => [])
def subC : Con := con1 I2 (fun i => [i64V i.x, i64V i.y]) (fun _ => []) (fun i => i64r i.x ∧ i64r i.y) (fun i => .tup [i64V (subP i.x i.y).1, boolV (subP i.x i.y).2]) (fun _ => [])

def legsA (i : LegI) : List SAnn := [{ ι := Nat, slots := fun m => [(8, i64V (firstOf i.p.months.length m)), (33, i64V m)], rows := fun _ => [] }]
def spreadA (i : SprI) : List SAnn := [{ ι := Nat, slots := fun m => [(9, i64V (firstOf i.p.months.length m)), (33, i64V m)], rows := fun _ => [] }]

end Sx

namespace Sx
set_option linter.unusedVariables false
set_option maxRecDepth 100000
open Go Cv Go.Proofs
def Voff (i : OffI) : Prop :=
  IntKind.i64 = IntKind.i64 ∧ i.p.tick ≠ (0 : Int) ∧ ∃ (o : Unit), offB i.p.tick i.n = (i.n.tmod i.p.tick != (0 : Int)) ∧ sb i.p.code = sb i.p.code ∧ iE i.p.months = iE i.p.months ∧ i.p.tick = i.p.tick ∧ i.p.low = i.p.low ∧ i.p.high = i.p.high ∧ i.p.wide = i.p.wide ∧ i.p.rule = i.p.rule ∧ i.p.top = i.p.top ∧ i.p.least = i.p.least ∧ i.p.part = i.p.part ∧ iE i.p.settle = iE i.p.settle ∧ True
theorem eqoff (i : OffI) : Voff i = walk Try.prog ([]) 0 ([]) ([]) [] Try.f69 (Try.f69.body.getD .skip) (offC.pat i) (offC.pre i) (offC.alts i) := by kernel_rfl

theorem byoff (hG : GOk Try.prog ([])) (h : ∀ (i : OffI), offC.cnd i → Voff i) : offC.ok Try.prog 69 := ok_of_walk mixed ([]) hG 0 (fun (i : OffI) => []) (fun (i : OffI) => []) [] Try.func69 (by kernel_rfl) (by kernel_rfl) (by kernel_rfl) (fun _ => by kernel_rfl) (fun (i : OffI) hc => Eq.mp (eqoff i) (h i hc))

def Vidx (i : OffL) : Prop :=
  ∃ (i0 : Nat), (↑i0 : Int) = (0 : Int) ∧ ∃ (I : Nat → Prop), ∃ (μ : Nat → Nat), I i0 ∧ ∀ (i_1 : Nat), I i_1 → cnd (decide ((↑i_1 : Int) < (↑(iE i.l).length : Int))) (((0 : Int) ≤ (↑i_1 : Int) ∧ (↑i_1 : Int) < (↑(iE i.l).length : Int)) ∧ ∃ (n : Int), elPart (iE i.l) (↑i_1 : Int).toNat (0 : Nat) (1 : Nat) = some [D.v (.int .i64 n)] ∧ ∃ (i_2 : OffI), i_2.n = n ∧ sb i_2.p.code = sb i.p.code ∧ iE i_2.p.months = iE i.p.months ∧ i_2.p.tick = i.p.tick ∧ i_2.p.low = i.p.low ∧ i_2.p.high = i.p.high ∧ i_2.p.wide = i.p.wide ∧ i_2.p.rule = i.p.rule ∧ i_2.p.top = i.p.top ∧ i_2.p.least = i.p.least ∧ i_2.p.part = i.p.part ∧ iE i_2.p.settle = iE i.p.settle ∧ (1 : Int) ≤ i_2.p.tick ∧ ∀ (o : Unit), True → cnd (offB i_2.p.tick i_2.n) (∃ (o : Unit), idxOr (List.findIdx? (offB i.p.tick) i.l) = (↑i_1 : Int) ∧ sb i.p.code = sb i_2.p.code ∧ iE i.p.months = iE i_2.p.months ∧ i.p.tick = i_2.p.tick ∧ i.p.low = i_2.p.low ∧ i.p.high = i_2.p.high ∧ i.p.wide = i_2.p.wide ∧ i.p.rule = i_2.p.rule ∧ i.p.top = i_2.p.top ∧ i.p.least = i_2.p.least ∧ i.p.part = i_2.p.part ∧ iE i.p.settle = iE i_2.p.settle ∧ True) (∃ (i' : Nat), (↑i' : Int) = IntKind.i64.wrap ((↑i_1 : Int) + (1 : Int)) ∧ I i' ∧ μ i' < μ i_1 ∧ Sx.AObj.cells (renL (newNM (1 : Nat) ((1 : Nat) + (0 : Nat)) ((1 : Nat) - (1 : Nat)) [((0 : Nat), (0 : Nat))]) i_2.p.cells) (25 : TypeId) = i.p.row)) (∃ (o : Unit), idxOr (List.findIdx? (offB i.p.tick) i.l) = (-1 : Int) ∧ sb i.p.code = sb i.p.code ∧ iE i.p.months = iE i.p.months ∧ i.p.tick = i.p.tick ∧ i.p.low = i.p.low ∧ i.p.high = i.p.high ∧ i.p.wide = i.p.wide ∧ i.p.rule = i.p.rule ∧ i.p.top = i.p.top ∧ i.p.least = i.p.least ∧ i.p.part = i.p.part ∧ iE i.p.settle = iE i.p.settle ∧ True)
theorem eqidx (i : OffL) : Vidx i = walk Try.prog ([(69, offC)]) 0 ([]) (idxA i) [] Try.f85 (Try.f85.body.getD .skip) (idxC.pat i) (idxC.pre i) (idxC.alts i) := by kernel_rfl

theorem byidx (hG : GOk Try.prog ([(69, offC)])) (h : ∀ (i : OffL), idxC.cnd i → Vidx i) : idxC.ok Try.prog 85 := ok_of_walk mixed ([(69, offC)]) hG 0 (fun (i : OffL) => []) (fun (i : OffL) => idxA i) [] Try.func85 (by kernel_rfl) (by kernel_rfl) (by kernel_rfl) (fun _ => by kernel_rfl) (fun (i : OffL) hc => Eq.mp (eqidx i) (h i hc))

def Vcontains (i : OffL) : Prop :=
  ∃ (i_1 : OffL), iE i_1.l = iE i.l ∧ sb i_1.p.code = sb i.p.code ∧ iE i_1.p.months = iE i.p.months ∧ i_1.p.tick = i.p.tick ∧ i_1.p.low = i.p.low ∧ i_1.p.high = i.p.high ∧ i_1.p.wide = i.p.wide ∧ i_1.p.rule = i.p.rule ∧ i_1.p.top = i.p.top ∧ i_1.p.least = i.p.least ∧ i_1.p.part = i.p.part ∧ iE i_1.p.settle = iE i.p.settle ∧ ((1 : Int) ≤ i_1.p.tick ∧ i_1.l.length ≤ (1099511627776 : Nat)) ∧ ∀ (o : Unit), True → ∃ (o : Unit), i.l.any (offB i.p.tick) = decide (idxOr (List.findIdx? (offB i_1.p.tick) i_1.l) ≥ (0 : Int)) ∧ sb i.p.code = sb i_1.p.code ∧ iE i.p.months = iE i_1.p.months ∧ i.p.tick = i_1.p.tick ∧ i.p.low = i_1.p.low ∧ i.p.high = i_1.p.high ∧ i.p.wide = i_1.p.wide ∧ i.p.rule = i_1.p.rule ∧ i.p.top = i_1.p.top ∧ i.p.least = i_1.p.least ∧ i.p.part = i_1.p.part ∧ iE i.p.settle = iE i_1.p.settle ∧ True
theorem eqcontains (i : OffL) : Vcontains i = walk Try.prog ([(85, idxC)]) 0 ([]) ([]) [] Try.f70 (Try.f70.body.getD .skip) (containsC.pat i) (containsC.pre i) (containsC.alts i) := by kernel_rfl

theorem bycontains (hG : GOk Try.prog ([(85, idxC)])) (h : ∀ (i : OffL), containsC.cnd i → Vcontains i) : containsC.ok Try.prog 70 := ok_of_walk mixed ([(85, idxC)]) hG 0 (fun (i : OffL) => []) (fun (i : OffL) => []) [] Try.func70 (by kernel_rfl) (by kernel_rfl) (by kernel_rfl) (fun _ => by kernel_rfl) (fun (i : OffL) hc => Eq.mp (eqcontains i) (h i hc))

def Vticks (p : Prd) : Prop :=
  cnd (decide (p.tick < (1 : Int))) (∃ (o : Unit), ticksOk p = false ∧ True) (cnd (decide (p.tick > (1000 : Int))) (∃ (o : Unit), ticksOk p = false ∧ True) (∃ (i : OffI), i.n = p.low ∧ sb i.p.code = sb p.code ∧ iE i.p.months = iE p.months ∧ i.p.tick = p.tick ∧ i.p.low = p.low ∧ i.p.high = p.high ∧ i.p.wide = p.wide ∧ i.p.rule = p.rule ∧ i.p.top = p.top ∧ i.p.least = p.least ∧ i.p.part = p.part ∧ iE i.p.settle = iE p.settle ∧ (1 : Int) ≤ i.p.tick ∧ ∀ (o : Unit), True → cnd (!offB i.p.tick i.n) (∃ (i_1 : OffI), i_1.n = i.p.high ∧ sb i_1.p.code = sb i.p.code ∧ iE i_1.p.months = iE i.p.months ∧ i_1.p.tick = i.p.tick ∧ i_1.p.low = i.p.low ∧ i_1.p.high = i.p.high ∧ i_1.p.wide = i.p.wide ∧ i_1.p.rule = i.p.rule ∧ i_1.p.top = i.p.top ∧ i_1.p.least = i.p.least ∧ i_1.p.part = i.p.part ∧ iE i_1.p.settle = iE i.p.settle ∧ (1 : Int) ≤ i_1.p.tick ∧ ∀ (o : Unit), True → cnd (!offB i_1.p.tick i_1.n) (∃ (i : OffI), i.n = i_1.p.wide ∧ sb i.p.code = sb i_1.p.code ∧ iE i.p.months = iE i_1.p.months ∧ i.p.tick = i_1.p.tick ∧ i.p.low = i_1.p.low ∧ i.p.high = i_1.p.high ∧ i.p.wide = i_1.p.wide ∧ i.p.rule = i_1.p.rule ∧ i.p.top = i_1.p.top ∧ i.p.least = i_1.p.least ∧ i.p.part = i_1.p.part ∧ iE i.p.settle = iE i_1.p.settle ∧ (1 : Int) ≤ i.p.tick ∧ ∀ (o : Unit), True → cnd (!offB i.p.tick i.n) (∃ (i_2 : OffL), iE i_2.l = iE i.p.settle ∧ sb i_2.p.code = sb i.p.code ∧ iE i_2.p.months = iE i.p.months ∧ i_2.p.tick = i.p.tick ∧ i_2.p.low = i.p.low ∧ i_2.p.high = i.p.high ∧ i_2.p.wide = i.p.wide ∧ i_2.p.rule = i.p.rule ∧ i_2.p.top = i.p.top ∧ i_2.p.least = i.p.least ∧ i_2.p.part = i.p.part ∧ iE i_2.p.settle = iE i.p.settle ∧ ((1 : Int) ≤ i_2.p.tick ∧ i_2.l.length ≤ (1099511627776 : Nat)) ∧ ∀ (o : Unit), True → ∃ (o : Unit), ticksOk p = !i_2.l.any (offB i_2.p.tick) ∧ True) (∃ (o : Unit), ticksOk p = false ∧ True)) (∃ (o : Unit), ticksOk p = false ∧ True)) (∃ (o : Unit), ticksOk p = false ∧ True)))
theorem eqticks (p : Prd) : Vticks p = walk Try.prog ([(69, offC), (70, containsC)]) 0 ([]) ([]) [] Try.f51 (Try.f51.body.getD .skip) (ticksC.pat p) (ticksC.pre p) (ticksC.alts p) := by kernel_rfl

theorem byticks (hG : GOk Try.prog ([(69, offC), (70, containsC)])) (h : ∀ (p : Prd), ticksC.cnd p → Vticks p) : ticksC.ok Try.prog 51 := ok_of_walk mixed ([(69, offC), (70, containsC)]) hG 0 (fun (p : Prd) => []) (fun (p : Prd) => []) [] Try.func51 (by kernel_rfl) (by kernel_rfl) (by kernel_rfl) (fun _ => by kernel_rfl) (fun (p : Prd) hc => Eq.mp (eqticks p) (h p hc))

def Vcheck (p : Prd) : Prop :=
  ∃ (i : List UInt8), sb i = sb p.code ∧ i.length ≤ (1099511627776 : Nat) ∧ ∀ (o : Unit), True → cnd (!symOk i) (∃ (o : Unit), p.check = (12 : Int) ∧ True) (∃ (i : List Int), iE i = iE p.months ∧ i.length ≤ (1099511627776 : Nat) ∧ ∀ (o : Unit), True → cnd (!monthsOk i) (∃ (o : Unit), p.check = (1 : Int) ∧ True) (∃ (i : Prd), sb i.code = sb p.code ∧ iE i.months = iE p.months ∧ i.tick = p.tick ∧ i.low = p.low ∧ i.high = p.high ∧ i.wide = p.wide ∧ i.rule = p.rule ∧ i.top = p.top ∧ i.least = p.least ∧ i.part = p.part ∧ iE i.settle = iE p.settle ∧ (i.code.length ≤ (1099511627776 : Nat) ∧ i.months.length ≤ (1099511627776 : Nat) ∧ i.settle.length ≤ (1099511627776 : Nat)) ∧ ∀ (o : Unit), True → cnd (!ticksOk i) (∃ (o : Unit), p.check = (22 : Int) ∧ True) (cnd (decide (p.low < (-1000000 : Int))) (∃ (o : Unit), p.check = (23 : Int) ∧ True) (cnd (decide (p.low ≥ p.high)) (∃ (o : Unit), p.check = (23 : Int) ∧ True) (cnd (decide (p.high > (1000000 : Int))) (∃ (o : Unit), p.check = (23 : Int) ∧ True) (cnd (decide (p.wide < (0 : Int))) (∃ (o : Unit), p.check = (23 : Int) ∧ True) (cnd (decide (p.wide > IntKind.i64.wrap (p.high - p.low))) (∃ (o : Unit), p.check = (23 : Int) ∧ True) (cnd ((↑(iE p.settle).length : Int) != (↑(iE p.months).length : Int)) (∃ (o : Unit), p.check = (1 : Int) ∧ True) (∃ (i : List Int), iE i = iE p.settle ∧ ((0 : Nat) < i.length ∧ i.length ≤ (1099511627776 : Nat)) ∧ ∀ (o : Unit), True → p.low = p.low ∧ cnd (decide (minL i < p.low)) (∃ (o : Unit), p.check = (1 : Int) ∧ True) (∃ (i : List Int), iE i = iE p.settle ∧ ((0 : Nat) < i.length ∧ i.length ≤ (1099511627776 : Nat)) ∧ ∀ (o : Unit), True → p.high = p.high ∧ cnd (decide (maxL i > p.high)) (∃ (o : Unit), p.check = (1 : Int) ∧ True) (cnd (decide (p.rule < (1 : Int))) (∃ (o : Unit), p.check = (31 : Int) ∧ True) (cnd (decide (p.rule > (3 : Int))) (∃ (o : Unit), p.check = (31 : Int) ∧ True) (cnd (decide (p.top < (0 : Int))) (∃ (o : Unit), p.check = (24 : Int) ∧ True) (cnd (decide (p.top > (1000000 : Int))) (∃ (o : Unit), p.check = (24 : Int) ∧ True) (cnd (decide (p.least < (1 : Int))) (∃ (o : Unit), p.check = (24 : Int) ∧ True) (cnd (decide (p.least > (1000 : Int))) (∃ (o : Unit), p.check = (24 : Int) ∧ True) (cnd (decide (p.part < (0 : Int))) (∃ (o : Unit), p.check = (24 : Int) ∧ True) (cnd (decide (p.part > (100 : Int))) (∃ (o : Unit), p.check = (24 : Int) ∧ True) (∃ (o : Unit), p.check = (0 : Int) ∧ True)))))))))))))))))))
theorem eqcheck (p : Prd) : Vcheck p = walk Try.prog ([(49, symC), (50, monthsC), (51, ticksC), (52, minC), (53, maxC)]) 0 ([]) ([]) [] Try.f27 (Try.f27.body.getD .skip) (checkC.pat p) (checkC.pre p) (checkC.alts p) := by kernel_rfl

theorem bycheck (hG : GOk Try.prog ([(49, symC), (50, monthsC), (51, ticksC), (52, minC), (53, maxC)])) (h : ∀ (p : Prd), checkC.cnd p → Vcheck p) : checkC.ok Try.prog 27 := ok_of_walk mixed ([(49, symC), (50, monthsC), (51, ticksC), (52, minC), (53, maxC)]) hG 0 (fun (p : Prd) => []) (fun (p : Prd) => []) [] Try.func27 (by kernel_rfl) (by kernel_rfl) (by kernel_rfl) (fun _ => by kernel_rfl) (fun (p : Prd) hc => Eq.mp (eqcheck p) (h p hc))

def Vpcount (p : Prd) : Prop :=
  ∃ (i : Prd), sb i.code = sb p.code ∧ iE i.months = iE p.months ∧ i.tick = p.tick ∧ i.low = p.low ∧ i.high = p.high ∧ i.wide = p.wide ∧ i.rule = p.rule ∧ i.top = p.top ∧ i.least = p.least ∧ i.part = p.part ∧ iE i.settle = iE p.settle ∧ (i.code.length ≤ (1099511627776 : Nat) ∧ i.months.length ≤ (1099511627776 : Nat) ∧ i.settle.length ≤ (1099511627776 : Nat)) ∧ ∀ (o : Unit), True → cnd (i.check != (0 : Int)) (∃ (o : Unit), (↑p.count : Int) = (0 : Int) ∧ True) (IntKind.i64 = IntKind.i64 ∧ (2 : Int) ≠ (0 : Int) ∧ ∃ (o : Unit), (↑p.count : Int) = IntKind.i64.wrap ((↑(iE p.months).length : Int) + IntKind.i64.wrap ((IntKind.i64.wrap ((↑(iE p.months).length : Int) * IntKind.i64.wrap ((↑(iE p.months).length : Int) - (1 : Int)))).tdiv (2 : Int))) ∧ True)
theorem eqpcount (p : Prd) : Vpcount p = walk Try.prog ([(27, checkC)]) 0 ([]) ([]) [] Try.f28 (Try.f28.body.getD .skip) (pcountC.pat p) (pcountC.pre p) (pcountC.alts p) := by kernel_rfl

theorem bypcount (hG : GOk Try.prog ([(27, checkC)])) (h : ∀ (p : Prd), pcountC.cnd p → Vpcount p) : pcountC.ok Try.prog 28 := ok_of_walk mixed ([(27, checkC)]) hG 0 (fun (p : Prd) => []) (fun (p : Prd) => []) [] Try.func28 (by kernel_rfl) (by kernel_rfl) (by kernel_rfl) (fun _ => by kernel_rfl) (fun (p : Prd) hc => Eq.mp (eqpcount p) (h p hc))

@[reducible] def Vlegsr0 (i : LegI) : AObj := Sx.AObj.cells [V.d (D.v (Value.string (sb i.p.code))), V.own (0 : Nat), V.d (D.v (.int .i64 i.p.tick)), V.d (D.v (.int .i64 i.p.low)), V.d (D.v (.int .i64 i.p.high)), V.d (D.v (.int .i64 i.p.wide)), V.d (D.v (.int .i64 i.p.rule)), V.d (D.v (.int .i64 i.p.top)), V.d (D.v (.int .i64 i.p.least)), V.d (D.v (.int .i64 i.p.part)), V.own ((0 : Nat) + (1 : Nat))] (25 : Nat)
def Vlegs (i : LegI) : Prop :=
  ∃ (i_1 : Prd), sb i_1.code = sb i.p.code ∧ iE i_1.months = iE i.p.months ∧ i_1.tick = i.p.tick ∧ i_1.low = i.p.low ∧ i_1.high = i.p.high ∧ i_1.wide = i.p.wide ∧ i_1.rule = i.p.rule ∧ i_1.top = i.p.top ∧ i_1.least = i.p.least ∧ i_1.part = i.p.part ∧ iE i_1.settle = iE i.p.settle ∧ (i_1.code.length ≤ (1099511627776 : Nat) ∧ i_1.months.length ≤ (1099511627776 : Nat) ∧ i_1.settle.length ≤ (1099511627776 : Nat)) ∧ ∀ (o : Unit), True → cnd (decide (i.n < (0 : Int))) (∃ (o : Unit), (i.p.legs i.n).fst = (0 : Int) ∧ (i.p.legs i.n).snd.fst = (0 : Int) ∧ (i.p.legs i.n).snd.snd = false ∧ True) (cnd (decide (i.n ≥ (↑i_1.count : Int))) (∃ (o : Unit), (i.p.legs i.n).fst = (0 : Int) ∧ (i.p.legs i.n).snd.fst = (0 : Int) ∧ (i.p.legs i.n).snd.snd = false ∧ True) (cnd (decide (i.n < (↑(iE i.p.months).length : Int))) (∃ (o : Unit), (i.p.legs i.n).fst = i.n ∧ (i.p.legs i.n).snd.fst = i.n ∧ (i.p.legs i.n).snd.snd = false ∧ True) (∃ (i0 : Nat), (↑(firstOf i.p.months.length i0) : Int) = (↑(iE i.p.months).length : Int) ∧ (↑i0 : Int) = (0 : Int) ∧ ∃ (I : Nat → Prop), ∃ (μ : Nat → Nat), I i0 ∧ ∀ (i_2 : Nat), I i_2 → cnd (decide ((↑i_2 : Int) < (↑(iE i.p.months).length : Int))) (cnd (decide (i.n < IntKind.i64.wrap ((↑(firstOf i.p.months.length i_2) : Int) + IntKind.i64.wrap (IntKind.i64.wrap ((↑(iE i.p.months).length : Int) - (1 : Int)) - (↑i_2 : Int))))) (∃ (o : Unit), (i.p.legs i.n).fst = (↑i_2 : Int) ∧ (i.p.legs i.n).snd.fst = IntKind.i64.wrap (IntKind.i64.wrap (IntKind.i64.wrap ((↑i_2 : Int) + (1 : Int)) + i.n) - (↑(firstOf i.p.months.length i_2) : Int)) ∧ (i.p.legs i.n).snd.snd = true ∧ True) (∃ (i' : Nat), (↑(firstOf i.p.months.length i') : Int) = IntKind.i64.wrap ((↑(firstOf i.p.months.length i_2) : Int) + IntKind.i64.wrap (IntKind.i64.wrap ((↑(iE i.p.months).length : Int) - (1 : Int)) - (↑i_2 : Int))) ∧ (↑i' : Int) = IntKind.i64.wrap ((↑i_2 : Int) + (1 : Int)) ∧ I i' ∧ μ i' < μ i_2 ∧ Vlegsr0 i = Vlegsr0 i ∧ AObj.fro (1 : Nat) (iE i.p.settle) = AObj.fro (1 : Nat) (iE i.p.settle) ∧ AObj.fro (1 : Nat) (iE i.p.months) = AObj.fro (1 : Nat) (iE i.p.months))) (∃ (o : Unit), (i.p.legs i.n).fst = (0 : Int) ∧ (i.p.legs i.n).snd.fst = (0 : Int) ∧ (i.p.legs i.n).snd.snd = false ∧ True))))
theorem eqlegs (i : LegI) : Vlegs i = walk Try.prog ([(28, pcountC)]) 0 ([]) (legsA i) [] Try.f54 (Try.f54.body.getD .skip) (legsC.pat i) (legsC.pre i) (legsC.alts i) := by kernel_rfl

theorem bylegs (hG : GOk Try.prog ([(28, pcountC)])) (h : ∀ (i : LegI), legsC.cnd i → Vlegs i) : legsC.ok Try.prog 54 := ok_of_walk mixed ([(28, pcountC)]) hG 0 (fun (i : LegI) => []) (fun (i : LegI) => legsA i) [] Try.func54 (by kernel_rfl) (by kernel_rfl) (by kernel_rfl) (fun _ => by kernel_rfl) (fun (i : LegI) hc => Eq.mp (eqlegs i) (h i hc))

@[reducible] def Vspreadr0 (i : SprI) : AObj := Sx.AObj.cells [V.d (D.v (Value.string (sb i.p.code))), V.own (0 : Nat), V.d (D.v (.int .i64 i.p.tick)), V.d (D.v (.int .i64 i.p.low)), V.d (D.v (.int .i64 i.p.high)), V.d (D.v (.int .i64 i.p.wide)), V.d (D.v (.int .i64 i.p.rule)), V.d (D.v (.int .i64 i.p.top)), V.d (D.v (.int .i64 i.p.least)), V.d (D.v (.int .i64 i.p.part)), V.own ((0 : Nat) + (1 : Nat))] (25 : Nat)
def Vspread (i : SprI) : Prop :=
  ∃ (i_1 : Prd), sb i_1.code = sb i.p.code ∧ iE i_1.months = iE i.p.months ∧ i_1.tick = i.p.tick ∧ i_1.low = i.p.low ∧ i_1.high = i.p.high ∧ i_1.wide = i.p.wide ∧ i_1.rule = i.p.rule ∧ i_1.top = i.p.top ∧ i_1.least = i.p.least ∧ i_1.part = i.p.part ∧ iE i_1.settle = iE i.p.settle ∧ (i_1.code.length ≤ (1099511627776 : Nat) ∧ i_1.months.length ≤ (1099511627776 : Nat) ∧ i_1.settle.length ≤ (1099511627776 : Nat)) ∧ ∀ (o : Unit), True → cnd (i_1.check != (0 : Int)) (∃ (o : Unit), (i.p.spread i.a i.b).fst = (0 : Int) ∧ (i.p.spread i.a i.b).snd = false ∧ True) (cnd (decide (i.a < (0 : Int))) (∃ (o : Unit), (i.p.spread i.a i.b).fst = (0 : Int) ∧ (i.p.spread i.a i.b).snd = false ∧ True) (cnd (decide (i.a ≥ i.b)) (∃ (o : Unit), (i.p.spread i.a i.b).fst = (0 : Int) ∧ (i.p.spread i.a i.b).snd = false ∧ True) (cnd (decide (i.b ≥ (↑(iE i.p.months).length : Int))) (∃ (o : Unit), (i.p.spread i.a i.b).fst = (0 : Int) ∧ (i.p.spread i.a i.b).snd = false ∧ True) (∃ (i0 : Nat), (↑(firstOf i.p.months.length i0) : Int) = (↑(iE i.p.months).length : Int) ∧ (↑i0 : Int) = (0 : Int) ∧ ∃ (I : Nat → Prop), ∃ (μ : Nat → Nat), I i0 ∧ ∀ (i_2 : Nat), I i_2 → cnd (decide ((↑i_2 : Int) < i.a)) (∃ (i' : Nat), (↑(firstOf i.p.months.length i') : Int) = IntKind.i64.wrap ((↑(firstOf i.p.months.length i_2) : Int) + IntKind.i64.wrap (IntKind.i64.wrap ((↑(iE i.p.months).length : Int) - (1 : Int)) - (↑i_2 : Int))) ∧ (↑i' : Int) = IntKind.i64.wrap ((↑i_2 : Int) + (1 : Int)) ∧ I i' ∧ μ i' < μ i_2 ∧ Vspreadr0 i = Vspreadr0 i ∧ AObj.fro (1 : Nat) (iE i.p.settle) = AObj.fro (1 : Nat) (iE i.p.settle) ∧ AObj.fro (1 : Nat) (iE i.p.months) = AObj.fro (1 : Nat) (iE i.p.months)) (∃ (o : Unit), (i.p.spread i.a i.b).fst = IntKind.i64.wrap (IntKind.i64.wrap (IntKind.i64.wrap ((↑(firstOf i.p.months.length i_2) : Int) + i.b) - i.a) - (1 : Int)) ∧ (i.p.spread i.a i.b).snd = true ∧ True)))))
theorem eqspread (i : SprI) : Vspread i = walk Try.prog ([(27, checkC)]) 0 ([]) (spreadA i) [] Try.f84 (Try.f84.body.getD .skip) (spreadC.pat i) (spreadC.pre i) (spreadC.alts i) := by kernel_rfl

theorem byspread (hG : GOk Try.prog ([(27, checkC)])) (h : ∀ (i : SprI), spreadC.cnd i → Vspread i) : spreadC.ok Try.prog 84 := ok_of_walk mixed ([(27, checkC)]) hG 0 (fun (i : SprI) => []) (fun (i : SprI) => spreadA i) [] Try.func84 (by kernel_rfl) (by kernel_rfl) (by kernel_rfl) (fun _ => by kernel_rfl) (fun (i : SprI) hc => Eq.mp (eqspread i) (h i hc))

def Vprice (i : SprI) : Prop :=
  ∃ (i_1 : Prd), sb i_1.code = sb i.p.code ∧ iE i_1.months = iE i.p.months ∧ i_1.tick = i.p.tick ∧ i_1.low = i.p.low ∧ i_1.high = i.p.high ∧ i_1.wide = i.p.wide ∧ i_1.rule = i.p.rule ∧ i_1.top = i.p.top ∧ i_1.least = i.p.least ∧ i_1.part = i.p.part ∧ iE i_1.settle = iE i.p.settle ∧ (i_1.code.length ≤ (1099511627776 : Nat) ∧ i_1.months.length ≤ (1099511627776 : Nat) ∧ i_1.settle.length ≤ (1099511627776 : Nat)) ∧ ∀ (o : Unit), True → cnd ((↑i_1.count : Int) == (0 : Int)) (∃ (o : Unit), i.p.price i.a i.b = (1 : Int) ∧ True) (cnd (decide (i.a < (0 : Int))) (∃ (o : Unit), i.p.price i.a i.b = (20 : Int) ∧ True) (cnd (decide (i.a ≥ (↑i_1.count : Int))) (∃ (o : Unit), i.p.price i.a i.b = (20 : Int) ∧ True) (IntKind.i64 = IntKind.i64 ∧ i.p.tick ≠ (0 : Int) ∧ cnd (i.b.tmod i.p.tick != (0 : Int)) (∃ (o : Unit), i.p.price i.a i.b = (22 : Int) ∧ True) (cnd (decide (i.a ≥ (↑(iE i.p.months).length : Int))) (cnd (decide (i.b < IntKind.i64.wrap ((0 : Int) - i.p.wide))) (∃ (o : Unit), i.p.price i.a i.b = (23 : Int) ∧ True) (cnd (decide (i.b > i.p.wide)) (∃ (o : Unit), i.p.price i.a i.b = (23 : Int) ∧ True) (∃ (o : Unit), i.p.price i.a i.b = (0 : Int) ∧ True))) (cnd (decide (i.b < i.p.low)) (∃ (o : Unit), i.p.price i.a i.b = (23 : Int) ∧ True) (cnd (decide (i.b > i.p.high)) (∃ (o : Unit), i.p.price i.a i.b = (23 : Int) ∧ True) (∃ (o : Unit), i.p.price i.a i.b = (0 : Int) ∧ True)))))))
theorem eqprice (i : SprI) : Vprice i = walk Try.prog ([(28, pcountC)]) 0 ([]) ([]) [] Try.f40 (Try.f40.body.getD .skip) (priceC.pat i) (priceC.pre i) (priceC.alts i) := by kernel_rfl

theorem byprice (hG : GOk Try.prog ([(28, pcountC)])) (h : ∀ (i : SprI), priceC.cnd i → Vprice i) : priceC.ok Try.prog 40 := ok_of_walk mixed ([(28, pcountC)]) hG 0 (fun (i : SprI) => []) (fun (i : SprI) => []) [] Try.func40 (by kernel_rfl) (by kernel_rfl) (by kernel_rfl) (fun _ => by kernel_rfl) (fun (i : SprI) hc => Eq.mp (eqprice i) (h i hc))

def Vadd (i : I2) : Prop :=
  cnd (decide (i.x < (0 : Int)) == decide (i.y < (0 : Int))) (cnd (!decide (IntKind.i64.wrap (i.x + i.y) < (0 : Int)) == decide (i.x < (0 : Int))) (∃ (o : Unit), (addP i.x i.y).fst = (0 : Int) ∧ (addP i.x i.y).snd = false ∧ True) (∃ (o : Unit), (addP i.x i.y).fst = IntKind.i64.wrap (i.x + i.y) ∧ (addP i.x i.y).snd = true ∧ True)) (∃ (o : Unit), (addP i.x i.y).fst = IntKind.i64.wrap (i.x + i.y) ∧ (addP i.x i.y).snd = true ∧ True)
theorem eqadd (i : I2) : Vadd i = walk Try.prog ([]) 0 ([]) ([]) [] Try.f93 (Try.f93.body.getD .skip) (addC.pat i) (addC.pre i) (addC.alts i) := by kernel_rfl

theorem byadd (hG : GOk Try.prog ([])) (h : ∀ (i : I2), addC.cnd i → Vadd i) : addC.ok Try.prog 93 := ok_of_walk mixed ([]) hG 0 (fun (i : I2) => []) (fun (i : I2) => []) [] Try.func93 (by kernel_rfl) (by kernel_rfl) (by kernel_rfl) (fun _ => by kernel_rfl) (fun (i : I2) hc => Eq.mp (eqadd i) (h i hc))

def Vsub (i : I2) : Prop :=
  cnd (!decide (i.x < (0 : Int)) == decide (i.y < (0 : Int))) (cnd (!decide (IntKind.i64.wrap (i.x - i.y) < (0 : Int)) == decide (i.x < (0 : Int))) (∃ (o : Unit), (subP i.x i.y).fst = (0 : Int) ∧ (subP i.x i.y).snd = false ∧ True) (∃ (o : Unit), (subP i.x i.y).fst = IntKind.i64.wrap (i.x - i.y) ∧ (subP i.x i.y).snd = true ∧ True)) (∃ (o : Unit), (subP i.x i.y).fst = IntKind.i64.wrap (i.x - i.y) ∧ (subP i.x i.y).snd = true ∧ True)
theorem eqsub (i : I2) : Vsub i = walk Try.prog ([]) 0 ([]) ([]) [] Try.f94 (Try.f94.body.getD .skip) (subC.pat i) (subC.pre i) (subC.alts i) := by kernel_rfl

theorem bysub (hG : GOk Try.prog ([])) (h : ∀ (i : I2), subC.cnd i → Vsub i) : subC.ok Try.prog 94 := ok_of_walk mixed ([]) hG 0 (fun (i : I2) => []) (fun (i : I2) => []) [] Try.func94 (by kernel_rfl) (by kernel_rfl) (by kernel_rfl) (fun _ => by kernel_rfl) (fun (i : I2) hc => Eq.mp (eqsub i) (h i hc))

end Sx

namespace Sx
set_option linter.unusedVariables false
set_option linter.unusedSimpArgs false
set_option maxRecDepth 100000
open Go Cv Go.Proofs



theorem voff (i : OffI) (h : offC.cnd i) : Voff i := by
  have h : 1 ≤ i.p.tick := h
  unfold Voff; (repeat' (first | exact rfl | exact trivial | assumption | apply And.intro | (refine fun (_ : Unit) (_ : True) => ?_) | (refine Exists.intro () ?_) | omega | (dsimp only; omega)))
theorem off_ok : offC.ok Try.prog 69 := byoff gok0 voff

theorem find_none {α : Type} {f : α → Bool} {l : List α} (h : ∀ (k : Nat) (x : α), l[k]? = some x → f x = false) : l.findIdx? f = none := by
  rw [List.findIdx?_eq_none_iff]
  intro x hx
  obtain ⟨k, hk⟩ := List.getElem?_of_mem hx
  exact h k x hk
theorem find_some {α : Type} {f : α → Bool} {l : List α} {j : Nat} {x : α} (h1 : l[j]? = some x) (h2 : f x = true) (h : ∀ k < j, ∀ x : α, l[k]? = some x → f x = false) : l.findIdx? f = some j := by
  rw [List.findIdx?_eq_some_iff_getElem]
  obtain ⟨hj, rfl⟩ := List.getElem?_eq_some_iff.1 h1
  exact ⟨hj, h2, fun k hk => by rw [h k hk _ (List.getElem?_eq_getElem (by omega))]; simp⟩
theorem vidx (i : OffL) (h : idxC.cnd i) : Vidx i := by
  obtain ⟨h1, h2⟩ : 1 ≤ i.p.tick ∧ i.l.length ≤ 1099511627776 := h
  unfold Vidx
  simp only [iE_len]
  refine ⟨0, rfl, fun j => j ≤ i.l.length ∧ ∀ k < j, ∀ x, i.l[k]? = some x → offB i.p.tick x = false, fun j => i.l.length - j, ⟨by omega, fun k hk => by omega⟩, ?_⟩
  rintro j ⟨h3, h4⟩
  refine cndD (fun hj => ?_) (fun hj => ?_)
  · obtain ⟨n, hn⟩ := getI (l := i.l) (i := j) (by omega)
    refine ⟨⟨by omega, by omega⟩, n, elI hn, ⟨i.p, n⟩, ?_⟩
    (repeat' (first | exact rfl | exact trivial | assumption | apply And.intro | (refine fun (_ : Unit) (_ : True) => ?_) | (refine Exists.intro () ?_) | omega | (dsimp only; omega)))
    refine Cv.cnd.mk (fun e => ?_) (fun e => ?_)
    · rw [find_some hn e h4]; (repeat' (first | exact rfl | exact trivial | assumption | apply And.intro | (refine fun (_ : Unit) (_ : True) => ?_) | (refine Exists.intro () ?_) | omega | (dsimp only; omega)))
    · refine ⟨j + 1, by rw [w64 (by omega)]; rfl, ⟨by omega, fun k hk x hx => ?_⟩, by (first | omega | (dsimp only; omega)), rfl⟩
      rcases Nat.lt_or_ge k j with hk' | hk'
      · exact h4 k hk' x hx
      · obtain rfl : k = j := by omega
        rw [hn] at hx; cases hx; exact e
  · rw [find_none fun k x hx => h4 k (by have := (List.getElem?_eq_some_iff.1 hx).1; omega) x hx]; (repeat' (first | exact rfl | exact trivial | assumption | apply And.intro | (refine fun (_ : Unit) (_ : True) => ?_) | (refine Exists.intro () ?_) | omega | (dsimp only; omega)))
theorem idx_ok : idxC.ok Try.prog 85 := byidx (gokc off_ok gok0) vidx
theorem idxOr_any {l : List Int} {f : Int → Bool} : l.any f = decide (idxOr (l.findIdx? f) ≥ 0) := by
  cases hf : l.findIdx? f with
  | none =>
    rw [List.findIdx?_eq_none_iff] at hf
    have : l.any f = false := by rw [List.any_eq_false]; intro x hx; simp [hf x hx]
    rw [this]; rfl
  | some k =>
    rw [List.findIdx?_eq_some_iff_getElem] at hf
    obtain ⟨hk, h1, _⟩ := hf
    have : l.any f = true := by rw [List.any_eq_true]; exact ⟨_, List.getElem_mem hk, h1⟩
    rw [this, idxOr, decide_eq_true (by omega)]
theorem vcontains (i : OffL) (h : containsC.cnd i) : Vcontains i := by
  have h' : 1 ≤ i.p.tick ∧ i.l.length ≤ 1099511627776 := h
  refine ⟨i, ?_⟩
  (repeat' (first | exact rfl | exact trivial | assumption | apply And.intro | (refine fun (_ : Unit) (_ : True) => ?_) | (refine Exists.intro () ?_) | omega | (dsimp only; omega)))
  exact idxOr_any
theorem contains_ok : containsC.ok Try.prog 70 := bycontains (gokc idx_ok gok0) vcontains

theorem vticks (p : Prd) (h : ticksC.cnd p) : Vticks p := by
  obtain ⟨h1, h2, h3⟩ : p.small := h
  unfold Vticks
  refine cndD (fun c1 => ⟨(), by rw [ticksOk, decide_eq_false (by omega)]; rfl, trivial⟩) (fun c1 => cndD (fun c2 => ⟨(), by rw [ticksOk, decide_eq_false (show ¬ p.tick ≤ 1000 by omega)]; simp, trivial⟩) (fun c2 => ⟨⟨p, p.low⟩, ?_⟩))
  have e1 : ticksOk p = (!offB p.tick p.low && !offB p.tick p.high && !offB p.tick p.wide && !p.settle.any (offB p.tick)) := by
    rw [ticksOk, decide_eq_true (by omega), decide_eq_true (by omega)]; rfl
  rw [e1]
  (repeat' (first | exact rfl | exact trivial | assumption | apply And.intro | (refine fun (_ : Unit) (_ : True) => ?_) | (refine Exists.intro () ?_) | omega | (dsimp only; omega)))
  refine Cv.cnd.mk (fun c3 => ⟨⟨p, p.high⟩, ?_⟩) (fun c3 => ⟨(), ?_, trivial⟩)
  · dsimp only at c3
    (repeat' (first | exact rfl | exact trivial | assumption | apply And.intro | (refine fun (_ : Unit) (_ : True) => ?_) | (refine Exists.intro () ?_) | omega | (dsimp only; omega)))
    refine Cv.cnd.mk (fun c4 => ⟨⟨p, p.wide⟩, ?_⟩) (fun c4 => ⟨(), ?_, trivial⟩)
    · dsimp only at c4
      (repeat' (first | exact rfl | exact trivial | assumption | apply And.intro | (refine fun (_ : Unit) (_ : True) => ?_) | (refine Exists.intro () ?_) | omega | (dsimp only; omega)))
      refine Cv.cnd.mk (fun c5 => ⟨⟨p, p.settle⟩, ?_⟩) (fun c5 => ⟨(), ?_, trivial⟩)
      · dsimp only at c5
        (repeat' (first | exact rfl | exact trivial | assumption | apply And.intro | (refine fun (_ : Unit) (_ : True) => ?_) | (refine Exists.intro () ?_) | omega | (dsimp only; omega)))
        rw [c3, c4, c5]; simp
      · dsimp only at c5
        rw [c5]; simp
    · dsimp only at c4
      rw [c4]; simp
  · dsimp only at c3
    rw [c3]; simp
theorem ticks_ok : ticksC.ok Try.prog 51 := byticks (gokc off_ok (gokc contains_ok gok0)) vticks

theorem vcheck (p : Prd) (h : checkC.cnd p) : Vcheck p := by
  obtain ⟨h1, h2, h3⟩ : p.small := h
  unfold Vcheck
  simp only [iE_len]
  refine ⟨p.code, rfl, h1, fun _ _ => Cv.cnd.mk (fun c1 => ⟨(), by rw [Prd.check, if_pos c1], trivial⟩) (fun c1 => ⟨p.months, rfl, h2, fun _ _ => Cv.cnd.mk (fun c2 => ⟨(), by rw [Prd.check, if_neg (by simp [c1]), if_pos c2], trivial⟩) (fun c2 => ⟨p, ?_⟩)⟩)⟩
  (repeat' (first | exact rfl | exact trivial | assumption | apply And.intro | (refine fun (_ : Unit) (_ : True) => ?_) | (refine Exists.intro () ?_) | omega | (dsimp only; omega)))
  refine Cv.cnd.mk (fun c3 => ⟨(), by rw [Prd.check, if_neg (by simp [c1]), if_neg (by simp [c2]), if_pos c3], trivial⟩) (fun c3 => ?_)
  have e0 : p.check = if bandBad p then 23 else if settleBad p then 1 else if ruleBad p then 31 else if qtyBad p then 24 else 0 := by
    rw [Prd.check, if_neg (by simp [c1]), if_neg (by simp [c2]), if_neg (by simp [c3])]
  have b (hb : bandBad p = true) : ∃ (o : Unit), p.check = 23 ∧ True := ⟨(), by rw [e0, if_pos hb], trivial⟩
  refine cndD (fun d1 => b (by simp [bandBad, d1])) fun d1 => cndD (fun d2 => b (by simp [bandBad]; omega)) fun d2 => cndD (fun d3 => b (by simp [bandBad]; omega)) fun d3 => cndD (fun d4 => b (by simp [bandBad]; omega)) fun d4 => ?_
  rw [w64 (by omega)]
  refine cndD (fun d5 => b (by simp [bandBad]; omega)) fun d5 => ?_
  have e1 : p.check = if settleBad p then 1 else if ruleBad p then 31 else if qtyBad p then 24 else 0 := by
    rw [e0, if_neg (by simp [bandBad]; omega)]
  have s (hb : settleBad p = true) : ∃ (o : Unit), p.check = 1 ∧ True := ⟨(), by rw [e1, if_pos hb], trivial⟩
  have hm : 2 ≤ p.months.length := by
    have c2 : monthsOk p.months = true := by simpa using c2
    simp [monthsOk] at c2; omega
  refine Cv.cnd.mk (fun d6 => s (by have d6 : ¬ (p.settle.length : Int) = p.months.length := (by simpa using d6); simp [settleBad]; omega)) fun d6 => ?_
  have d6 : p.settle.length = p.months.length := by
    have : (p.settle.length : Int) = p.months.length := by simpa using d6
    omega
  refine ⟨p.settle, rfl, ⟨by omega, by omega⟩, fun _ _ => ⟨by (repeat' (first | exact rfl | exact trivial | assumption | apply And.intro | (refine fun (_ : Unit) (_ : True) => ?_) | (refine Exists.intro () ?_) | omega | (dsimp only; omega))), cndD (fun d7 => s (by simp [settleBad]; left; right; omega)) fun d7 => ⟨p.settle, rfl, ⟨by omega, by omega⟩, fun _ _ => ⟨by (repeat' (first | exact rfl | exact trivial | assumption | apply And.intro | (refine fun (_ : Unit) (_ : True) => ?_) | (refine Exists.intro () ?_) | omega | (dsimp only; omega))), cndD (fun d8 => s (by simp [settleBad]; right; omega)) fun d8 => ?_⟩⟩⟩⟩
  have e2 : p.check = if ruleBad p then 31 else if qtyBad p then 24 else 0 := by
    rw [e1, if_neg (by simp [settleBad]; omega)]
  have r (hb : ruleBad p = true) : ∃ (o : Unit), p.check = 31 ∧ True := ⟨(), by rw [e2, if_pos hb], trivial⟩
  refine cndD (fun d9 => r (by simp [ruleBad]; omega)) fun d9 => cndD (fun d10 => r (by simp [ruleBad]; omega)) fun d10 => ?_
  have e3 : p.check = if qtyBad p then 24 else 0 := by
    rw [e2, if_neg (by simp [ruleBad]; omega)]
  have q (hb : qtyBad p = true) : ∃ (o : Unit), p.check = 24 ∧ True := ⟨(), by rw [e3, if_pos hb], trivial⟩
  refine cndD (fun f1 => q (by simp [qtyBad]; omega)) fun f1 => cndD (fun f2 => q (by simp [qtyBad]; omega)) fun f2 => cndD (fun f3 => q (by simp [qtyBad]; omega)) fun f3 => cndD (fun f4 => q (by simp [qtyBad]; omega)) fun f4 => cndD (fun f5 => q (by simp [qtyBad]; omega)) fun f5 => cndD (fun f6 => q (by simp [qtyBad]; omega)) fun f6 => ?_
  exact ⟨(), by rw [e3, if_neg (by simp [qtyBad]; omega)], trivial⟩
theorem check_ok : checkC.ok Try.prog 27 := bycheck (gokc sym_ok (gokc months_ok (gokc ticks_ok (gokc min_ok (gokc max_ok gok0))))) vcheck

/-- What holds of a product that may be. -/
structure Prd.Ok (p : Prd) : Prop where
  sym : symOk p.code = true
  months : monthsOk p.months = true
  ticks : ticksOk p = true
  m2 : 2 ≤ p.months.length
  m6 : p.months.length ≤ 6
  t1 : 1 ≤ p.tick
  t2 : p.tick ≤ 1000
  b1 : -1000000 ≤ p.low
  b2 : p.low < p.high
  b3 : p.high ≤ 1000000
  b4 : 0 ≤ p.wide
  b5 : p.wide ≤ p.high - p.low
  s1 : p.settle.length = p.months.length
  s2 : p.low ≤ minL p.settle
  s3 : maxL p.settle ≤ p.high
  r1 : 1 ≤ p.rule
  r2 : p.rule ≤ 3
  q1 : 0 ≤ p.top
  q2 : p.top ≤ 1000000
  q3 : 1 ≤ p.least
  q4 : p.least ≤ 1000
  q5 : 0 ≤ p.part
  q6 : p.part ≤ 100
theorem check0 {p : Prd} (h : p.check = 0) : p.Ok := by
  unfold Prd.check at h
  split at h <;> first | (exfalso; revert h; decide) | skip
  rename_i c1
  split at h <;> first | (exfalso; revert h; decide) | skip
  rename_i c2
  split at h <;> first | (exfalso; revert h; decide) | skip
  rename_i c3
  split at h <;> first | (exfalso; revert h; decide) | skip
  rename_i c4
  split at h <;> first | (exfalso; revert h; decide) | skip
  rename_i c5
  split at h <;> first | (exfalso; revert h; decide) | skip
  rename_i c6
  split at h <;> first | (exfalso; revert h; decide) | skip
  rename_i c7
  simp only [Bool.not_eq_true', Bool.not_eq_false, Bool.not_eq_true] at c1 c2 c3
  have m := c2
  have t := c3
  simp [monthsOk] at m
  simp [ticksOk] at t
  simp [bandBad] at c4
  simp [settleBad] at c5
  simp [ruleBad] at c6
  simp [qtyBad] at c7
  exact ⟨c1, c2, c3, by omega, by omega, by omega, by omega, by omega, by omega, by omega, by omega, by omega, by omega, by omega, by omega, by omega, by omega, by omega, by omega, by omega, by omega, by omega, by omega⟩

theorem count_bd {n : Nat} (h : n ≤ 6) : n + n * (n - 1) / 2 ≤ 21 := by
  have : ∀ n ≤ 6, n + n * (n - 1) / 2 ≤ 21 := by decide
  exact this n h
theorem vpcount (p : Prd) (h : pcountC.cnd p) : Vpcount p := by
  obtain ⟨h1, h2, h3⟩ : p.small := h
  refine ⟨p, ?_⟩
  simp only [iE_len]
  (repeat' (first | exact rfl | exact trivial | assumption | apply And.intro | (refine fun (_ : Unit) (_ : True) => ?_) | (refine Exists.intro () ?_) | omega | (dsimp only; omega)))
  refine Cv.cnd.mk (fun c => ⟨(), by rw [Prd.count, if_neg (by simpa using c)]; rfl, trivial⟩) (fun c => ?_)
  have c : p.check = 0 := by simpa using c
  have ok := check0 c
  refine ⟨by (repeat' (first | exact rfl | exact trivial | assumption | apply And.intro | (refine fun (_ : Unit) (_ : True) => ?_) | (refine Exists.intro () ?_) | omega | (dsimp only; omega))), by decide, (), ?_, trivial⟩
  rw [Prd.count, if_pos c]
  obtain ⟨n, hn⟩ : ∃ n, p.months.length = n := ⟨_, rfl⟩
  have m2 := ok.m2
  have m6 := ok.m6
  rw [hn] at m2 m6 ⊢
  have : n = 2 ∨ n = 3 ∨ n = 4 ∨ n = 5 ∨ n = 6 := by omega
  rcases this with rfl | rfl | rfl | rfl | rfl <;> rfl
theorem pcount_ok : pcountC.ok Try.prog 28 := bypcount (gokc check_ok gok0) vpcount
theorem count_ne {p : Prd} (h : p.count ≠ 0) : p.check = 0 := by
  unfold Prd.count at h
  split at h
  · assumption
  · exact absurd rfl h
theorem count_le (p : Prd) : p.count ≤ 21 := by
  unfold Prd.count
  split
  · rename_i h; exact count_bd (check0 h).m6
  · omega

theorem first_bd {n m : Nat} (h : n ≤ 6) (hm : m ≤ n) : firstOf n m ≤ 21 := by
  have : ∀ n ≤ 6, ∀ m ≤ n, firstOf n m ≤ 21 := by decide
  exact this n h m hm
theorem vlegs (i : LegI) (h : legsC.cnd i) : Vlegs i := by
  obtain ⟨h1, h2, h3⟩ : i.p.small := h
  refine ⟨i.p, ?_⟩
  simp only [iE_len]
  (repeat' (first | exact rfl | exact trivial | assumption | apply And.intro | (refine fun (_ : Unit) (_ : True) => ?_) | (refine Exists.intro () ?_) | omega | (dsimp only; omega)))
  refine cndD (fun c1 => ?_) (fun c1 => cndD (fun c2 => ?_) (fun c2 => ?_))
  · rw [Prd.legs, if_pos (by omega)]; (repeat' (first | exact rfl | exact trivial | assumption | apply And.intro | (refine fun (_ : Unit) (_ : True) => ?_) | (refine Exists.intro () ?_) | omega | (dsimp only; omega)))
  · rw [Prd.legs, if_pos (by omega)]; (repeat' (first | exact rfl | exact trivial | assumption | apply And.intro | (refine fun (_ : Unit) (_ : True) => ?_) | (refine Exists.intro () ?_) | omega | (dsimp only; omega)))
  have c2 : ¬ i.n ≥ (i.p.count : Int) := c2
  have hc := count_le i.p
  have ok := check0 (count_ne (p := i.p) (by omega))
  have m6 := ok.m6
  refine cndD (fun c3 => ?_) (fun c3 => ?_)
  · rw [Prd.legs, if_neg (by omega), if_pos c3]; (repeat' (first | exact rfl | exact trivial | assumption | apply And.intro | (refine fun (_ : Unit) (_ : True) => ?_) | (refine Exists.intro () ?_) | omega | (dsimp only; omega)))
  have e0 : i.p.legs i.n = legsFrom i.p.months.length i.n.toNat i.p.months.length 0 := by
    rw [Prd.legs, if_neg (by omega), if_neg c3]
  rw [e0]
  generalize hn : i.p.months.length = n at c3 m6 ⊢
  obtain ⟨k, hk⟩ : ∃ k : Nat, i.n = k := ⟨i.n.toNat, by omega⟩
  rw [hk] at c2 c3 ⊢
  refine ⟨0, rfl, rfl, fun m => m ≤ n ∧ firstOf n m ≤ k ∧ legsFrom n k n 0 = legsFrom n k (n - m) m, fun m => n - m, ⟨by omega, by show n ≤ k; omega, rfl⟩, ?_⟩
  rintro m ⟨g1, g2, g3⟩
  have hf := first_bd m6 g1
  refine cndD (fun c4 => ?_) (fun c4 => ?_)
  · obtain ⟨r, hr⟩ : ∃ r, n - m = r + 1 := ⟨n - m - 1, by omega⟩
    have e1 : (k : Int).toNat = k := by omega
    rw [e1, g3, hr, w64 (x := (n : Int) - 1) (by omega), w64 (x := (n : Int) - 1 - m) (by omega), w64 (x := (firstOf n m : Int) + ((n : Int) - 1 - m)) (by omega), w64 (x := (m : Int) + 1) (by omega)]
    rw [hr] at g3
    refine cndD (fun c5 => ?_) (fun c5 => ?_)
    · rw [w64 (x := (m : Int) + 1 + k) (by omega), w64 (x := (m : Int) + 1 + k - (firstOf n m : Int)) (by omega), legsFrom, if_pos (by omega)]
      refine ⟨(), rfl, ?_, rfl, trivial⟩
      dsimp only; omega
    · refine ⟨m + 1, ?_, rfl, ⟨by omega, ?_, ?_⟩, by (first | omega | (dsimp only; omega)), by (repeat' (first | exact rfl | exact trivial | assumption | apply And.intro | (refine fun (_ : Unit) (_ : True) => ?_) | (refine Exists.intro () ?_) | omega | (dsimp only; omega)))⟩
      · rw [firstOf]; omega
      · rw [firstOf]; omega
      · rw [legsFrom, if_neg (by omega), show n - (m + 1) = r by omega]
  · have e1 : (k : Int).toNat = k := by omega
    rw [e1, g3, show n - m = 0 by omega]
    exact ⟨(), rfl, rfl, rfl, trivial⟩
theorem legs_ok : legsC.ok Try.prog 54 := bylegs (gokc pcount_ok gok0) vlegs

theorem vspread (i : SprI) (h : spreadC.cnd i) : Vspread i := by
  obtain ⟨h1, h2, h3⟩ : i.p.small := h
  refine ⟨i.p, ?_⟩
  simp only [iE_len]
  (repeat' (first | exact rfl | exact trivial | assumption | apply And.intro | (refine fun (_ : Unit) (_ : True) => ?_) | (refine Exists.intro () ?_) | omega | (dsimp only; omega)))
  have bad (hb : i.p.check ≠ 0 ∨ i.a < 0 ∨ i.b ≤ i.a ∨ (i.p.months.length : Int) ≤ i.b) : ∃ (o : Unit), (i.p.spread i.a i.b).fst = 0 ∧ (i.p.spread i.a i.b).snd = false ∧ True := ⟨(), by rw [Prd.spread, if_pos hb], by rw [Prd.spread, if_pos hb], trivial⟩
  refine Cv.cnd.mk (fun c1 => bad (.inl (by simpa using c1))) fun c1 => cndD (fun c2 => bad (by omega)) fun c2 => cndD (fun c3 => bad (by omega)) fun c3 => cndD (fun c4 => bad (by omega)) fun c4 => ?_
  have c1 : i.p.check = 0 := by simpa using c1
  have m6 := (check0 c1).m6
  rw [Prd.spread, if_neg (by omega)]
  generalize hn : i.p.months.length = n at c4 m6 ⊢
  obtain ⟨a, ha⟩ : ∃ k : Nat, i.a = k := ⟨i.a.toNat, by omega⟩
  rw [ha] at c3 ⊢
  refine ⟨0, rfl, rfl, fun m => m ≤ a, fun m => a - m, by omega, ?_⟩
  intro m hm
  have hm : m ≤ a := hm
  have hf := first_bd (m := m) m6 (by omega)
  refine cndD (fun c5 => ?_) (fun c5 => ?_)
  · rw [w64 (x := (n : Int) - 1) (by omega), w64 (x := (n : Int) - 1 - m) (by omega), w64 (x := (firstOf n m : Int) + ((n : Int) - 1 - m)) (by omega), w64 (x := (m : Int) + 1) (by omega)]
    refine ⟨m + 1, ?_, rfl, by omega, by (first | omega | (dsimp only; omega)), by (repeat' (first | exact rfl | exact trivial | assumption | apply And.intro | (refine fun (_ : Unit) (_ : True) => ?_) | (refine Exists.intro () ?_) | omega | (dsimp only; omega)))⟩
    rw [firstOf]; omega
  · obtain rfl : m = a := by omega
    rw [w64 (x := (firstOf n m : Int) + i.b) (by omega), w64 (x := (firstOf n m : Int) + i.b - m) (by omega), w64 (x := (firstOf n m : Int) + i.b - m - 1) (by omega)]
    exact ⟨(), rfl, rfl, trivial⟩
theorem spread_ok : spreadC.ok Try.prog 84 := byspread (gokc check_ok gok0) vspread

theorem vprice (i : SprI) (h : priceC.cnd i) : Vprice i := by
  obtain ⟨h1, h2, h3⟩ : i.p.small := h
  refine ⟨i.p, ?_⟩
  simp only [iE_len]
  (repeat' (first | exact rfl | exact trivial | assumption | apply And.intro | (refine fun (_ : Unit) (_ : True) => ?_) | (refine Exists.intro () ?_) | omega | (dsimp only; omega)))
  refine Cv.cnd.mk (fun c1 => ⟨(), by rw [Prd.price, if_pos (by have : (i.p.count : Int) = 0 := (by simpa using c1); omega)], trivial⟩) fun c1 => ?_
  have c1 : i.p.count ≠ 0 := by
    have : ¬ (i.p.count : Int) = 0 := by simpa using c1
    omega
  have e0 : i.p.price i.a i.b = if i.a < 0 ∨ (i.p.count : Int) ≤ i.a then 20 else if offB i.p.tick i.b then 22 else
      if i.b < (if (i.p.months.length : Int) ≤ i.a then -i.p.wide else i.p.low) ∨ (if (i.p.months.length : Int) ≤ i.a then i.p.wide else i.p.high) < i.b then 23 else 0 := by rw [Prd.price, if_neg c1]
  rw [e0]
  have ok := check0 (count_ne c1)
  obtain ⟨t1, b3, b1, b2, b4, b5⟩ := (⟨ok.t1, ok.b3, ok.b1, ok.b2, ok.b4, ok.b5⟩ : _ ∧ _ ∧ _ ∧ _ ∧ _ ∧ _)
  refine cndD (fun c2 => ⟨(), by rw [if_pos (.inl c2)], trivial⟩) fun c2 => cndD (fun c3 => ⟨(), by rw [if_pos (.inr c3)], trivial⟩) fun c3 => ⟨by (repeat' (first | exact rfl | exact trivial | assumption | apply And.intro | (refine fun (_ : Unit) (_ : True) => ?_) | (refine Exists.intro () ?_) | omega | (dsimp only; omega))), by omega, ?_⟩
  have c3 : ¬ i.a ≥ (i.p.count : Int) := c3
  rw [if_neg (by omega)]
  refine Cv.cnd.mk (fun c4 => ⟨(), if_pos c4, trivial⟩) fun c4 => ?_
  rw [if_neg (by rw [offB, c4]; simp), w64 (x := 0 - i.p.wide) (by omega)]
  refine cndD (fun c5 => ?_) (fun c5 => ?_)
  · have c5 : (i.p.months.length : Int) ≤ i.a := c5
    simp only [if_pos c5]
    refine cndD (fun c6 => ⟨(), if_pos (.inl (by omega)), trivial⟩) fun c6 => cndD (fun c7 => ⟨(), if_pos (.inr (by omega)), trivial⟩) fun c7 => ⟨(), if_neg (by omega), trivial⟩
  · have c5 : ¬ (i.p.months.length : Int) ≤ i.a := c5
    simp only [if_neg c5]
    refine cndD (fun c6 => ⟨(), if_pos (.inl (by omega)), trivial⟩) fun c6 => cndD (fun c7 => ⟨(), if_pos (.inr (by omega)), trivial⟩) fun c7 => ⟨(), if_neg (by omega), trivial⟩
theorem price_ok : priceC.ok Try.prog 40 := byprice (gokc pcount_ok gok0) vprice

theorem wrapE (x : Int) (h : -18446744073709551616 ≤ x ∧ x < 18446744073709551616) : (i64r x ∧ IntKind.i64.wrap x = x) ∨ (9223372036854775807 < x ∧ IntKind.i64.wrap x = x - 18446744073709551616) ∨ (x < -9223372036854775808 ∧ IntKind.i64.wrap x = x + 18446744073709551616) := by
  have e : IntKind.i64.wrap x = if (decide (x % 18446744073709551616 ≥ 9223372036854775808)) = true then x % 18446744073709551616 - 18446744073709551616 else x % 18446744073709551616 := by
    have : IntKind.i64.wrap x = if (true && decide (x % 18446744073709551616 ≥ 9223372036854775808)) = true then x % 18446744073709551616 - 18446744073709551616 else x % 18446744073709551616 := rfl
    rw [this, Bool.true_and]
  have e : IntKind.i64.wrap x = (x + 9223372036854775808) % 18446744073709551616 - 9223372036854775808 := by
    rw [e]
    by_cases h2 : x % 18446744073709551616 ≥ 9223372036854775808
    · rw [if_pos (decide_eq_true h2)]; omega
    · rw [if_neg (by simpa using h2)]; omega
  rw [e]
  by_cases h1 : i64r x
  · exact .inl ⟨h1, by unfold i64r at h1; omega⟩
  · unfold i64r at h1
    omega
theorem vadd (i : I2) (h : addC.cnd i) : Vadd i := by
  obtain ⟨⟨x1, x2⟩, y1, y2⟩ : i64r i.x ∧ i64r i.y := h
  have hw := wrapE (i.x + i.y) (by omega)
  unfold Vadd addP
  generalize IntKind.i64.wrap (i.x + i.y) = w at hw ⊢
  unfold i64r at hw ⊢
  refine Cv.cnd.mk (fun c1 => Cv.cnd.mk (fun c2 => ?_) (fun c2 => ?_)) (fun c1 => ?_)
  all_goals (simp at *)
  · rw [if_neg (by omega)]; (repeat' (first | exact rfl | exact trivial | assumption | apply And.intro | (refine fun (_ : Unit) (_ : True) => ?_) | (refine Exists.intro () ?_) | omega | (dsimp only; omega)))
  · rw [if_pos (by omega)]; refine ⟨?_, rfl⟩; dsimp only; omega
  · rw [if_pos (by omega)]; refine ⟨?_, rfl⟩; dsimp only; omega
theorem add_ok : addC.ok Try.prog 93 := byadd gok0 vadd
theorem vsub (i : I2) (h : subC.cnd i) : Vsub i := by
  obtain ⟨⟨x1, x2⟩, y1, y2⟩ : i64r i.x ∧ i64r i.y := h
  have hw := wrapE (i.x - i.y) (by omega)
  unfold Vsub subP
  generalize IntKind.i64.wrap (i.x - i.y) = w at hw ⊢
  unfold i64r at hw ⊢
  refine Cv.cnd.mk (fun c1 => Cv.cnd.mk (fun c2 => ?_) (fun c2 => ?_)) (fun c1 => ?_)
  all_goals (simp at *)
  · rw [if_neg (by omega)]; (repeat' (first | exact rfl | exact trivial | assumption | apply And.intro | (refine fun (_ : Unit) (_ : True) => ?_) | (refine Exists.intro () ?_) | omega | (dsimp only; omega)))
  · rw [if_pos (by omega)]; refine ⟨?_, rfl⟩; dsimp only; omega
  · rw [if_pos (by omega)]; refine ⟨?_, rfl⟩; dsimp only; omega
theorem sub_ok : subC.ok Try.prog 94 := bysub gok0 vsub

end Sx

namespace Sx
set_option linter.unusedVariables false
open Go Cv Go.Proofs

structure Slot where
  used : Bool
  n : Int
  id : Int
  qty : Int
  top : Bool
  queue : Int
  ahead : Int
  back : Int
  deriving DecidableEq
structure Queue where
  first : Int
  last : Int
  total : Int
  count : Int
  deriving DecidableEq
structure Arena where
  slots : List Slot
  queues : List Queue
  free : Int
  deriving DecidableEq
def slotE (s : Slot) : List D := [.v (.bool s.used), .v (.int .i64 s.n), .v (.int .i64 s.id), .v (.int .i64 s.qty), .v (.bool s.top), .v (.int .i64 s.queue), .v (.int .i64 s.ahead), .v (.int .i64 s.back)]
def queueE (q : Queue) : List D := [.v (.int .i64 q.first), .v (.int .i64 q.last), .v (.int .i64 q.total), .v (.int .i64 q.count)]
def slot0 : Slot := ⟨false, 0, 0, 0, false, 0, 0, 0⟩
def ArenaU (a : Arena) : Nat → AObj
  | 0 => .cells [.own 1, .own 2, i64V a.free] 147
  | 1 => .own 153 8 (a.slots.map slotE)
  | 2 => .own 157 4 (a.queues.map queueE)
  | _ => .gone
def ArenaR (a : Arena) : AObj := .adt Arena 3 ArenaU a

structure Rung where
  price : Int
  queue : Int
  deriving DecidableEq
structure Place where
  side : Int
  price : Int
  slot : Int
  deriving DecidableEq
structure Book where
  a : Arena
  buys : List Rung
  sells : List Rung
  at_ : List (Int × Place)
  top1 : Int
  top2 : Int
  spare : List Int
  has1 : Bool
  has2 : Bool
  deriving DecidableEq
def rungE (r : Rung) : List D := [.v (.int .i64 r.price), .v (.int .i64 r.queue)]
def placeE (p : Place) : List D := [.v (.int .i64 p.side), .v (.int .i64 p.price), .v (.int .i64 p.slot)]
def atE (l : List (Int × Place)) : List (Value × List D) := l.map fun x => (.int .i64 x.1, placeE x.2)
def BookU (b : Book) : Nat → AObj
  | 0 => .cells [.nm 1 0, .own 2, .own 3, .mp 4, i64V b.top1, i64V b.top2, .own 5, boolV b.has1, boolV b.has2] 124
  | 1 => ArenaR b.a
  | 2 => .own 130 2 (b.buys.map rungE)
  | 3 => .own 130 2 (b.sells.map rungE)
  | 4 => .map (atE b.at_)
  | 5 => .own 3 1 (iE b.spare)
  | _ => .gone
def BookR (b : Book) : AObj := .adt Book 6 BookU b

structure MSt where
  p : Prd
  books : List Book
  wh : List (Int × Int)
def mapE (l : List (Int × Int)) : List (Value × List D) := l.map fun x => (.int .i64 x.1, [.v (.int .i64 x.2)])
def StateU (s : MSt) : Nat → AObj
  | 0 => .cells [sV s.p.code, .own 3, i64V s.p.tick, i64V s.p.low, i64V s.p.high, i64V s.p.wide, i64V s.p.rule, i64V s.p.top, i64V s.p.least, i64V s.p.part, .own 4, .own 1, .mp 2] 84
  | 1 => .objs 85 Book 6 BookU s.books none
  | 2 => .map (mapE s.wh)
  | 3 => .fro 1 (iE s.p.months)
  | 4 => .fro 1 (iE s.p.settle)
  | _ => .gone
def StateR (s : MSt) : AObj := .adt MSt 5 StateU s

/-! ### New ones -/
def arena0 (n : Nat) : Arena := ⟨List.replicate n slot0, [], n⟩
def book0 : Book := ⟨arena0 250, [], [], [], 0, 0, [], false, false⟩
def newAC : Con := con1 Nat (fun n => [i64V n]) (fun _ => []) (fun n => 1 ≤ n ∧ n ≤ 4096) (fun _ => .tup [.nm 0 0, i64V 0]) (fun n => [ArenaR (arena0 n)])
def newBC : Con := con1 Unit (fun _ => []) (fun _ => []) (fun _ => True) (fun _ => .nm 0 0) (fun _ => [BookR book0])
def state0 (p : Prd) : MSt := ⟨p, List.replicate p.count book0, []⟩
/-- A product that may not be has none. -/
def newSC : Con where
  ι := Prd
  pat := fun p => [prdV p]
  pre := fun _ => []
  cnd := fun p => p.small
  alts := fun p => [{ o := Unit, res := fun _ => .tup [.nm 0 0, i64V 0], post := fun _ => [StateR (state0 p)], rel := fun _ => p.check = 0 }, { o := Unit, res := fun _ => .tup [.d (.v (.pointer none)), i64V p.check], post := fun _ => [], rel := fun _ => p.check ≠ 0 }]
def newSA (p : Prd) : List SAnn := [{ ι := Nat, slots := fun j => [(5, .nm 0 0), (27, i64V j)], rows := fun j => (List.range 5).map (StateU ⟨p, List.replicate j book0, []⟩) }]

/-! ### Copies -/
def clSlotC : Con := con1 (List Slot) (fun _ => [.own 0]) (fun l => [.own 153 8 (l.map slotE)]) (fun l => l.length ≤ 1000000) (fun _ => .own 1) (fun l => [.own 153 8 (l.map slotE), .own 153 8 (l.map slotE)])
def clQueueC : Con := con1 (List Queue) (fun _ => [.own 0]) (fun l => [.own 157 4 (l.map queueE)]) (fun l => l.length ≤ 1000000) (fun _ => .own 1) (fun l => [.own 157 4 (l.map queueE), .own 157 4 (l.map queueE)])
def clRungC : Con := con1 (List Rung) (fun _ => [.own 0]) (fun l => [.own 130 2 (l.map rungE)]) (fun l => l.length ≤ 1000000) (fun _ => .own 1) (fun l => [.own 130 2 (l.map rungE), .own 130 2 (l.map rungE)])
def clIntC : Con := con1 (List Int) (fun _ => [.own 0]) (fun l => [.own 3 1 (iE l)]) (fun l => l.length ≤ 1000000) (fun _ => .own 1) (fun l => [.own 3 1 (iE l), .own 3 1 (iE l)])
def clMapC (f : Nat) : Con := con1 (List (Value × List D)) (fun _ => [.mp 0]) (fun es => [.map es]) (fun _ => True) (fun _ => .mp 1) (fun es => [.map es, .map es])
def clAtC : Con := clMapC 0
def clWhC : Con := clMapC 1
@[reducible] def Arena.small (a : Arena) : Prop := a.slots.length ≤ 1000000 ∧ a.queues.length ≤ 1000000
@[reducible] def Book.small (b : Book) : Prop := b.a.small ∧ b.buys.length ≤ 1000000 ∧ b.sells.length ≤ 1000000 ∧ b.spare.length ≤ 1000000
@[reducible] def MSt.small (s : MSt) : Prop := s.books.length ≤ 1000000 ∧ ∀ b ∈ s.books, b.small
def copyAC : Con := con1 Arena (fun _ => [.nm 0 0]) (fun a => [ArenaR a]) Arena.small (fun _ => .nm 1 0) (fun a => [ArenaR a, ArenaR a])
def copyBC : Con := con1 Book (fun _ => [.nm 0 0]) (fun b => [BookR b]) Book.small (fun _ => .nm 1 0) (fun b => [BookR b, BookR b])
def copyBA : List SAnn := [{ ι := Unit, slots := fun _ => [], rows := fun _ => [], un := 3 }]
def copySC : Con := con1 MSt (fun _ => [.nm 0 0]) (fun s => [StateR s]) MSt.small (fun _ => .nm 1 0) (fun s => [StateR s, StateR s])

end Sx

namespace Sx
set_option linter.unusedVariables false
set_option maxRecDepth 100000
open Go Cv Go.Proofs
def VnewA (n : Nat) : Prop :=
  cnd (decide ((↑n : Int) < (1 : Int))) (∃ (o : Unit), False) (cnd (decide ((↑n : Int) > (4096 : Int))) (∃ (o : Unit), False) (((0 : Int) ≤ (↑n : Int) ∧ (↑n : Int) ≤ (↑n : Int) ∧ (↑n : Int) ≤ (9223372036854775807 : Int) ∧ (↑(64 : Nat) : Int) * (↑n : Int) ≤ (2 : Int) ^ (48 : Nat)) ∧ ∃ (o : Unit), (0 : Int) = (0 : Int) ∧ (↑n : Int) = (↑n : Int) ∧ List.map slotE (List.replicate n slot0) = List.replicate (↑n : Int).toNat [D.v (.bool false), D.v (.int .i64 0), D.v (.int .i64 0), D.v (.int .i64 0), D.v (.bool false), D.v (.int .i64 0), D.v (.int .i64 0), D.v (.int .i64 0)] ∧ ([] : List (List D)) = [] ∧ True))
theorem eqnewA (n : Nat) : VnewA n = walk Try.prog ([]) 0 ([]) ([]) [] Try.f56 (Try.f56.body.getD .skip) (newAC.pat n) (newAC.pre n) (newAC.alts n) := by kernel_rfl

theorem bynewA (hG : GOk Try.prog ([])) (h : ∀ (n : Nat), newAC.cnd n → VnewA n) : newAC.ok Try.prog 56 := ok_of_walk mixed ([]) hG 0 (fun (n : Nat) => []) (fun (n : Nat) => []) [] Try.func56 (by kernel_rfl) (by kernel_rfl) (by kernel_rfl) (fun _ => by kernel_rfl) (fun (n : Nat) hc => Eq.mp (eqnewA n) (h n hc))

def VnewB (u : Unit) : Prop :=
  ∃ (i : Nat), (↑i : Int) = (250 : Int) ∧ ((1 : Nat) ≤ i ∧ i ≤ (4096 : Nat)) ∧ ∀ (o : Unit), True → ∃ (o : Unit), (0 : Int) = (0 : Int) ∧ (0 : Int) = (0 : Int) ∧ false = false ∧ false = false ∧ AObj.adt Arena (3 : Nat) ArenaU (arena0 (250 : Nat)) = AObj.adt Arena (3 : Nat) ArenaU (arena0 i) ∧ ([] : List (List D)) = [] ∧ ([] : List (List D)) = [] ∧ atE [] = [] ∧ iE [] = [] ∧ True
theorem eqnewB (u : Unit) : VnewB u = walk Try.prog ([(56, newAC)]) 0 ([]) ([]) [] Try.f38 (Try.f38.body.getD .skip) (newBC.pat u) (newBC.pre u) (newBC.alts u) := by kernel_rfl

theorem bynewB (hG : GOk Try.prog ([(56, newAC)])) (h : ∀ (u : Unit), newBC.cnd u → VnewB u) : newBC.ok Try.prog 38 := ok_of_walk mixed ([(56, newAC)]) hG 0 (fun (u : Unit) => []) (fun (u : Unit) => []) [] Try.func38 (by kernel_rfl) (by kernel_rfl) (by kernel_rfl) (fun _ => by kernel_rfl) (fun (u : Unit) hc => Eq.mp (eqnewB u) (h u hc))

@[reducible] def VnewSr0 (p : Prd) : AObj := Sx.AObj.cells [V.d (D.v (Value.string (sb p.code))), V.own ((0 : Nat) + (1 : Nat) + (1 : Nat) + (1 : Nat) + ((0 : Nat) - (0 : Nat)) + (1 : Nat)), V.d (D.v (.int .i64 p.tick)), V.d (D.v (.int .i64 p.low)), V.d (D.v (.int .i64 p.high)), V.d (D.v (.int .i64 p.wide)), V.d (D.v (.int .i64 p.rule)), V.d (D.v (.int .i64 p.top)), V.d (D.v (.int .i64 p.least)), V.d (D.v (.int .i64 p.part)), V.own ((0 : Nat) + (1 : Nat) + (1 : Nat) + (1 : Nat) + ((0 : Nat) - (0 : Nat)) + (1 : Nat) + (1 : Nat) + (1 : Nat))] (25 : Nat)
@[reducible] def VnewSr1 (p : Prd) : AObj := Sx.AObj.cells [V.d (D.v (Value.string (sb p.code))), V.own ((0 : Nat) + (1 : Nat) + (1 : Nat) + (1 : Nat) + ((0 : Nat) - (0 : Nat)) + (1 : Nat) + (1 : Nat)), V.d (D.v (.int .i64 p.tick)), V.d (D.v (.int .i64 p.low)), V.d (D.v (.int .i64 p.high)), V.d (D.v (.int .i64 p.wide)), V.d (D.v (.int .i64 p.rule)), V.d (D.v (.int .i64 p.top)), V.d (D.v (.int .i64 p.least)), V.d (D.v (.int .i64 p.part)), V.own ((0 : Nat) + (1 : Nat) + (1 : Nat) + (1 : Nat) + ((0 : Nat) - (0 : Nat)) + (1 : Nat) + (1 : Nat) + (1 : Nat))] (25 : Nat)
def VnewS (p : Prd) : Prop :=
  ∃ (i : Prd), sb i.code = sb p.code ∧ iE i.months = iE p.months ∧ i.tick = p.tick ∧ i.low = p.low ∧ i.high = p.high ∧ i.wide = p.wide ∧ i.rule = p.rule ∧ i.top = p.top ∧ i.least = p.least ∧ i.part = p.part ∧ iE i.settle = iE p.settle ∧ (i.code.length ≤ (1099511627776 : Nat) ∧ i.months.length ≤ (1099511627776 : Nat) ∧ i.settle.length ≤ (1099511627776 : Nat)) ∧ ∀ (o : Unit), True → cnd (i.check != (0 : Int)) ((∃ (o : Unit), False) ∨ ∃ (o : Unit), True ∧ p.check = i.check ∧ (p.check = (0 : Int) → False)) ((True ∧ True ∧ (((0 : Nat) + (iE p.months).length) * (8 : Nat) ≤ (70368744177664 : Nat) ∧ True ∧ True ∧ ((0 : Nat) + (iE p.settle).length) * (8 : Nat) ≤ (70368744177664 : Nat) ∧ ∃ (i : Prd), sb i.code = sb p.code ∧ iE i.months = [] ++ iE p.months ∧ i.tick = p.tick ∧ i.low = p.low ∧ i.high = p.high ∧ i.wide = p.wide ∧ i.rule = p.rule ∧ i.top = p.top ∧ i.least = p.least ∧ i.part = p.part ∧ iE i.settle = [] ++ iE p.settle ∧ (i.code.length ≤ (1099511627776 : Nat) ∧ i.months.length ≤ (1099511627776 : Nat) ∧ i.settle.length ≤ (1099511627776 : Nat)) ∧ ∀ (o : Unit), True → ∃ (i0 : Nat), (↑i0 : Int) = (0 : Int) ∧ sb p.code = sb p.code ∧ p.tick = p.tick ∧ p.low = p.low ∧ p.high = p.high ∧ p.wide = p.wide ∧ p.rule = p.rule ∧ p.top = p.top ∧ p.least = p.least ∧ p.part = p.part ∧ List.replicate i0 book0 = [] ∧ (none : Option Nat) = none ∧ mapE [] = [] ∧ AObj.fro (1 : Nat) (iE p.months) = AObj.fro (1 : Nat) ([] ++ iE p.months) ∧ AObj.fro (1 : Nat) (iE p.settle) = AObj.fro (1 : Nat) ([] ++ iE p.settle) ∧ ∃ (I : Nat → Prop), ∃ (μ : Nat → Nat), I i0 ∧ ∀ (i_1 : Nat), I i_1 → cnd (decide ((↑i_1 : Int) < (↑i.count : Int))) (∃ (i : Unit), True ∧ ∀ (o : Unit), True → True ∧ True ∧ ∃ (l1' : List Book), AObj.objs (85 : Nat) Book (6 : Nat) BookU (List.replicate i_1 book0) none = AObj.objs (85 : Nat) Book (6 : Nat) BookU l1' none ∧ (l1'.length + (1 : Nat)) * (8 : Nat) ≤ (70368744177664 : Nat) ∧ ∃ (i' : Nat), (↑i' : Int) = IntKind.i64.wrap ((↑i_1 : Int) + (1 : Int)) ∧ sb p.code = sb p.code ∧ p.tick = p.tick ∧ p.low = p.low ∧ p.high = p.high ∧ p.wide = p.wide ∧ p.rule = p.rule ∧ p.top = p.top ∧ p.least = p.least ∧ p.part = p.part ∧ AObj.objs (85 : Nat) Book (6 : Nat) BookU (List.replicate i' book0) none = AObj.objs (85 : Nat) Book (6 : Nat) BookU (l1' ++ [book0]) none ∧ mapE [] = mapE [] ∧ AObj.fro (1 : Nat) (iE p.months) = AObj.fro (1 : Nat) (iE p.months) ∧ AObj.fro (1 : Nat) (iE p.settle) = AObj.fro (1 : Nat) (iE p.settle) ∧ I i' ∧ μ i' < μ i_1 ∧ AObj.fro (1 : Nat) ([] ++ iE p.settle) = AObj.fro (1 : Nat) ([] ++ iE p.settle) ∧ AObj.fro (1 : Nat) ([] ++ iE p.months) = AObj.fro (1 : Nat) ([] ++ iE p.months) ∧ VnewSr0 p = VnewSr0 p ∧ AObj.fro (1 : Nat) (iE p.settle) = AObj.fro (1 : Nat) (iE p.settle) ∧ AObj.fro (1 : Nat) (iE p.months) = AObj.fro (1 : Nat) (iE p.months)) ((∃ (o : Unit), (0 : Int) = (0 : Int) ∧ sb p.code = sb p.code ∧ p.tick = p.tick ∧ p.low = p.low ∧ p.high = p.high ∧ p.wide = p.wide ∧ p.rule = p.rule ∧ p.top = p.top ∧ p.least = p.least ∧ p.part = p.part ∧ AObj.objs (85 : Nat) Book (6 : Nat) BookU (List.replicate p.count book0) none = AObj.objs (85 : Nat) Book (6 : Nat) BookU (List.replicate i_1 book0) none ∧ mapE [] = mapE [] ∧ AObj.fro (1 : Nat) (iE p.months) = AObj.fro (1 : Nat) (iE p.months) ∧ AObj.fro (1 : Nat) (iE p.settle) = AObj.fro (1 : Nat) (iE p.settle) ∧ p.check = (0 : Int)) ∨ ∃ (o : Unit), False)) ∧ True ∧ True ∧ ((0 : Nat) + (iE p.months).length) * (8 : Nat) ≤ (70368744177664 : Nat) ∧ True ∧ ((0 : Nat) + (iE p.settle).length) * (8 : Nat) ≤ (70368744177664 : Nat) ∧ ∃ (i : Prd), sb i.code = sb p.code ∧ iE i.months = [] ++ iE p.months ∧ i.tick = p.tick ∧ i.low = p.low ∧ i.high = p.high ∧ i.wide = p.wide ∧ i.rule = p.rule ∧ i.top = p.top ∧ i.least = p.least ∧ i.part = p.part ∧ iE i.settle = [] ++ iE p.settle ∧ (i.code.length ≤ (1099511627776 : Nat) ∧ i.months.length ≤ (1099511627776 : Nat) ∧ i.settle.length ≤ (1099511627776 : Nat)) ∧ ∀ (o : Unit), True → ∃ (i0 : Nat), (↑i0 : Int) = (0 : Int) ∧ sb p.code = sb p.code ∧ p.tick = p.tick ∧ p.low = p.low ∧ p.high = p.high ∧ p.wide = p.wide ∧ p.rule = p.rule ∧ p.top = p.top ∧ p.least = p.least ∧ p.part = p.part ∧ List.replicate i0 book0 = [] ∧ (none : Option Nat) = none ∧ mapE [] = [] ∧ AObj.fro (1 : Nat) (iE p.months) = AObj.fro (1 : Nat) ([] ++ iE p.months) ∧ AObj.fro (1 : Nat) (iE p.settle) = AObj.fro (1 : Nat) ([] ++ iE p.settle) ∧ ∃ (I : Nat → Prop), ∃ (μ : Nat → Nat), I i0 ∧ ∀ (i_1 : Nat), I i_1 → cnd (decide ((↑i_1 : Int) < (↑i.count : Int))) (∃ (i : Unit), True ∧ ∀ (o : Unit), True → True ∧ True ∧ ∃ (l1' : List Book), AObj.objs (85 : Nat) Book (6 : Nat) BookU (List.replicate i_1 book0) none = AObj.objs (85 : Nat) Book (6 : Nat) BookU l1' none ∧ (l1'.length + (1 : Nat)) * (8 : Nat) ≤ (70368744177664 : Nat) ∧ ∃ (i' : Nat), (↑i' : Int) = IntKind.i64.wrap ((↑i_1 : Int) + (1 : Int)) ∧ sb p.code = sb p.code ∧ p.tick = p.tick ∧ p.low = p.low ∧ p.high = p.high ∧ p.wide = p.wide ∧ p.rule = p.rule ∧ p.top = p.top ∧ p.least = p.least ∧ p.part = p.part ∧ AObj.objs (85 : Nat) Book (6 : Nat) BookU (List.replicate i' book0) none = AObj.objs (85 : Nat) Book (6 : Nat) BookU (l1' ++ [book0]) none ∧ mapE [] = mapE [] ∧ AObj.fro (1 : Nat) (iE p.months) = AObj.fro (1 : Nat) (iE p.months) ∧ AObj.fro (1 : Nat) (iE p.settle) = AObj.fro (1 : Nat) (iE p.settle) ∧ I i' ∧ μ i' < μ i_1 ∧ AObj.fro (1 : Nat) ([] ++ iE p.settle) = AObj.fro (1 : Nat) ([] ++ iE p.settle) ∧ AObj.fro (1 : Nat) ([] ++ iE p.months) = AObj.fro (1 : Nat) ([] ++ iE p.months) ∧ VnewSr1 p = VnewSr1 p ∧ AObj.fro (1 : Nat) (iE p.settle) = AObj.fro (1 : Nat) (iE p.settle) ∧ AObj.fro (1 : Nat) (iE p.months) = AObj.fro (1 : Nat) (iE p.months)) ((∃ (o : Unit), (0 : Int) = (0 : Int) ∧ sb p.code = sb p.code ∧ p.tick = p.tick ∧ p.low = p.low ∧ p.high = p.high ∧ p.wide = p.wide ∧ p.rule = p.rule ∧ p.top = p.top ∧ p.least = p.least ∧ p.part = p.part ∧ AObj.objs (85 : Nat) Book (6 : Nat) BookU (List.replicate p.count book0) none = AObj.objs (85 : Nat) Book (6 : Nat) BookU (List.replicate i_1 book0) none ∧ mapE [] = mapE [] ∧ AObj.fro (1 : Nat) (iE p.months) = AObj.fro (1 : Nat) (iE p.months) ∧ AObj.fro (1 : Nat) (iE p.settle) = AObj.fro (1 : Nat) (iE p.settle) ∧ p.check = (0 : Int)) ∨ ∃ (o : Unit), False)) ∧ True ∧ True ∧ True ∧ True ∧ ((0 : Nat) + (iE p.months).length) * (8 : Nat) ≤ (70368744177664 : Nat) ∧ True ∧ ((0 : Nat) + (iE p.settle).length) * (8 : Nat) ≤ (70368744177664 : Nat) ∧ ∃ (i : Prd), sb i.code = sb p.code ∧ iE i.months = [] ++ iE p.months ∧ i.tick = p.tick ∧ i.low = p.low ∧ i.high = p.high ∧ i.wide = p.wide ∧ i.rule = p.rule ∧ i.top = p.top ∧ i.least = p.least ∧ i.part = p.part ∧ iE i.settle = [] ++ iE p.settle ∧ (i.code.length ≤ (1099511627776 : Nat) ∧ i.months.length ≤ (1099511627776 : Nat) ∧ i.settle.length ≤ (1099511627776 : Nat)) ∧ ∀ (o : Unit), True → ∃ (i0 : Nat), (↑i0 : Int) = (0 : Int) ∧ sb p.code = sb p.code ∧ p.tick = p.tick ∧ p.low = p.low ∧ p.high = p.high ∧ p.wide = p.wide ∧ p.rule = p.rule ∧ p.top = p.top ∧ p.least = p.least ∧ p.part = p.part ∧ List.replicate i0 book0 = [] ∧ (none : Option Nat) = none ∧ mapE [] = [] ∧ AObj.fro (1 : Nat) (iE p.months) = AObj.fro (1 : Nat) ([] ++ iE p.months) ∧ AObj.fro (1 : Nat) (iE p.settle) = AObj.fro (1 : Nat) ([] ++ iE p.settle) ∧ ∃ (I : Nat → Prop), ∃ (μ : Nat → Nat), I i0 ∧ ∀ (i_1 : Nat), I i_1 → cnd (decide ((↑i_1 : Int) < (↑i.count : Int))) (∃ (i : Unit), True ∧ ∀ (o : Unit), True → True ∧ True ∧ ∃ (l1' : List Book), AObj.objs (85 : Nat) Book (6 : Nat) BookU (List.replicate i_1 book0) none = AObj.objs (85 : Nat) Book (6 : Nat) BookU l1' none ∧ (l1'.length + (1 : Nat)) * (8 : Nat) ≤ (70368744177664 : Nat) ∧ ∃ (i' : Nat), (↑i' : Int) = IntKind.i64.wrap ((↑i_1 : Int) + (1 : Int)) ∧ sb p.code = sb p.code ∧ p.tick = p.tick ∧ p.low = p.low ∧ p.high = p.high ∧ p.wide = p.wide ∧ p.rule = p.rule ∧ p.top = p.top ∧ p.least = p.least ∧ p.part = p.part ∧ AObj.objs (85 : Nat) Book (6 : Nat) BookU (List.replicate i' book0) none = AObj.objs (85 : Nat) Book (6 : Nat) BookU (l1' ++ [book0]) none ∧ mapE [] = mapE [] ∧ AObj.fro (1 : Nat) (iE p.months) = AObj.fro (1 : Nat) (iE p.months) ∧ AObj.fro (1 : Nat) (iE p.settle) = AObj.fro (1 : Nat) (iE p.settle) ∧ I i' ∧ μ i' < μ i_1 ∧ AObj.fro (1 : Nat) ([] ++ iE p.settle) = AObj.fro (1 : Nat) ([] ++ iE p.settle) ∧ AObj.fro (1 : Nat) ([] ++ iE p.months) = AObj.fro (1 : Nat) ([] ++ iE p.months) ∧ VnewSr1 p = VnewSr1 p ∧ AObj.fro (1 : Nat) (iE p.settle) = AObj.fro (1 : Nat) (iE p.settle) ∧ AObj.fro (1 : Nat) (iE p.months) = AObj.fro (1 : Nat) (iE p.months)) ((∃ (o : Unit), (0 : Int) = (0 : Int) ∧ sb p.code = sb p.code ∧ p.tick = p.tick ∧ p.low = p.low ∧ p.high = p.high ∧ p.wide = p.wide ∧ p.rule = p.rule ∧ p.top = p.top ∧ p.least = p.least ∧ p.part = p.part ∧ AObj.objs (85 : Nat) Book (6 : Nat) BookU (List.replicate p.count book0) none = AObj.objs (85 : Nat) Book (6 : Nat) BookU (List.replicate i_1 book0) none ∧ mapE [] = mapE [] ∧ AObj.fro (1 : Nat) (iE p.months) = AObj.fro (1 : Nat) (iE p.months) ∧ AObj.fro (1 : Nat) (iE p.settle) = AObj.fro (1 : Nat) (iE p.settle) ∧ p.check = (0 : Int)) ∨ ∃ (o : Unit), False))
theorem eqnewS (p : Prd) : VnewS p = walk Try.prog ([(27, checkC), (28, pcountC), (38, newBC)]) 0 ([]) (newSA p) [] Try.f15 (Try.f15.body.getD .skip) (newSC.pat p) (newSC.pre p) (newSC.alts p) := by kernel_rfl

theorem bynewS (hG : GOk Try.prog ([(27, checkC), (28, pcountC), (38, newBC)])) (h : ∀ (p : Prd), newSC.cnd p → VnewS p) : newSC.ok Try.prog 15 := ok_of_walk mixed ([(27, checkC), (28, pcountC), (38, newBC)]) hG 0 (fun (p : Prd) => []) (fun (p : Prd) => newSA p) [] Try.func15 (by kernel_rfl) (by kernel_rfl) (by kernel_rfl) (fun _ => by kernel_rfl) (fun (p : Prd) hc => Eq.mp (eqnewS p) (h p hc))

def VclSlot (l : List Slot) : Prop :=
  ∀ (b : Bool), (b = true → List.map slotE l = []) → cnd b (∃ (o : Unit), List.map slotE l = List.map slotE l ∧ List.map slotE l = [] ∧ True) (((0 : Nat) + (List.map slotE l).length) * (64 : Nat) ≤ (70368744177664 : Nat) ∧ ∃ (o : Unit), List.map slotE l = List.map slotE l ∧ List.map slotE l = [] ++ List.map slotE l ∧ True)
theorem eqclSlot (l : List Slot) : VclSlot l = walk Try.prog ([]) 0 ([]) ([]) [] Try.f95 (Try.f95.body.getD .skip) (clSlotC.pat l) (clSlotC.pre l) (clSlotC.alts l) := by kernel_rfl

theorem byclSlot (hG : GOk Try.prog ([])) (h : ∀ (l : List Slot), clSlotC.cnd l → VclSlot l) : clSlotC.ok Try.prog 95 := ok_of_walk mixed ([]) hG 0 (fun (l : List Slot) => []) (fun (l : List Slot) => []) [] Try.func95 (by kernel_rfl) (by kernel_rfl) (by kernel_rfl) (fun _ => by kernel_rfl) (fun (l : List Slot) hc => Eq.mp (eqclSlot l) (h l hc))

def VclQueue (l : List Queue) : Prop :=
  ∀ (b : Bool), (b = true → List.map queueE l = []) → cnd b (∃ (o : Unit), List.map queueE l = List.map queueE l ∧ List.map queueE l = [] ∧ True) (((0 : Nat) + (List.map queueE l).length) * (32 : Nat) ≤ (70368744177664 : Nat) ∧ ∃ (o : Unit), List.map queueE l = List.map queueE l ∧ List.map queueE l = [] ++ List.map queueE l ∧ True)
theorem eqclQueue (l : List Queue) : VclQueue l = walk Try.prog ([]) 0 ([]) ([]) [] Try.f96 (Try.f96.body.getD .skip) (clQueueC.pat l) (clQueueC.pre l) (clQueueC.alts l) := by kernel_rfl

theorem byclQueue (hG : GOk Try.prog ([])) (h : ∀ (l : List Queue), clQueueC.cnd l → VclQueue l) : clQueueC.ok Try.prog 96 := ok_of_walk mixed ([]) hG 0 (fun (l : List Queue) => []) (fun (l : List Queue) => []) [] Try.func96 (by kernel_rfl) (by kernel_rfl) (by kernel_rfl) (fun _ => by kernel_rfl) (fun (l : List Queue) hc => Eq.mp (eqclQueue l) (h l hc))

def VclRung (l : List Rung) : Prop :=
  ∀ (b : Bool), (b = true → List.map rungE l = []) → cnd b (∃ (o : Unit), List.map rungE l = List.map rungE l ∧ List.map rungE l = [] ∧ True) (((0 : Nat) + (List.map rungE l).length) * (16 : Nat) ≤ (70368744177664 : Nat) ∧ ∃ (o : Unit), List.map rungE l = List.map rungE l ∧ List.map rungE l = [] ++ List.map rungE l ∧ True)
theorem eqclRung (l : List Rung) : VclRung l = walk Try.prog ([]) 0 ([]) ([]) [] Try.f89 (Try.f89.body.getD .skip) (clRungC.pat l) (clRungC.pre l) (clRungC.alts l) := by kernel_rfl

theorem byclRung (hG : GOk Try.prog ([])) (h : ∀ (l : List Rung), clRungC.cnd l → VclRung l) : clRungC.ok Try.prog 89 := ok_of_walk mixed ([]) hG 0 (fun (l : List Rung) => []) (fun (l : List Rung) => []) [] Try.func89 (by kernel_rfl) (by kernel_rfl) (by kernel_rfl) (fun _ => by kernel_rfl) (fun (l : List Rung) hc => Eq.mp (eqclRung l) (h l hc))

def VclInt (l : List Int) : Prop :=
  ∀ (b : Bool), (b = true → iE l = []) → cnd b (∃ (o : Unit), iE l = iE l ∧ iE l = [] ∧ True) (((0 : Nat) + (iE l).length) * (8 : Nat) ≤ (70368744177664 : Nat) ∧ ∃ (o : Unit), iE l = iE l ∧ iE l = [] ++ iE l ∧ True)
theorem eqclInt (l : List Int) : VclInt l = walk Try.prog ([]) 0 ([]) ([]) [] Try.f29 (Try.f29.body.getD .skip) (clIntC.pat l) (clIntC.pre l) (clIntC.alts l) := by kernel_rfl

theorem byclInt (hG : GOk Try.prog ([])) (h : ∀ (l : List Int), clIntC.cnd l → VclInt l) : clIntC.ok Try.prog 29 := ok_of_walk mixed ([]) hG 0 (fun (l : List Int) => []) (fun (l : List Int) => []) [] Try.func29 (by kernel_rfl) (by kernel_rfl) (by kernel_rfl) (fun _ => by kernel_rfl) (fun (l : List Int) hc => Eq.mp (eqclInt l) (h l hc))

def VclAt (es : List (Value × List D)) : Prop :=
  ∃ (i : List (Value × List D)), i = es ∧ True ∧ ∀ (o : Unit), True → ∃ (o : Unit), es = i ∧ es = i ∧ True
theorem eqclAt (es : List (Value × List D)) : VclAt es = walk Try.prog ([(86, mcloneX 120)]) 0 ([]) ([]) [] Try.f88 (Try.f88.body.getD .skip) (clAtC.pat es) (clAtC.pre es) (clAtC.alts es) := by kernel_rfl

theorem byclAt (hG : GOk Try.prog ([(86, mcloneX 120)])) (h : ∀ (es : List (Value × List D)), clAtC.cnd es → VclAt es) : clAtC.ok Try.prog 88 := ok_of_walk mixed ([(86, mcloneX 120)]) hG 0 (fun (es : List (Value × List D)) => []) (fun (es : List (Value × List D)) => []) [] Try.func88 (by kernel_rfl) (by kernel_rfl) (by kernel_rfl) (fun _ => by kernel_rfl) (fun (es : List (Value × List D)) hc => Eq.mp (eqclAt es) (h es hc))

def VclWh (es : List (Value × List D)) : Prop :=
  ∃ (i : List (Value × List D)), i = es ∧ True ∧ ∀ (o : Unit), True → ∃ (o : Unit), es = i ∧ es = i ∧ True
theorem eqclWh (es : List (Value × List D)) : VclWh es = walk Try.prog ([(86, mcloneX 71)]) 0 ([]) ([]) [] Try.f71 (Try.f71.body.getD .skip) (clWhC.pat es) (clWhC.pre es) (clWhC.alts es) := by kernel_rfl

theorem byclWh (hG : GOk Try.prog ([(86, mcloneX 71)])) (h : ∀ (es : List (Value × List D)), clWhC.cnd es → VclWh es) : clWhC.ok Try.prog 71 := ok_of_walk mixed ([(86, mcloneX 71)]) hG 0 (fun (es : List (Value × List D)) => []) (fun (es : List (Value × List D)) => []) [] Try.func71 (by kernel_rfl) (by kernel_rfl) (by kernel_rfl) (fun _ => by kernel_rfl) (fun (es : List (Value × List D)) hc => Eq.mp (eqclWh es) (h es hc))

def VcopyA (a : Arena) : Prop :=
  ∃ (i : List Slot), List.map slotE i = List.map slotE a.slots ∧ i.length ≤ (1000000 : Nat) ∧ ∀ (o : Unit), True → a.free = a.free ∧ True ∧ ∃ (i_1 : List Queue), List.map queueE i_1 = List.map queueE a.queues ∧ i_1.length ≤ (1000000 : Nat) ∧ ∀ (o : Unit), True → a.free = a.free ∧ ∃ (o : Unit), a.free = a.free ∧ List.map slotE a.slots = List.map slotE i ∧ List.map queueE a.queues = List.map queueE i_1 ∧ a.free = a.free ∧ List.map slotE a.slots = List.map slotE i ∧ List.map queueE a.queues = List.map queueE i_1 ∧ True
theorem eqcopyA (a : Arena) : VcopyA a = walk Try.prog ([(95, clSlotC), (96, clQueueC)]) 0 ([]) ([]) [0] Try.f87 (Try.f87.body.getD .skip) (copyAC.pat a) (copyAC.pre a) (copyAC.alts a) := by kernel_rfl

theorem bycopyA (hG : GOk Try.prog ([(95, clSlotC), (96, clQueueC)])) (h : ∀ (a : Arena), copyAC.cnd a → VcopyA a) : copyAC.ok Try.prog 87 := ok_of_walk mixed ([(95, clSlotC), (96, clQueueC)]) hG 0 (fun (a : Arena) => []) (fun (a : Arena) => []) [0] Try.func87 (by kernel_rfl) (by kernel_rfl) (by kernel_rfl) (fun _ => by kernel_rfl) (fun (a : Arena) hc => Eq.mp (eqcopyA a) (h a hc))

def VcopyB (b : Book) : Prop :=
  ∃ (i : Arena), AObj.adt Arena (3 : Nat) ArenaU i = AObj.adt Arena (3 : Nat) ArenaU b.a ∧ (i.slots.length ≤ (1000000 : Nat) ∧ i.queues.length ≤ (1000000 : Nat)) ∧ ∀ (o : Unit), True → True ∧ True ∧ ∃ (i_1 : List (Value × List D)), i_1 = atE b.at_ ∧ True ∧ ∀ (o : Unit), True → True ∧ ∃ (i_2 : List Int), iE i_2 = iE b.spare ∧ i_2.length ≤ (1000000 : Nat) ∧ ∀ (o : Unit), True → ∃ (i_3 : List Rung), List.map rungE i_3 = List.map rungE b.buys ∧ i_3.length ≤ (1000000 : Nat) ∧ ∀ (o : Unit), True → ∃ (i_4 : List Rung), List.map rungE i_4 = List.map rungE b.sells ∧ i_4.length ≤ (1000000 : Nat) ∧ ∀ (o : Unit), True → ∃ (o : Unit), b.top1 = b.top1 ∧ b.top2 = b.top2 ∧ b.has1 = b.has1 ∧ b.has2 = b.has2 ∧ AObj.adt Arena (3 : Nat) ArenaU b.a = AObj.adt Arena (3 : Nat) ArenaU i ∧ List.map rungE b.buys = List.map rungE i_3 ∧ List.map rungE b.sells = List.map rungE i_4 ∧ atE b.at_ = i_1 ∧ iE b.spare = iE i_2 ∧ b.top1 = b.top1 ∧ b.top2 = b.top2 ∧ b.has1 = b.has1 ∧ b.has2 = b.has2 ∧ AObj.adt Arena (3 : Nat) ArenaU b.a = AObj.adt Arena (3 : Nat) ArenaU i ∧ List.map rungE b.buys = List.map rungE i_3 ∧ List.map rungE b.sells = List.map rungE i_4 ∧ atE b.at_ = i_1 ∧ iE b.spare = iE i_2 ∧ True
theorem eqcopyB (b : Book) : VcopyB b = walk Try.prog ([(87, copyAC), (88, clAtC), (29, clIntC), (89, clRungC)]) 0 ([]) (copyBA) [0] Try.f72 (Try.f72.body.getD .skip) (copyBC.pat b) (copyBC.pre b) (copyBC.alts b) := by kernel_rfl

theorem bycopyB (hG : GOk Try.prog ([(87, copyAC), (88, clAtC), (29, clIntC), (89, clRungC)])) (h : ∀ (b : Book), copyBC.cnd b → VcopyB b) : copyBC.ok Try.prog 72 := ok_of_walk mixed ([(87, copyAC), (88, clAtC), (29, clIntC), (89, clRungC)]) hG 0 (fun (b : Book) => []) (fun (b : Book) => copyBA) [0] Try.func72 (by kernel_rfl) (by kernel_rfl) (by kernel_rfl) (fun _ => by kernel_rfl) (fun (b : Book) hc => Eq.mp (eqcopyB b) (h b hc))

end Sx

namespace Sx
set_option linter.unusedVariables false
set_option linter.unusedSimpArgs false
set_option maxRecDepth 100000
open Go Cv Go.Proofs

theorem vnewA (n : Nat) (h : newAC.cnd n) : VnewA n := by
  obtain ⟨h1, h2⟩ : 1 ≤ n ∧ n ≤ 4096 := h
  unfold VnewA
  refine cndD (fun c => by omega) fun c => cndD (fun c => by omega) fun c => ?_
  refine ⟨⟨by omega, by omega, by omega, ?_⟩, ?_⟩
  · have : (2 : Int) ^ (48 : Nat) = 281474976710656 := by decide
    rw [this]; omega
  · refine ⟨(), rfl, rfl, ?_, rfl, trivial⟩
    rw [List.map_replicate]; rfl
theorem newA_ok : newAC.ok Try.prog 56 := bynewA gok0 vnewA
theorem newB_ok : newBC.ok Try.prog 38 := bynewB (gokc newA_ok gok0) fun u _ => by
  refine ⟨250, rfl, ⟨by omega, by omega⟩, ?_⟩; (repeat' (first | exact rfl | exact trivial | assumption | apply And.intro | (refine fun (_ : Unit) (_ : True) => ?_) | (refine Exists.intro () ?_) | omega | (dsimp only; omega)))

theorem vnewS (p : Prd) (h : newSC.cnd p) : VnewS p := by
  have hs : p.small := h
  obtain ⟨h1, h2, h3⟩ : p.small := h
  refine ⟨p, ?_⟩
  simp only [iE_len]
  (repeat' (first | exact rfl | exact trivial | assumption | apply And.intro | (refine fun (_ : Unit) (_ : True) => ?_) | (refine Exists.intro () ?_) | omega | (dsimp only; omega)))
  refine Cv.cnd.mk (fun c => .inr ⟨(), trivial, by (repeat' (first | exact rfl | exact trivial | assumption | apply And.intro | (refine fun (_ : Unit) (_ : True) => ?_) | (refine Exists.intro () ?_) | omega | (dsimp only; omega))), by simpa using c⟩) fun c => ?_
  have c : p.check = 0 := by simpa using c
  have hc := count_le p
  (repeat' (first | exact rfl | exact trivial | assumption | apply And.intro | (refine fun (_ : Unit) (_ : True) => ?_) | (refine Exists.intro () ?_) | omega | (dsimp only; omega)))
  all_goals (refine ⟨p, ?_⟩; (repeat' (first | exact rfl | exact trivial | assumption | apply And.intro | (refine fun (_ : Unit) (_ : True) => ?_) | (refine Exists.intro () ?_) | omega | (dsimp only; omega))))
  all_goals (refine ⟨0, ?_⟩; (repeat' (first | exact rfl | exact trivial | assumption | apply And.intro | (refine fun (_ : Unit) (_ : True) => ?_) | (refine Exists.intro () ?_) | omega | (dsimp only; omega))))
  all_goals (refine ⟨fun j => j ≤ p.count, fun j => p.count - j, by omega, fun j hj => cndD (fun hlt => ?_) (fun hlt => ?_)⟩; all_goals dsimp only at hj hlt)
  all_goals first
    | (refine .inl ⟨(), ?_⟩
       obtain rfl : j = p.count := by omega
       (repeat' (first | exact rfl | exact trivial | assumption | apply And.intro | (refine fun (_ : Unit) (_ : True) => ?_) | (refine Exists.intro () ?_) | omega | (dsimp only; omega))))
    | (refine ⟨(), trivial, fun _ _ => ⟨trivial, trivial, List.replicate j book0, rfl, ?_, j + 1, ?_⟩⟩
       · rw [List.length_replicate]; omega
       · rw [w64 (by omega), ← List.replicate_succ']
         (repeat' (first | exact rfl | exact trivial | assumption | apply And.intro | (refine fun (_ : Unit) (_ : True) => ?_) | (refine Exists.intro () ?_) | omega | (dsimp only; omega))))
theorem newS_ok : newSC.ok Try.prog 15 := bynewS (gokc check_ok (gokc pcount_ok (gokc newB_ok gok0))) vnewS

theorem clSlot_ok : clSlotC.ok Try.prog 95 := byclSlot gok0 fun l h => by
  have h : l.length ≤ 1000000 := h
  exact fun b hb => Cv.cnd.mk (fun e => ⟨(), rfl, hb e, trivial⟩) (fun _ => ⟨by rw [Nat.zero_add, List.length_map]; omega, (), rfl, rfl, trivial⟩)
theorem clQueue_ok : clQueueC.ok Try.prog 96 := byclQueue gok0 fun l h => by
  have h : l.length ≤ 1000000 := h
  exact fun b hb => Cv.cnd.mk (fun e => ⟨(), rfl, hb e, trivial⟩) (fun _ => ⟨by rw [Nat.zero_add, List.length_map]; omega, (), rfl, rfl, trivial⟩)
theorem clRung_ok : clRungC.ok Try.prog 89 := byclRung gok0 fun l h => by
  have h : l.length ≤ 1000000 := h
  exact fun b hb => Cv.cnd.mk (fun e => ⟨(), rfl, hb e, trivial⟩) (fun _ => ⟨by rw [Nat.zero_add, List.length_map]; omega, (), rfl, rfl, trivial⟩)
theorem clInt_ok : clIntC.ok Try.prog 29 := byclInt gok0 fun l h => by
  have h : l.length ≤ 1000000 := h
  exact fun b hb => Cv.cnd.mk (fun e => ⟨(), rfl, hb e, trivial⟩) (fun _ => ⟨by rw [Nat.zero_add, iE_len]; omega, (), rfl, rfl, trivial⟩)
theorem mclone_ok (t : Nat) : (mcloneX t).ok Try.prog 86 := mcloneX_ok Try.func86 (by kernel_rfl) (by kernel_rfl) (by kernel_rfl) (by kernel_rfl) t
theorem clAt_ok : clAtC.ok Try.prog 88 := byclAt (gokc (mclone_ok _) gok0) fun es _ => by
  unfold VclAt
  refine ⟨es, ?_⟩; (repeat' (first | exact rfl | exact trivial | assumption | apply And.intro | (refine fun (_ : Unit) (_ : True) => ?_) | (refine Exists.intro () ?_) | omega | (dsimp only; omega)))
theorem clWh_ok : clWhC.ok Try.prog 71 := byclWh (gokc (mclone_ok _) gok0) fun es _ => by
  unfold VclWh
  refine ⟨es, ?_⟩; (repeat' (first | exact rfl | exact trivial | assumption | apply And.intro | (refine fun (_ : Unit) (_ : True) => ?_) | (refine Exists.intro () ?_) | omega | (dsimp only; omega)))
theorem copyA_ok : copyAC.ok Try.prog 87 := bycopyA (gokc clSlot_ok (gokc clQueue_ok gok0)) fun a h => by
  obtain ⟨h1, h2⟩ : a.small := h
  refine ⟨a.slots, ?_⟩; (repeat' (first | exact rfl | exact trivial | assumption | apply And.intro | (refine fun (_ : Unit) (_ : True) => ?_) | (refine Exists.intro () ?_) | omega | (dsimp only; omega)))
  refine ⟨a.queues, ?_⟩; (repeat' (first | exact rfl | exact trivial | assumption | apply And.intro | (refine fun (_ : Unit) (_ : True) => ?_) | (refine Exists.intro () ?_) | omega | (dsimp only; omega)))
theorem copyB_ok : copyBC.ok Try.prog 72 := bycopyB (gokc copyA_ok (gokc clAt_ok (gokc clInt_ok (gokc clRung_ok gok0)))) fun b h => by
  obtain ⟨⟨h1, h1'⟩, h2, h3, h4⟩ : b.small := h
  refine ⟨b.a, ?_⟩; (repeat' (first | exact rfl | exact trivial | assumption | apply And.intro | (refine fun (_ : Unit) (_ : True) => ?_) | (refine Exists.intro () ?_) | omega | (dsimp only; omega)))
  refine ⟨atE b.at_, ?_⟩; (repeat' (first | exact rfl | exact trivial | assumption | apply And.intro | (refine fun (_ : Unit) (_ : True) => ?_) | (refine Exists.intro () ?_) | omega | (dsimp only; omega)))
  refine ⟨b.spare, ?_⟩; (repeat' (first | exact rfl | exact trivial | assumption | apply And.intro | (refine fun (_ : Unit) (_ : True) => ?_) | (refine Exists.intro () ?_) | omega | (dsimp only; omega)))
  refine ⟨b.buys, ?_⟩; (repeat' (first | exact rfl | exact trivial | assumption | apply And.intro | (refine fun (_ : Unit) (_ : True) => ?_) | (refine Exists.intro () ?_) | omega | (dsimp only; omega)))
  refine ⟨b.sells, ?_⟩; (repeat' (first | exact rfl | exact trivial | assumption | apply And.intro | (refine fun (_ : Unit) (_ : True) => ?_) | (refine Exists.intro () ?_) | omega | (dsimp only; omega)))

end Sx

namespace Sx
set_option linter.unusedVariables false
open Go Cv Go.Proofs

structure ArN where
  a : Arena
  n : Int
def Arena.qAt (a : Arena) (n : Int) : Queue := if 0 ≤ n ∧ n < a.queues.length then a.queues.getD n.toNat ⟨0, 0, 0, 0⟩ else ⟨0, 0, 0, 0⟩
def atotalC : Con := con1 ArN (fun i => [.nm 0 0, i64V i.n]) (fun i => [ArenaR i.a]) (fun i => True) (fun i => i64V (i.a.qAt i.n).total) (fun i => [ArenaR i.a])
def acountC : Con := con1 ArN (fun i => [.nm 0 0, i64V i.n]) (fun i => [ArenaR i.a]) (fun i => True) (fun i => i64V (i.a.qAt i.n).count) (fun i => [ArenaR i.a])
def bisC : Con := con1 Int (fun n => [i64V n]) (fun _ => []) (fun _ => True) (fun n => boolV (decide (n = 1) || decide (n = 2))) (fun _ => [])
structure BkR where
  b : Book
  r : Rung
def Book.told (b : Book) (r : Rung) : Lv := ⟨r.price, (b.a.qAt r.queue).total, (b.a.qAt r.queue).count⟩
@[reducible] def Book.cntOk (b : Book) : Prop := ∀ q ∈ b.a.queues, i64r q.count
def toldC : Con := con1 BkR (fun i => [.nm 0 0, .agg [i64V i.r.price, i64V i.r.queue]]) (fun i => [BookR i.b]) (fun i => i.b.cntOk) (fun i => lvV (i.b.told i.r)) (fun i => [BookR i.b])

/-- The best level of a side. -/
def Book.best (b : Book) (l : List Rung) : Lv × Bool := match l with
  | [] => (⟨0, 0, 0⟩, false)
  | r :: _ => (b.told r, true)
structure BkS where
  side : Bool
  b : Book
def Book.side (b : Book) (s : Bool) : List Rung := if s then b.sells else b.buys
@[reducible] def bestOf (b : Book) (l : List Rung) : V := .tup [lvV (b.best l).1, boolV (b.best l).2]
def best1C : Con := con1 Book (fun _ => [.nm 0 0, i64V 1]) (fun b => [BookR b]) Book.cntOk (fun b => bestOf b b.buys) (fun b => [BookR b])
def best2C : Con := con1 Book (fun _ => [.nm 0 0, i64V 2]) (fun b => [BookR b]) Book.cntOk (fun b => bestOf b b.sells) (fun b => [BookR b])
def sideN (s : Bool) : Int := if s then 2 else 1
def bestC : Con := con1 BkS (fun i => [.nm 0 0, i64V (sideN i.side)]) (fun i => [BookR i.b]) (fun i => i.b.cntOk) (fun i => bestOf i.b (i.b.side i.side)) (fun i => [BookR i.b])

structure Top where
  has1 : Bool
  has2 : Bool
  p1 : Int
  p2 : Int
  q1 : Int
  q2 : Int
  deriving DecidableEq
def topE (t : Top) : List D := [.v (.bool t.has1), .v (.bool t.has2), .v (.int .i64 t.p1), .v (.int .i64 t.p2), .v (.int .i64 t.q1), .v (.int .i64 t.q2)]
def top0 : Top := ⟨false, false, 0, 0, 0, 0⟩
def Top.buy (t : Top) (x : Lv × Bool) : Top := if x.2 then { t with has1 := true, p1 := x.1.price, q1 := x.1.qty } else t
def Top.sell (t : Top) (x : Lv × Bool) : Top := if x.2 then { t with has2 := true, p2 := x.1.price, q2 := x.1.qty } else t
def Book.top (b : Book) : Top := (top0.buy (b.best b.buys)).sell (b.best b.sells)
def MSt.tops (s : MSt) : List Top := s.books.map Book.top
@[reducible] def MSt.cntOk (s : MSt) : Prop := s.books.length ≤ 1000000 ∧ ∀ b ∈ s.books, b.cntOk
def topsC : Con := con1 MSt (fun _ => [.nm 0 0]) (fun s => [StateR s]) MSt.cntOk (fun s => .own 1) (fun s => [StateR s, .own 55 6 (s.tops.map topE)])
def topsAt (s : MSt) (j : Nat) (x : Top) : List Top := (s.tops.take j) ++ x :: List.replicate (s.books.length - j - 1) top0
def topsTill (s : MSt) (j : Nat) : List Top := (s.tops.take j) ++ List.replicate (s.books.length - j) top0
def topsA (s : MSt) : List SAnn := [
  { ι := Nat, slots := fun j => [(3, .own 0), (21, i64V j)], rows := fun j => [.own 55 6 ((topsTill s j).map topE)] },
  { ι := Unit, slots := fun _ => [], rows := fun _ => [], un := 3 }]
def topsJ (s : MSt) : List (Nat × SAnn) := [(15, { ι := Nat × Top, slots := fun x => [(3, .own 0)], slots0 := fun x => [(3, .own 0)], rows0 := fun x => [.own 55 6 ((topsAt s x.1 x.2).map topE)], rows := fun x => [.own 55 6 ((topsAt s x.1 x.2).map topE)] })]

def copySA (s : MSt) : List SAnn := [{ ι := Nat, slots := fun j => [(3, .nm 0 0), (22, i64V j)], rows := fun j => (List.range 5).map (StateU ⟨s.p, s.books.take j, s.wh⟩) }]

end Sx

namespace Sx
set_option linter.unusedVariables false
set_option maxRecDepth 100000
open Go Cv Go.Proofs
def Vatotal (i : ArN) : Prop :=
  cnd (decide (i.n ≥ (0 : Int))) (cnd (!decide (i.n < (↑(List.map queueE i.a.queues).length : Int))) (∃ (o : Unit), (i.a.qAt i.n).total = (0 : Int) ∧ i.a.free = i.a.free ∧ List.map slotE i.a.slots = List.map slotE i.a.slots ∧ List.map queueE i.a.queues = List.map queueE i.a.queues ∧ True) (((0 : Int) ≤ i.n ∧ i.n < (↑(List.map queueE i.a.queues).length : Int)) ∧ ∃ (n : Int), elPart (List.map queueE i.a.queues) i.n.toNat ((0 : Nat) + (2 : Nat)) (1 : Nat) = some [D.v (.int .i64 n)] ∧ ∃ (o : Unit), (i.a.qAt i.n).total = n ∧ i.a.free = i.a.free ∧ List.map slotE i.a.slots = List.map slotE i.a.slots ∧ List.map queueE i.a.queues = List.map queueE i.a.queues ∧ True)) (∃ (o : Unit), (i.a.qAt i.n).total = (0 : Int) ∧ i.a.free = i.a.free ∧ List.map slotE i.a.slots = List.map slotE i.a.slots ∧ List.map queueE i.a.queues = List.map queueE i.a.queues ∧ True)
theorem eqatotal (i : ArN) : Vatotal i = walk Try.prog ([]) 1 ([]) ([]) [0] Try.f80 (Try.f80.body.getD .skip) (atotalC.pat i) (atotalC.pre i) (atotalC.alts i) := by kernel_rfl

theorem byatotal (hG : GOk Try.prog ([])) (h : ∀ (i : ArN), atotalC.cnd i → Vatotal i) : atotalC.ok Try.prog 80 := ok_of_walk mixed ([]) hG 1 (fun (i : ArN) => []) (fun (i : ArN) => []) [0] Try.func80 (by kernel_rfl) (by kernel_rfl) (by kernel_rfl) (fun _ => by kernel_rfl) (fun (i : ArN) hc => Eq.mp (eqatotal i) (h i hc))

def Vacount (i : ArN) : Prop :=
  cnd (decide (i.n ≥ (0 : Int))) (cnd (!decide (i.n < (↑(List.map queueE i.a.queues).length : Int))) (∃ (o : Unit), (i.a.qAt i.n).count = (0 : Int) ∧ i.a.free = i.a.free ∧ List.map slotE i.a.slots = List.map slotE i.a.slots ∧ List.map queueE i.a.queues = List.map queueE i.a.queues ∧ True) (((0 : Int) ≤ i.n ∧ i.n < (↑(List.map queueE i.a.queues).length : Int)) ∧ ∃ (n : Int), elPart (List.map queueE i.a.queues) i.n.toNat ((0 : Nat) + (3 : Nat)) (1 : Nat) = some [D.v (.int .i64 n)] ∧ ∃ (o : Unit), (i.a.qAt i.n).count = n ∧ i.a.free = i.a.free ∧ List.map slotE i.a.slots = List.map slotE i.a.slots ∧ List.map queueE i.a.queues = List.map queueE i.a.queues ∧ True)) (∃ (o : Unit), (i.a.qAt i.n).count = (0 : Int) ∧ i.a.free = i.a.free ∧ List.map slotE i.a.slots = List.map slotE i.a.slots ∧ List.map queueE i.a.queues = List.map queueE i.a.queues ∧ True)
theorem eqacount (i : ArN) : Vacount i = walk Try.prog ([]) 1 ([]) ([]) [0] Try.f81 (Try.f81.body.getD .skip) (acountC.pat i) (acountC.pre i) (acountC.alts i) := by kernel_rfl

theorem byacount (hG : GOk Try.prog ([])) (h : ∀ (i : ArN), acountC.cnd i → Vacount i) : acountC.ok Try.prog 81 := ok_of_walk mixed ([]) hG 1 (fun (i : ArN) => []) (fun (i : ArN) => []) [0] Try.func81 (by kernel_rfl) (by kernel_rfl) (by kernel_rfl) (fun _ => by kernel_rfl) (fun (i : ArN) hc => Eq.mp (eqacount i) (h i hc))

def Vbis (n : Int) : Prop :=
  cnd (n == (1 : Int)) (∃ (o : Unit), (decide (n = (1 : Int)) || decide (n = (2 : Int))) = true ∧ True) (∃ (o : Unit), (decide (n = (1 : Int)) || decide (n = (2 : Int))) = (n == (2 : Int)) ∧ True)
theorem eqbis (n : Int) : Vbis n = walk Try.prog ([]) 0 ([]) ([]) [] Try.f57 (Try.f57.body.getD .skip) (bisC.pat n) (bisC.pre n) (bisC.alts n) := by kernel_rfl

theorem bybis (hG : GOk Try.prog ([])) (h : ∀ (n : Int), bisC.cnd n → Vbis n) : bisC.ok Try.prog 57 := ok_of_walk mixed ([]) hG 0 (fun (n : Int) => []) (fun (n : Int) => []) [] Try.func57 (by kernel_rfl) (by kernel_rfl) (by kernel_rfl) (fun _ => by kernel_rfl) (fun (n : Int) hc => Eq.mp (eqbis n) (h n hc))

def Vtold (i : BkR) : Prop :=
  ∃ (i_1 : ArN), i_1.n = i.r.queue ∧ AObj.adt Arena (3 : Nat) ArenaU i_1.a = AObj.adt Arena (3 : Nat) ArenaU i.b.a ∧ True ∧ ∀ (o : Unit), True → i.r.queue = i.r.queue ∧ True ∧ i.r.price = i.r.price ∧ ∃ (i_2 : ArN), i_2.n = i.r.queue ∧ AObj.adt Arena (3 : Nat) ArenaU i_2.a = AObj.adt Arena (3 : Nat) ArenaU i_1.a ∧ True ∧ ∀ (o : Unit), True → i.r.price = i.r.price ∧ ∃ (o : Unit), i.r.price = i.r.price ∧ (i.b.a.qAt i.r.queue).total = (i_1.a.qAt i_1.n).total ∧ (i.b.a.qAt i.r.queue).count = (i_2.a.qAt i_2.n).count ∧ i.b.top1 = i.b.top1 ∧ i.b.top2 = i.b.top2 ∧ i.b.has1 = i.b.has1 ∧ i.b.has2 = i.b.has2 ∧ AObj.adt Arena (3 : Nat) ArenaU i.b.a = AObj.adt Arena (3 : Nat) ArenaU i_2.a ∧ List.map rungE i.b.buys = List.map rungE i.b.buys ∧ List.map rungE i.b.sells = List.map rungE i.b.sells ∧ atE i.b.at_ = atE i.b.at_ ∧ iE i.b.spare = iE i.b.spare ∧ True
theorem eqtold (i : BkR) : Vtold i = walk Try.prog ([(80, atotalC), (81, acountC)]) 0 ([]) ([]) [0] Try.f62 (Try.f62.body.getD .skip) (toldC.pat i) (toldC.pre i) (toldC.alts i) := by kernel_rfl

theorem bytold (hG : GOk Try.prog ([(80, atotalC), (81, acountC)])) (h : ∀ (i : BkR), toldC.cnd i → Vtold i) : toldC.ok Try.prog 62 := ok_of_walk mixed ([(80, atotalC), (81, acountC)]) hG 0 (fun (i : BkR) => []) (fun (i : BkR) => []) [0] Try.func62 (by kernel_rfl) (by kernel_rfl) (by kernel_rfl) (fun _ => by kernel_rfl) (fun (i : BkR) hc => Eq.mp (eqtold i) (h i hc))

def Vbest1 (b : Book) : Prop :=
  ∃ (i : Int), i = (1 : Int) ∧ True ∧ ∀ (o : Unit), True → cnd (!(decide (i = (1 : Int)) || decide (i = (2 : Int)))) (∃ (o : Unit), (b.best b.buys).fst.price = (0 : Int) ∧ (b.best b.buys).fst.qty = (0 : Int) ∧ (b.best b.buys).fst.count = (0 : Int) ∧ (b.best b.buys).snd = false ∧ b.top1 = b.top1 ∧ b.top2 = b.top2 ∧ b.has1 = b.has1 ∧ b.has2 = b.has2 ∧ AObj.adt Arena (3 : Nat) ArenaU b.a = AObj.adt Arena (3 : Nat) ArenaU b.a ∧ List.map rungE b.buys = List.map rungE b.buys ∧ List.map rungE b.sells = List.map rungE b.sells ∧ atE b.at_ = atE b.at_ ∧ iE b.spare = iE b.spare ∧ True) (cnd ((↑(List.map rungE b.buys).length : Int) == (0 : Int)) (∃ (o : Unit), (b.best b.buys).fst.price = (0 : Int) ∧ (b.best b.buys).fst.qty = (0 : Int) ∧ (b.best b.buys).fst.count = (0 : Int) ∧ (b.best b.buys).snd = false ∧ b.top1 = b.top1 ∧ b.top2 = b.top2 ∧ b.has1 = b.has1 ∧ b.has2 = b.has2 ∧ AObj.adt Arena (3 : Nat) ArenaU b.a = AObj.adt Arena (3 : Nat) ArenaU b.a ∧ List.map rungE b.buys = List.map rungE b.buys ∧ List.map rungE b.sells = List.map rungE b.sells ∧ atE b.at_ = atE b.at_ ∧ iE b.spare = iE b.spare ∧ True) (((0 : Int) ≤ (0 : Int) ∧ (0 : Int) < (↑(List.map rungE b.buys).length : Int)) ∧ ∃ (n : Int), ∃ (n_1 : Int), elPart (List.map rungE b.buys) (Int.toNat (0 : Int)) (0 : Nat) (2 : Nat) = some [D.v (.int .i64 n), D.v (.int .i64 n_1)] ∧ ∃ (i : BkR), i.r.price = n ∧ i.r.queue = n_1 ∧ i.b.top1 = b.top1 ∧ i.b.top2 = b.top2 ∧ i.b.has1 = b.has1 ∧ i.b.has2 = b.has2 ∧ AObj.adt Arena (3 : Nat) ArenaU i.b.a = AObj.adt Arena (3 : Nat) ArenaU b.a ∧ List.map rungE i.b.buys = List.map rungE b.buys ∧ List.map rungE i.b.sells = List.map rungE b.sells ∧ atE i.b.at_ = atE b.at_ ∧ iE i.b.spare = iE b.spare ∧ (∀ (q : Queue), q ∈ i.b.a.queues → (-9223372036854775808 : Int) ≤ q.count ∧ q.count ≤ (9223372036854775807 : Int)) ∧ ∀ (o : Unit), True → ∃ (o : Unit), (b.best b.buys).fst.price = i.r.price ∧ (b.best b.buys).fst.qty = (i.b.a.qAt i.r.queue).total ∧ (b.best b.buys).fst.count = (i.b.a.qAt i.r.queue).count ∧ (b.best b.buys).snd = true ∧ AObj.adt Book (6 : Nat) BookU b = AObj.adt Book (6 : Nat) BookU i.b ∧ True))
theorem eqbest1 (b : Book) : Vbest1 b = walk Try.prog ([(57, bisC), (62, toldC)]) 0 ([]) ([]) [0] Try.f42 (Try.f42.body.getD .skip) (best1C.pat b) (best1C.pre b) (best1C.alts b) := by kernel_rfl

theorem bybest1 (hG : GOk Try.prog ([(57, bisC), (62, toldC)])) (h : ∀ (b : Book), best1C.cnd b → Vbest1 b) : best1C.ok Try.prog 42 := ok_of_walk mixed ([(57, bisC), (62, toldC)]) hG 0 (fun (b : Book) => []) (fun (b : Book) => []) [0] Try.func42 (by kernel_rfl) (by kernel_rfl) (by kernel_rfl) (fun _ => by kernel_rfl) (fun (b : Book) hc => Eq.mp (eqbest1 b) (h b hc))

def Vbest2 (b : Book) : Prop :=
  ∃ (i : Int), i = (2 : Int) ∧ True ∧ ∀ (o : Unit), True → cnd (!(decide (i = (1 : Int)) || decide (i = (2 : Int)))) (∃ (o : Unit), (b.best b.sells).fst.price = (0 : Int) ∧ (b.best b.sells).fst.qty = (0 : Int) ∧ (b.best b.sells).fst.count = (0 : Int) ∧ (b.best b.sells).snd = false ∧ b.top1 = b.top1 ∧ b.top2 = b.top2 ∧ b.has1 = b.has1 ∧ b.has2 = b.has2 ∧ AObj.adt Arena (3 : Nat) ArenaU b.a = AObj.adt Arena (3 : Nat) ArenaU b.a ∧ List.map rungE b.buys = List.map rungE b.buys ∧ List.map rungE b.sells = List.map rungE b.sells ∧ atE b.at_ = atE b.at_ ∧ iE b.spare = iE b.spare ∧ True) (cnd ((↑(List.map rungE b.sells).length : Int) == (0 : Int)) (∃ (o : Unit), (b.best b.sells).fst.price = (0 : Int) ∧ (b.best b.sells).fst.qty = (0 : Int) ∧ (b.best b.sells).fst.count = (0 : Int) ∧ (b.best b.sells).snd = false ∧ b.top1 = b.top1 ∧ b.top2 = b.top2 ∧ b.has1 = b.has1 ∧ b.has2 = b.has2 ∧ AObj.adt Arena (3 : Nat) ArenaU b.a = AObj.adt Arena (3 : Nat) ArenaU b.a ∧ List.map rungE b.buys = List.map rungE b.buys ∧ List.map rungE b.sells = List.map rungE b.sells ∧ atE b.at_ = atE b.at_ ∧ iE b.spare = iE b.spare ∧ True) (((0 : Int) ≤ (0 : Int) ∧ (0 : Int) < (↑(List.map rungE b.sells).length : Int)) ∧ ∃ (n : Int), ∃ (n_1 : Int), elPart (List.map rungE b.sells) (Int.toNat (0 : Int)) (0 : Nat) (2 : Nat) = some [D.v (.int .i64 n), D.v (.int .i64 n_1)] ∧ ∃ (i : BkR), i.r.price = n ∧ i.r.queue = n_1 ∧ i.b.top1 = b.top1 ∧ i.b.top2 = b.top2 ∧ i.b.has1 = b.has1 ∧ i.b.has2 = b.has2 ∧ AObj.adt Arena (3 : Nat) ArenaU i.b.a = AObj.adt Arena (3 : Nat) ArenaU b.a ∧ List.map rungE i.b.buys = List.map rungE b.buys ∧ List.map rungE i.b.sells = List.map rungE b.sells ∧ atE i.b.at_ = atE b.at_ ∧ iE i.b.spare = iE b.spare ∧ (∀ (q : Queue), q ∈ i.b.a.queues → (-9223372036854775808 : Int) ≤ q.count ∧ q.count ≤ (9223372036854775807 : Int)) ∧ ∀ (o : Unit), True → ∃ (o : Unit), (b.best b.sells).fst.price = i.r.price ∧ (b.best b.sells).fst.qty = (i.b.a.qAt i.r.queue).total ∧ (b.best b.sells).fst.count = (i.b.a.qAt i.r.queue).count ∧ (b.best b.sells).snd = true ∧ AObj.adt Book (6 : Nat) BookU b = AObj.adt Book (6 : Nat) BookU i.b ∧ True))
theorem eqbest2 (b : Book) : Vbest2 b = walk Try.prog ([(57, bisC), (62, toldC)]) 0 ([]) ([]) [0] Try.f42 (Try.f42.body.getD .skip) (best2C.pat b) (best2C.pre b) (best2C.alts b) := by kernel_rfl

theorem bybest2 (hG : GOk Try.prog ([(57, bisC), (62, toldC)])) (h : ∀ (b : Book), best2C.cnd b → Vbest2 b) : best2C.ok Try.prog 42 := ok_of_walk mixed ([(57, bisC), (62, toldC)]) hG 0 (fun (b : Book) => []) (fun (b : Book) => []) [0] Try.func42 (by kernel_rfl) (by kernel_rfl) (by kernel_rfl) (fun _ => by kernel_rfl) (fun (b : Book) hc => Eq.mp (eqbest2 b) (h b hc))

@[reducible] def Vtopsr0  : AObj := AObj.own (3 : Nat) (1 : Nat) [[D.v (.int .i64 1)], [D.v (.int .i64 2)]]
@[reducible] def Vtopsr1 (s : MSt) : AObj := Sx.AObj.cells (renL (unfNM (0 : Nat) (1 : Nat) (5 : Nat)) [sV s.p.code, V.own (3 : Nat), i64V s.p.tick, i64V s.p.low, i64V s.p.high, i64V s.p.wide, i64V s.p.rule, i64V s.p.top, i64V s.p.least, i64V s.p.part, V.own (4 : Nat), V.own (1 : Nat), V.mp (2 : Nat)]) (84 : TypeId)
def Vtops (s : MSt) : Prop :=
  ((0 : Int) ≤ (↑s.books.length : Int) ∧ (↑s.books.length : Int) ≤ (↑s.books.length : Int) ∧ (↑s.books.length : Int) ≤ (9223372036854775807 : Int) ∧ (↑(40 : Nat) : Int) * (↑s.books.length : Int) ≤ (2 : Int) ^ (48 : Nat)) ∧ ∃ (i0 : Nat), (↑i0 : Int) = (0 : Int) ∧ List.map topE (topsTill s i0) = List.replicate (↑s.books.length : Int).toNat [D.v (.bool false), D.v (.bool false), D.v (.int .i64 0), D.v (.int .i64 0), D.v (.int .i64 0), D.v (.int .i64 0)] ∧ ∃ (I : Nat → Prop), ∃ (μ : Nat → Nat), I i0 ∧ ∀ (i : Nat), I i → cnd (decide ((↑i : Int) < (↑s.books.length : Int))) (((0 : Int) ≤ (↑i : Int) ∧ (↑i : Int) < (↑s.books.length : Int)) ∧ (↑i : Int).toNat < s.books.length ∧ ∃ (i0 : Nat × Top), List.map topE (topsAt s i0.fst i0.snd) = List.map topE (topsTill s i) ∧ ∃ (I_1 : Nat × Top → Prop), (((0 : Int) ≤ (0 : Int) ∧ (0 : Int) < (↑(2 : Nat) : Int)) ∧ ∃ (n : Int), elPart [[D.v (.int .i64 1)], [D.v (.int .i64 2)]] (Int.toNat (0 : Int)) (0 : Nat) (1 : Nat) = some [D.v (.int .i64 n)] ∧ ∃ (x : Book), s.books[(↑i : Int).toNat]? = some x ∧ ∃ (i_1 : BkS), sideN i_1.side = n ∧ AObj.adt Book (6 : Nat) BookU i_1.b = AObj.adt Book (6 : Nat) BookU x ∧ (∀ (q : Queue), q ∈ i_1.b.a.queues → (-9223372036854775808 : Int) ≤ q.count ∧ q.count ≤ (9223372036854775807 : Int)) ∧ ∀ (o : Unit), True → ∃ (x : Book), AObj.adt Book (6 : Nat) BookU i_1.b = AObj.adt Book (6 : Nat) BookU x ∧ (↑i : Int).toNat = (↑i : Int).toNat ∧ (↑i : Int).toNat < s.books.length ∧ cnd (i_1.b.best (i_1.b.side i_1.side)).snd (((0 : Int) ≤ (↑i : Int) ∧ (↑i : Int) < (↑(List.map topE (topsAt s i0.fst i0.snd)).length : Int)) ∧ ((0 : Int) ≤ (↑i : Int) ∧ (↑i : Int) < (↑(List.map topE (topsAt s i0.fst i0.snd)).length : Int)) ∧ ((0 : Int) ≤ (↑i : Int) ∧ (↑i : Int) < (↑(List.map topE (topsAt s i0.fst i0.snd)).length : Int)) ∧ (↑i : Int).toNat < (List.map topE (topsAt s i0.fst i0.snd)).length ∧ (((0 : Int) ≤ (↑i : Int) ∧ (↑i : Int) < (↑(elSet (List.map topE (topsAt s i0.fst i0.snd)) (↑i : Int).toNat ((0 : Nat) + (0 : Nat) + nat_lit 0 * (1 : Nat)) [D.v (.bool true)]).length : Int)) ∧ (↑i : Int).toNat = (↑i : Int).toNat) ∧ (((0 : Int) ≤ (↑i : Int) ∧ (↑i : Int) < (↑(elSet (List.map topE (topsAt s i0.fst i0.snd)) (↑i : Int).toNat ((0 : Nat) + (0 : Nat) + nat_lit 0 * (1 : Nat)) [D.v (.bool true)]).length : Int)) ∧ (↑i : Int).toNat = (↑i : Int).toNat) ∧ (i_1.b.best (i_1.b.side i_1.side)).fst.qty = (i_1.b.best (i_1.b.side i_1.side)).fst.qty ∧ (i_1.b.best (i_1.b.side i_1.side)).fst.price = (i_1.b.best (i_1.b.side i_1.side)).fst.price ∧ (↑i : Int).toNat < (elSet (List.map topE (topsAt s i0.fst i0.snd)) (↑i : Int).toNat ((0 : Nat) + (0 : Nat) + nat_lit 0 * (1 : Nat)) [D.v (.bool true)]).length ∧ (((0 : Int) ≤ (↑i : Int) ∧ (↑i : Int) < (↑(elSet (elSet (List.map topE (topsAt s i0.fst i0.snd)) (↑i : Int).toNat ((0 : Nat) + (0 : Nat) + nat_lit 0 * (1 : Nat)) [D.v (.bool true)]) (↑i : Int).toNat ((0 : Nat) + (2 : Nat) + nat_lit 0 * (1 : Nat)) [D.v (.int .i64 (i_1.b.best (i_1.b.side i_1.side)).fst.price)]).length : Int)) ∧ (↑i : Int).toNat = (↑i : Int).toNat) ∧ (i_1.b.best (i_1.b.side i_1.side)).fst.qty = (i_1.b.best (i_1.b.side i_1.side)).fst.qty ∧ (↑i : Int).toNat < (elSet (elSet (List.map topE (topsAt s i0.fst i0.snd)) (↑i : Int).toNat ((0 : Nat) + (0 : Nat) + nat_lit 0 * (1 : Nat)) [D.v (.bool true)]) (↑i : Int).toNat ((0 : Nat) + (2 : Nat) + nat_lit 0 * (1 : Nat)) [D.v (.int .i64 (i_1.b.best (i_1.b.side i_1.side)).fst.price)]).length ∧ ∃ (i' : Nat × Top), List.map topE (topsAt s i'.fst i'.snd) = elSet (elSet (elSet (List.map topE (topsAt s i0.fst i0.snd)) (↑i : Int).toNat ((0 : Nat) + (0 : Nat) + nat_lit 0 * (1 : Nat)) [D.v (.bool true)]) (↑i : Int).toNat ((0 : Nat) + (2 : Nat) + nat_lit 0 * (1 : Nat)) [D.v (.int .i64 (i_1.b.best (i_1.b.side i_1.side)).fst.price)]) (↑i : Int).toNat ((0 : Nat) + (4 : Nat) + nat_lit 0 * (1 : Nat)) [D.v (.int .i64 (i_1.b.best (i_1.b.side i_1.side)).fst.qty)] ∧ I_1 i' ∧ Vtopsr0 = Vtopsr0 ∧ Vtopsr1 s = Vtopsr1 s ∧ AObj.objs (85 : Nat) Book (6 : Nat) BookU (s.books.set (↑i : Int).toNat x) none = AObj.objs (85 : Nat) Book (6 : Nat) BookU s.books none ∧ Sx.AObj.map (mapE s.wh) = Sx.AObj.map (mapE s.wh) ∧ AObj.fro (1 : Nat) (iE s.p.months) = AObj.fro (1 : Nat) (iE s.p.months) ∧ AObj.fro (1 : Nat) (iE s.p.settle) = AObj.fro (1 : Nat) (iE s.p.settle)) (∃ (i' : Nat × Top), List.map topE (topsAt s i'.fst i'.snd) = List.map topE (topsAt s i0.fst i0.snd) ∧ I_1 i' ∧ Vtopsr0 = Vtopsr0 ∧ Vtopsr1 s = Vtopsr1 s ∧ AObj.objs (85 : Nat) Book (6 : Nat) BookU (s.books.set (↑i : Int).toNat x) none = AObj.objs (85 : Nat) Book (6 : Nat) BookU s.books none ∧ Sx.AObj.map (mapE s.wh) = Sx.AObj.map (mapE s.wh) ∧ AObj.fro (1 : Nat) (iE s.p.months) = AObj.fro (1 : Nat) (iE s.p.months) ∧ AObj.fro (1 : Nat) (iE s.p.settle) = AObj.fro (1 : Nat) (iE s.p.settle))) ∧ ∀ (i_1 : Nat × Top), I_1 i_1 → ∃ (i0 : Nat × Top), List.map topE (topsAt s i0.fst i0.snd) = List.map topE (topsAt s i_1.fst i_1.snd) ∧ ∃ (I_2 : Nat × Top → Prop), (((0 : Int) ≤ IntKind.i64.wrap ((0 : Int) + (1 : Int)) ∧ IntKind.i64.wrap ((0 : Int) + (1 : Int)) < (↑(2 : Nat) : Int)) ∧ ∃ (n : Int), elPart [[D.v (.int .i64 1)], [D.v (.int .i64 2)]] (IntKind.i64.wrap ((0 : Int) + (1 : Int))).toNat (0 : Nat) (1 : Nat) = some [D.v (.int .i64 n)] ∧ ∃ (x : Book), s.books[(↑i : Int).toNat]? = some x ∧ ∃ (i_2 : BkS), sideN i_2.side = n ∧ AObj.adt Book (6 : Nat) BookU i_2.b = AObj.adt Book (6 : Nat) BookU x ∧ (∀ (q : Queue), q ∈ i_2.b.a.queues → (-9223372036854775808 : Int) ≤ q.count ∧ q.count ≤ (9223372036854775807 : Int)) ∧ ∀ (o : Unit), True → ∃ (x : Book), AObj.adt Book (6 : Nat) BookU i_2.b = AObj.adt Book (6 : Nat) BookU x ∧ (↑i : Int).toNat = (↑i : Int).toNat ∧ (↑i : Int).toNat < s.books.length ∧ cnd (i_2.b.best (i_2.b.side i_2.side)).snd (((0 : Int) ≤ (↑i : Int) ∧ (↑i : Int) < (↑(List.map topE (topsAt s i0.fst i0.snd)).length : Int)) ∧ ((0 : Int) ≤ (↑i : Int) ∧ (↑i : Int) < (↑(List.map topE (topsAt s i0.fst i0.snd)).length : Int)) ∧ ((0 : Int) ≤ (↑i : Int) ∧ (↑i : Int) < (↑(List.map topE (topsAt s i0.fst i0.snd)).length : Int)) ∧ (↑i : Int).toNat < (List.map topE (topsAt s i0.fst i0.snd)).length ∧ (((0 : Int) ≤ (↑i : Int) ∧ (↑i : Int) < (↑(elSet (List.map topE (topsAt s i0.fst i0.snd)) (↑i : Int).toNat ((0 : Nat) + (0 : Nat) + (nat_lit 0 + nat_lit 1) % ((2 : Int) ^ IntKind.i64.bits).natAbs * (1 : Nat)) [D.v (.bool true)]).length : Int)) ∧ (↑i : Int).toNat = (↑i : Int).toNat) ∧ (((0 : Int) ≤ (↑i : Int) ∧ (↑i : Int) < (↑(elSet (List.map topE (topsAt s i0.fst i0.snd)) (↑i : Int).toNat ((0 : Nat) + (0 : Nat) + (nat_lit 0 + nat_lit 1) % ((2 : Int) ^ IntKind.i64.bits).natAbs * (1 : Nat)) [D.v (.bool true)]).length : Int)) ∧ (↑i : Int).toNat = (↑i : Int).toNat) ∧ (i_2.b.best (i_2.b.side i_2.side)).fst.qty = (i_2.b.best (i_2.b.side i_2.side)).fst.qty ∧ (i_2.b.best (i_2.b.side i_2.side)).fst.price = (i_2.b.best (i_2.b.side i_2.side)).fst.price ∧ (↑i : Int).toNat < (elSet (List.map topE (topsAt s i0.fst i0.snd)) (↑i : Int).toNat ((0 : Nat) + (0 : Nat) + (nat_lit 0 + nat_lit 1) % ((2 : Int) ^ IntKind.i64.bits).natAbs * (1 : Nat)) [D.v (.bool true)]).length ∧ (((0 : Int) ≤ (↑i : Int) ∧ (↑i : Int) < (↑(elSet (elSet (List.map topE (topsAt s i0.fst i0.snd)) (↑i : Int).toNat ((0 : Nat) + (0 : Nat) + (nat_lit 0 + nat_lit 1) % ((2 : Int) ^ IntKind.i64.bits).natAbs * (1 : Nat)) [D.v (.bool true)]) (↑i : Int).toNat ((0 : Nat) + (2 : Nat) + (nat_lit 0 + nat_lit 1) % ((2 : Int) ^ IntKind.i64.bits).natAbs * (1 : Nat)) [D.v (.int .i64 (i_2.b.best (i_2.b.side i_2.side)).fst.price)]).length : Int)) ∧ (↑i : Int).toNat = (↑i : Int).toNat) ∧ (i_2.b.best (i_2.b.side i_2.side)).fst.qty = (i_2.b.best (i_2.b.side i_2.side)).fst.qty ∧ (↑i : Int).toNat < (elSet (elSet (List.map topE (topsAt s i0.fst i0.snd)) (↑i : Int).toNat ((0 : Nat) + (0 : Nat) + (nat_lit 0 + nat_lit 1) % ((2 : Int) ^ IntKind.i64.bits).natAbs * (1 : Nat)) [D.v (.bool true)]) (↑i : Int).toNat ((0 : Nat) + (2 : Nat) + (nat_lit 0 + nat_lit 1) % ((2 : Int) ^ IntKind.i64.bits).natAbs * (1 : Nat)) [D.v (.int .i64 (i_2.b.best (i_2.b.side i_2.side)).fst.price)]).length ∧ ∃ (i' : Nat × Top), List.map topE (topsAt s i'.fst i'.snd) = elSet (elSet (elSet (List.map topE (topsAt s i0.fst i0.snd)) (↑i : Int).toNat ((0 : Nat) + (0 : Nat) + (nat_lit 0 + nat_lit 1) % ((2 : Int) ^ IntKind.i64.bits).natAbs * (1 : Nat)) [D.v (.bool true)]) (↑i : Int).toNat ((0 : Nat) + (2 : Nat) + (nat_lit 0 + nat_lit 1) % ((2 : Int) ^ IntKind.i64.bits).natAbs * (1 : Nat)) [D.v (.int .i64 (i_2.b.best (i_2.b.side i_2.side)).fst.price)]) (↑i : Int).toNat ((0 : Nat) + (4 : Nat) + (nat_lit 0 + nat_lit 1) % ((2 : Int) ^ IntKind.i64.bits).natAbs * (1 : Nat)) [D.v (.int .i64 (i_2.b.best (i_2.b.side i_2.side)).fst.qty)] ∧ I_2 i' ∧ Vtopsr0 = Vtopsr0 ∧ Vtopsr1 s = Vtopsr1 s ∧ AObj.objs (85 : Nat) Book (6 : Nat) BookU (s.books.set (↑i : Int).toNat x) none = AObj.objs (85 : Nat) Book (6 : Nat) BookU s.books none ∧ Sx.AObj.map (mapE s.wh) = Sx.AObj.map (mapE s.wh) ∧ AObj.fro (1 : Nat) (iE s.p.months) = AObj.fro (1 : Nat) (iE s.p.months) ∧ AObj.fro (1 : Nat) (iE s.p.settle) = AObj.fro (1 : Nat) (iE s.p.settle)) (∃ (i' : Nat × Top), List.map topE (topsAt s i'.fst i'.snd) = List.map topE (topsAt s i0.fst i0.snd) ∧ I_2 i' ∧ Vtopsr0 = Vtopsr0 ∧ Vtopsr1 s = Vtopsr1 s ∧ AObj.objs (85 : Nat) Book (6 : Nat) BookU (s.books.set (↑i : Int).toNat x) none = AObj.objs (85 : Nat) Book (6 : Nat) BookU s.books none ∧ Sx.AObj.map (mapE s.wh) = Sx.AObj.map (mapE s.wh) ∧ AObj.fro (1 : Nat) (iE s.p.months) = AObj.fro (1 : Nat) (iE s.p.months) ∧ AObj.fro (1 : Nat) (iE s.p.settle) = AObj.fro (1 : Nat) (iE s.p.settle))) ∧ ∀ (i_2 : Nat × Top), I_2 i_2 → ∃ (i' : Nat), (↑i' : Int) = IntKind.i64.wrap ((↑i : Int) + (1 : Int)) ∧ List.map topE (topsTill s i') = List.map topE (topsAt s i_2.fst i_2.snd) ∧ I i' ∧ μ i' < μ i ∧ Vtopsr1 s = Vtopsr1 s ∧ AObj.objs (85 : Nat) Book (6 : Nat) BookU s.books none = AObj.objs (85 : Nat) Book (6 : Nat) BookU s.books none ∧ Sx.AObj.map (mapE s.wh) = Sx.AObj.map (mapE s.wh) ∧ AObj.fro (1 : Nat) (iE s.p.months) = AObj.fro (1 : Nat) (iE s.p.months) ∧ AObj.fro (1 : Nat) (iE s.p.settle) = AObj.fro (1 : Nat) (iE s.p.settle)) (∃ (o : Unit), sb s.p.code = sb s.p.code ∧ s.p.tick = s.p.tick ∧ s.p.low = s.p.low ∧ s.p.high = s.p.high ∧ s.p.wide = s.p.wide ∧ s.p.rule = s.p.rule ∧ s.p.top = s.p.top ∧ s.p.least = s.p.least ∧ s.p.part = s.p.part ∧ AObj.objs (85 : Nat) Book (6 : Nat) BookU s.books none = AObj.objs (85 : Nat) Book (6 : Nat) BookU s.books none ∧ mapE s.wh = mapE s.wh ∧ AObj.fro (1 : Nat) (iE s.p.months) = AObj.fro (1 : Nat) (iE s.p.months) ∧ AObj.fro (1 : Nat) (iE s.p.settle) = AObj.fro (1 : Nat) (iE s.p.settle) ∧ List.map topE s.tops = List.map topE (topsTill s i) ∧ True)
theorem eqtops (s : MSt) : Vtops s = walk Try.prog ([(42, bestC)]) 0 (topsJ s) (topsA s) [0] Try.f18 (Try.f18.body.getD .skip) (topsC.pat s) (topsC.pre s) (topsC.alts s) := by kernel_rfl

theorem bytops (hG : GOk Try.prog ([(42, bestC)])) (h : ∀ (s : MSt), topsC.cnd s → Vtops s) : topsC.ok Try.prog 18 := ok_of_walk mixed ([(42, bestC)]) hG 0 (fun (s : MSt) => topsJ s) (fun (s : MSt) => topsA s) [0] Try.func18 (by kernel_rfl) (by kernel_rfl) (by kernel_rfl) (fun _ => by kernel_rfl) (fun (s : MSt) hc => Eq.mp (eqtops s) (h s hc))

@[reducible] def VcopySr0 (s : MSt) : AObj := Sx.AObj.cells (renL (unfNM (0 : Nat) (1 : Nat) (5 : Nat)) [sV s.p.code, V.own (3 : Nat), i64V s.p.tick, i64V s.p.low, i64V s.p.high, i64V s.p.wide, i64V s.p.rule, i64V s.p.top, i64V s.p.least, i64V s.p.part, V.own (4 : Nat), V.own (1 : Nat), V.mp (2 : Nat)]) (84 : TypeId)
def VcopyS (s : MSt) : Prop :=
  ∃ (i : List (Value × List D)), i = mapE s.wh ∧ True ∧ ∀ (o : Unit), True → (sb s.p.code = sb s.p.code ∧ True ∧ s.p.tick = s.p.tick ∧ s.p.low = s.p.low ∧ s.p.high = s.p.high ∧ s.p.wide = s.p.wide ∧ s.p.rule = s.p.rule ∧ s.p.top = s.p.top ∧ s.p.least = s.p.least ∧ s.p.part = s.p.part ∧ True ∧ True) ∧ ∃ (i0 : Nat), (↑i0 : Int) = (0 : Int) ∧ sb s.p.code = sb s.p.code ∧ s.p.tick = s.p.tick ∧ s.p.low = s.p.low ∧ s.p.high = s.p.high ∧ s.p.wide = s.p.wide ∧ s.p.rule = s.p.rule ∧ s.p.top = s.p.top ∧ s.p.least = s.p.least ∧ s.p.part = s.p.part ∧ List.take i0 s.books = [] ∧ (none : Option Nat) = none ∧ mapE s.wh = i ∧ AObj.fro (1 : Nat) (iE s.p.months) = AObj.fro (1 : Nat) (iE s.p.months) ∧ AObj.fro (1 : Nat) (iE s.p.settle) = AObj.fro (1 : Nat) (iE s.p.settle) ∧ ∃ (I : Nat → Prop), ∃ (μ : Nat → Nat), I i0 ∧ ∀ (i_1 : Nat), I i_1 → cnd (decide ((↑i_1 : Int) < (↑s.books.length : Int))) (((0 : Int) ≤ (↑i_1 : Int) ∧ (↑i_1 : Int) < (↑s.books.length : Int)) ∧ (↑i_1 : Int).toNat < s.books.length ∧ ∃ (x : Book), s.books[(↑i_1 : Int).toNat]? = some x ∧ ∃ (i_2 : Book), AObj.adt Book (6 : Nat) BookU i_2 = AObj.adt Book (6 : Nat) BookU x ∧ ((i_2.a.slots.length ≤ (1000000 : Nat) ∧ i_2.a.queues.length ≤ (1000000 : Nat)) ∧ i_2.buys.length ≤ (1000000 : Nat) ∧ i_2.sells.length ≤ (1000000 : Nat) ∧ i_2.spare.length ≤ (1000000 : Nat)) ∧ ∀ (o : Unit), True → ∃ (x : Book), AObj.adt Book (6 : Nat) BookU i_2 = AObj.adt Book (6 : Nat) BookU x ∧ (↑i_1 : Int).toNat = (↑i_1 : Int).toNat ∧ (↑i_1 : Int).toNat < s.books.length ∧ True ∧ True ∧ ∃ (l1' : List Book), AObj.objs (85 : Nat) Book (6 : Nat) BookU (List.take i_1 s.books) none = AObj.objs (85 : Nat) Book (6 : Nat) BookU l1' none ∧ (l1'.length + (1 : Nat)) * (8 : Nat) ≤ (70368744177664 : Nat) ∧ ∃ (i' : Nat), (↑i' : Int) = IntKind.i64.wrap ((↑i_1 : Int) + (1 : Int)) ∧ sb s.p.code = sb s.p.code ∧ s.p.tick = s.p.tick ∧ s.p.low = s.p.low ∧ s.p.high = s.p.high ∧ s.p.wide = s.p.wide ∧ s.p.rule = s.p.rule ∧ s.p.top = s.p.top ∧ s.p.least = s.p.least ∧ s.p.part = s.p.part ∧ AObj.objs (85 : Nat) Book (6 : Nat) BookU (List.take i' s.books) none = AObj.objs (85 : Nat) Book (6 : Nat) BookU (l1' ++ [i_2]) none ∧ mapE s.wh = mapE s.wh ∧ AObj.fro (1 : Nat) (iE s.p.months) = AObj.fro (1 : Nat) (iE s.p.months) ∧ AObj.fro (1 : Nat) (iE s.p.settle) = AObj.fro (1 : Nat) (iE s.p.settle) ∧ I i' ∧ μ i' < μ i_1 ∧ Sx.AObj.map i = Sx.AObj.map i ∧ VcopySr0 s = VcopySr0 s ∧ AObj.objs (85 : Nat) Book (6 : Nat) BookU (s.books.set (↑i_1 : Int).toNat x) none = AObj.objs (85 : Nat) Book (6 : Nat) BookU s.books none ∧ AObj.fro (1 : Nat) (iE s.p.months) = AObj.fro (1 : Nat) (iE s.p.months) ∧ AObj.fro (1 : Nat) (iE s.p.settle) = AObj.fro (1 : Nat) (iE s.p.settle)) (∃ (o : Unit), sb s.p.code = sb s.p.code ∧ s.p.tick = s.p.tick ∧ s.p.low = s.p.low ∧ s.p.high = s.p.high ∧ s.p.wide = s.p.wide ∧ s.p.rule = s.p.rule ∧ s.p.top = s.p.top ∧ s.p.least = s.p.least ∧ s.p.part = s.p.part ∧ AObj.objs (85 : Nat) Book (6 : Nat) BookU s.books none = AObj.objs (85 : Nat) Book (6 : Nat) BookU s.books none ∧ mapE s.wh = i ∧ AObj.fro (1 : Nat) (iE s.p.months) = AObj.fro (1 : Nat) (iE s.p.months) ∧ AObj.fro (1 : Nat) (iE s.p.settle) = AObj.fro (1 : Nat) (iE s.p.settle) ∧ sb s.p.code = sb s.p.code ∧ s.p.tick = s.p.tick ∧ s.p.low = s.p.low ∧ s.p.high = s.p.high ∧ s.p.wide = s.p.wide ∧ s.p.rule = s.p.rule ∧ s.p.top = s.p.top ∧ s.p.least = s.p.least ∧ s.p.part = s.p.part ∧ AObj.objs (85 : Nat) Book (6 : Nat) BookU s.books none = AObj.objs (85 : Nat) Book (6 : Nat) BookU (List.take i_1 s.books) none ∧ mapE s.wh = mapE s.wh ∧ AObj.fro (1 : Nat) (iE s.p.months) = AObj.fro (1 : Nat) (iE s.p.months) ∧ AObj.fro (1 : Nat) (iE s.p.settle) = AObj.fro (1 : Nat) (iE s.p.settle) ∧ True)
theorem eqcopyS (s : MSt) : VcopyS s = walk Try.prog ([(71, clWhC), (72, copyBC)]) 0 ([]) (copySA s) [0] Try.f55 (Try.f55.body.getD .skip) (copySC.pat s) (copySC.pre s) (copySC.alts s) := by kernel_rfl

theorem bycopyS (hG : GOk Try.prog ([(71, clWhC), (72, copyBC)])) (h : ∀ (s : MSt), copySC.cnd s → VcopyS s) : copySC.ok Try.prog 55 := ok_of_walk mixed ([(71, clWhC), (72, copyBC)]) hG 0 (fun (s : MSt) => []) (fun (s : MSt) => copySA s) [0] Try.func55 (by kernel_rfl) (by kernel_rfl) (by kernel_rfl) (fun _ => by kernel_rfl) (fun (s : MSt) hc => Eq.mp (eqcopyS s) (h s hc))

end Sx

namespace Sx
set_option linter.unusedVariables false
set_option linter.unusedSimpArgs false
set_option maxRecDepth 100000
open Go Cv Go.Proofs

theorem elA {α : Type} {f : α → List D} {l : List α} {i g n : Nat} {x : α} {r : List D} (h : l[i]? = some x) (hn : g + n ≤ (f x).length) (hr : ((f x).drop g).take n = r) : elPart (l.map f) i g n = some r := by
  unfold elPart
  rw [List.getElem?_map, h]
  simp only [Option.map_some, Nat.ble_eq_true_of_le hn, cond_true, hr]

theorem qAt_in {a : Arena} {n : Int} {q : Queue} (h0 : 0 ≤ n) (h : a.queues[n.toNat]? = some q) : a.qAt n = q := by
  have := (List.getElem?_eq_some_iff.1 h).1
  rw [Arena.qAt, if_pos ⟨h0, by omega⟩, List.getD_eq_getElem?_getD, h]; rfl
theorem qAt_out {a : Arena} {n : Int} (h : ¬ (0 ≤ n ∧ n < a.queues.length)) : a.qAt n = ⟨0, 0, 0, 0⟩ := by rw [Arena.qAt, if_neg h]
theorem atotal_ok : atotalC.ok Try.prog 80 := byatotal gok0 fun i _ => by
  unfold Vatotal
  simp only [List.length_map]
  refine cndD (fun c => Cv.cnd.mk (fun d => ?_) (fun d => ?_)) (fun c => ?_)
  · have d : ¬ i.n < (i.a.queues.length : Int) := by simpa using d
    rw [qAt_out (by omega)]; (repeat' (first | exact rfl | exact trivial | assumption | apply And.intro | (refine fun (_ : Unit) (_ : True) => ?_) | (refine Exists.intro () ?_) | omega | (dsimp only; omega)))
  · have d : i.n < (i.a.queues.length : Int) := by simpa using d
    obtain ⟨q, hq⟩ := getI (l := i.a.queues) (i := i.n.toNat) (by omega)
    rw [qAt_in (by omega) hq]
    refine ⟨⟨by omega, by omega⟩, q.total, elA hq (by simp [queueE]) rfl, ?_⟩; (repeat' (first | exact rfl | exact trivial | assumption | apply And.intro | (refine fun (_ : Unit) (_ : True) => ?_) | (refine Exists.intro () ?_) | omega | (dsimp only; omega)))
  · rw [qAt_out (by omega)]; (repeat' (first | exact rfl | exact trivial | assumption | apply And.intro | (refine fun (_ : Unit) (_ : True) => ?_) | (refine Exists.intro () ?_) | omega | (dsimp only; omega)))
theorem acount_ok : acountC.ok Try.prog 81 := byacount gok0 fun i _ => by
  unfold Vacount
  simp only [List.length_map]
  refine cndD (fun c => Cv.cnd.mk (fun d => ?_) (fun d => ?_)) (fun c => ?_)
  · have d : ¬ i.n < (i.a.queues.length : Int) := by simpa using d
    rw [qAt_out (by omega)]; (repeat' (first | exact rfl | exact trivial | assumption | apply And.intro | (refine fun (_ : Unit) (_ : True) => ?_) | (refine Exists.intro () ?_) | omega | (dsimp only; omega)))
  · have d : i.n < (i.a.queues.length : Int) := by simpa using d
    obtain ⟨q, hq⟩ := getI (l := i.a.queues) (i := i.n.toNat) (by omega)
    rw [qAt_in (by omega) hq]
    refine ⟨⟨by omega, by omega⟩, q.count, elA hq (by simp [queueE]) rfl, ?_⟩; (repeat' (first | exact rfl | exact trivial | assumption | apply And.intro | (refine fun (_ : Unit) (_ : True) => ?_) | (refine Exists.intro () ?_) | omega | (dsimp only; omega)))
  · rw [qAt_out (by omega)]; (repeat' (first | exact rfl | exact trivial | assumption | apply And.intro | (refine fun (_ : Unit) (_ : True) => ?_) | (refine Exists.intro () ?_) | omega | (dsimp only; omega)))
theorem bis_ok : bisC.ok Try.prog 57 := bybis gok0 fun n _ => by
  unfold Vbis
  refine Cv.cnd.mk (fun c => ⟨(), ?_, trivial⟩) (fun c => ⟨(), ?_, trivial⟩)
  all_goals simp at c
  · simp [c]
  · by_cases h : n = 2 <;> simp [c, h]
theorem told_ok : toldC.ok Try.prog 62 := bytold (gokc atotal_ok (gokc acount_ok gok0)) fun i h => by
  refine ⟨⟨i.b.a, i.r.queue⟩, ?_⟩; (repeat' (first | exact rfl | exact trivial | assumption | apply And.intro | (refine fun (_ : Unit) (_ : True) => ?_) | (refine Exists.intro () ?_) | omega | (dsimp only; omega)))
  refine ⟨⟨i.b.a, i.r.queue⟩, ?_⟩; (repeat' (first | exact rfl | exact trivial | assumption | apply And.intro | (refine fun (_ : Unit) (_ : True) => ?_) | (refine Exists.intro () ?_) | omega | (dsimp only; omega)))

theorem best1_ok : best1C.ok Try.prog 42 := bybest1 (gokc bis_ok (gokc told_ok gok0)) fun b h => by
  have h : b.cntOk := h
  refine ⟨1, rfl, trivial, fun _ _ => Cv.cnd.mk (fun c => absurd c (by decide)) fun _ => ?_⟩
  simp only [List.length_map]
  refine Cv.cnd.mk (fun c => ?_) (fun c => ?_)
  · have hl : b.buys = [] := List.eq_nil_of_length_eq_zero (by have : (b.buys.length : Int) = 0 := (by simpa using c); omega)
    have e : b.best b.buys = (⟨0, 0, 0⟩, false) := by rw [hl]; rfl
    rw [e]; (repeat' (first | exact rfl | exact trivial | assumption | apply And.intro | (refine fun (_ : Unit) (_ : True) => ?_) | (refine Exists.intro () ?_) | omega | (dsimp only; omega)))
  · obtain ⟨r, l, hl⟩ : ∃ r l, b.buys = r :: l := by
      cases hb : b.buys with
      | nil => rw [hb] at c; exact absurd c (by decide)
      | cons r l => exact ⟨r, l, rfl⟩
    have e : b.best b.buys = (b.told r, true) := by rw [hl]; rfl
    rw [e]
    refine ⟨⟨by omega, by rw [hl, List.length_cons]; omega⟩, r.price, r.queue, elA (x := r) (by rw [hl]; rfl) (by simp [rungE]) rfl, ⟨b, r⟩, ?_⟩
    (repeat' (first | exact rfl | exact trivial | assumption | apply And.intro | (refine fun (_ : Unit) (_ : True) => ?_) | (refine Exists.intro () ?_) | omega | (dsimp only; omega)))
theorem best2_ok : best2C.ok Try.prog 42 := bybest2 (gokc bis_ok (gokc told_ok gok0)) fun b h => by
  have h : b.cntOk := h
  refine ⟨2, rfl, trivial, fun _ _ => Cv.cnd.mk (fun c => absurd c (by decide)) fun _ => ?_⟩
  simp only [List.length_map]
  refine Cv.cnd.mk (fun c => ?_) (fun c => ?_)
  · have hl : b.sells = [] := List.eq_nil_of_length_eq_zero (by have : (b.sells.length : Int) = 0 := (by simpa using c); omega)
    have e : b.best b.sells = (⟨0, 0, 0⟩, false) := by rw [hl]; rfl
    rw [e]; (repeat' (first | exact rfl | exact trivial | assumption | apply And.intro | (refine fun (_ : Unit) (_ : True) => ?_) | (refine Exists.intro () ?_) | omega | (dsimp only; omega)))
  · obtain ⟨r, l, hl⟩ : ∃ r l, b.sells = r :: l := by
      cases hb : b.sells with
      | nil => rw [hb] at c; exact absurd c (by decide)
      | cons r l => exact ⟨r, l, rfl⟩
    have e : b.best b.sells = (b.told r, true) := by rw [hl]; rfl
    rw [e]
    refine ⟨⟨by omega, by rw [hl, List.length_cons]; omega⟩, r.price, r.queue, elA (x := r) (by rw [hl]; rfl) (by simp [rungE]) rfl, ⟨b, r⟩, ?_⟩
    (repeat' (first | exact rfl | exact trivial | assumption | apply And.intro | (refine fun (_ : Unit) (_ : True) => ?_) | (refine Exists.intro () ?_) | omega | (dsimp only; omega)))
theorem best_ok : bestC.ok Try.prog 42 := fun i => match i with
  | ⟨false, b⟩ => best1_ok b
  | ⟨true, b⟩ => best2_ok b

/-! ### Tops -/
theorem modify_mid {α : Type} (f : α → α) (x : α) (b : List α) : ∀ a : List α, (a ++ x :: b).modify a.length f = a ++ f x :: b
  | [] => rfl
  | y :: a => by
    show y :: (a ++ x :: b).modify a.length f = _
    rw [modify_mid f x b a]; rfl
theorem elSet_mid {els : List (List D)} {a b : List (List D)} {x y ds : List D} {j f : Nat} (h : els = a ++ x :: b) (hl : a.length = j) (hy : x.take f ++ (ds ++ x.drop (f + ds.length)) = y) : elSet els j f ds = a ++ y :: b := by
  rw [elSet, h, ← hl, modify_mid, hy]
theorem topsAt_set {s : MSt} {j : Nat} {x y : Top} {f : Nat} {ds : List D} (hj : j < s.books.length) (hy : (topE x).take f ++ (ds ++ (topE x).drop (f + ds.length)) = topE y) :
    elSet (List.map topE (topsAt s j x)) j f ds = List.map topE (topsAt s j y) := by
  rw [elSet_mid (a := (s.tops.take j).map topE) (b := (List.replicate (s.books.length - j - 1) top0).map topE) (by rw [topsAt, List.map_append, List.map_cons]) (by
    rw [List.length_map, List.length_take, MSt.tops, List.length_map]; omega) hy, topsAt, List.map_append, List.map_cons]
theorem topsAt_len {s : MSt} {j : Nat} {x : Top} (hj : j < s.books.length) : (topsAt s j x).length = s.books.length := by
  rw [topsAt, List.length_append, List.length_cons, List.length_take, MSt.tops, List.length_map, List.length_replicate]; omega
theorem topsTill_at {s : MSt} {j : Nat} (hj : j < s.books.length) : topsAt s j top0 = topsTill s j := by
  rw [topsAt, topsTill]
  obtain ⟨m, hm⟩ : ∃ m, s.books.length - j = m + 1 := ⟨s.books.length - j - 1, by omega⟩
  rw [hm, List.replicate_succ]; rfl
theorem topsAt_till {s : MSt} {j : Nat} {b : Book} (hb : s.books[j]? = some b) : topsAt s j b.top = topsTill s (j + 1) := by
  have hj := (List.getElem?_eq_some_iff.1 hb).1
  rw [topsAt, topsTill, List.take_add_one, show s.tops[j]? = some b.top by rw [MSt.tops, List.getElem?_map, hb]; rfl]
  simp only [Option.toList_some, List.append_assoc, List.cons_append, List.nil_append]
  rw [show s.books.length - j - 1 = s.books.length - (j + 1) by omega]

theorem set_same {α : Type} {l : List α} {j : Nat} {x : α} (h : l[j]? = some x) : l.set j x = l := by
  obtain ⟨hj, rfl⟩ := List.getElem?_eq_some_iff.1 h
  exact List.set_getElem_self hj

theorem vtops (s : MSt) (h : topsC.cnd s) : Vtops s := by
  obtain ⟨h1, h2⟩ : s.cntOk := h
  unfold Vtops
  have p48 : (2 : Int) ^ (48 : Nat) = 281474976710656 := by decide
  refine ⟨⟨by omega, by omega, by omega, by rw [p48]; omega⟩, 0, rfl, ?_, fun j => j ≤ s.books.length, fun j => s.books.length - j, by omega, fun j hj => cndD (fun hlt => ?_) (fun hlt => ?_)⟩
  · rw [topsTill, List.map_append, List.map_replicate]; rfl
  · have hj' : j < s.books.length := by omega
    obtain ⟨b, hb⟩ := getI hj'
    have hc := h2 b (List.mem_of_getElem? hb)
    simp only [Int.toNat_natCast]
    have ha : ∀ x, (List.map topE (topsAt s j x)).length = s.books.length := fun x => by rw [List.length_map, topsAt_len hj']
    have w1 : IntKind.i64.wrap (0 + 1) = 1 := by decide
    have w2 : (0 + 1) % ((2 : Int) ^ IntKind.i64.bits).natAbs = 1 := by decide
    refine ⟨⟨by omega, by omega⟩, by omega, (j, top0), by rw [topsTill_at hj'], fun x => x = (j, top0.buy (b.best b.buys)), ⟨⟨by decide, by decide⟩, 1, rfl, b, hb, ⟨false, b⟩, rfl, rfl, hc, fun _ _ => ⟨b, rfl, by (repeat' (first | exact rfl | exact trivial | assumption | apply And.intro | (refine fun (_ : Unit) (_ : True) => ?_) | (refine Exists.intro () ?_) | omega | (dsimp only; omega))), by omega, ?_⟩⟩, ?_⟩
    · refine Cv.cnd.mk (fun c => ?_) (fun c => ?_)
      · have c : (b.best b.buys).2 = true := c
        have e1 := topsAt_set (s := s) hj' (x := top0) (y := { top0 with has1 := true }) (f := 0 + 0 + 0 * 1) (ds := [D.v (.bool true)]) rfl
        have e2 := topsAt_set (s := s) hj' (x := { top0 with has1 := true }) (y := { top0 with has1 := true, p1 := (b.best b.buys).1.price }) (f := 0 + 2 + 0 * 1) (ds := [D.v (.int .i64 (b.best b.buys).1.price)]) rfl
        have e3 := topsAt_set (s := s) hj' (x := { top0 with has1 := true, p1 := (b.best b.buys).1.price }) (y := { top0 with has1 := true, p1 := (b.best b.buys).1.price, q1 := (b.best b.buys).1.qty }) (f := 0 + 4 + 0 * 1) (ds := [D.v (.int .i64 (b.best b.buys).1.qty)]) rfl
        dsimp only
        simp only [show b.side false = b.buys from rfl, e1, e2, e3, ha]
        (repeat' (first | exact rfl | exact trivial | assumption | apply And.intro | (refine fun (_ : Unit) (_ : True) => ?_) | (refine Exists.intro () ?_) | omega | (dsimp only; omega)))
        refine ⟨(j, { top0 with has1 := true, p1 := (b.best b.buys).1.price, q1 := (b.best b.buys).1.qty }), rfl, ?_, ?_⟩
        · rw [Top.buy, if_pos c]
        · (repeat' (first | exact rfl | exact trivial | assumption | apply And.intro | (refine fun (_ : Unit) (_ : True) => ?_) | (refine Exists.intro () ?_) | omega | (dsimp only; omega)))
          rw [set_same hb]
      · have c : (b.best b.buys).2 = false := c
        refine ⟨(j, top0), rfl, ?_, ?_⟩
        · rw [Top.buy, if_neg (by rw [c]; simp)]
        · (repeat' (first | exact rfl | exact trivial | assumption | apply And.intro | (refine fun (_ : Unit) (_ : True) => ?_) | (refine Exists.intro () ?_) | omega | (dsimp only; omega)))
          rw [set_same hb]
    · rintro _ rfl
      rw [w1]
      generalize hx : top0.buy (b.best b.buys) = x
      have hx2 : b.top = x.sell (b.best b.sells) := by rw [Book.top, hx]
      refine ⟨(j, x), rfl, fun y => y = (j, b.top), ⟨⟨by decide, by decide⟩, 2, rfl, b, hb, ⟨true, b⟩, rfl, rfl, hc, fun _ _ => ⟨b, rfl, by (repeat' (first | exact rfl | exact trivial | assumption | apply And.intro | (refine fun (_ : Unit) (_ : True) => ?_) | (refine Exists.intro () ?_) | omega | (dsimp only; omega))), by omega, ?_⟩⟩, ?_⟩
      · refine Cv.cnd.mk (fun c => ?_) (fun c => ?_)
        · have c : (b.best b.sells).2 = true := c
          have e1 := topsAt_set (s := s) hj' (x := x) (y := { x with has2 := true }) (f := 0 + 0 + 1 * 1) (ds := [D.v (.bool true)]) rfl
          have e2 := topsAt_set (s := s) hj' (x := { x with has2 := true }) (y := { x with has2 := true, p2 := (b.best b.sells).1.price }) (f := 0 + 2 + 1 * 1) (ds := [D.v (.int .i64 (b.best b.sells).1.price)]) rfl
          have e3 := topsAt_set (s := s) hj' (x := { x with has2 := true, p2 := (b.best b.sells).1.price }) (y := { x with has2 := true, p2 := (b.best b.sells).1.price, q2 := (b.best b.sells).1.qty }) (f := 0 + 4 + 1 * 1) (ds := [D.v (.int .i64 (b.best b.sells).1.qty)]) rfl
          dsimp only
          simp only [w2, show b.side true = b.sells from rfl, e1, e2, e3, ha]
          (repeat' (first | exact rfl | exact trivial | assumption | apply And.intro | (refine fun (_ : Unit) (_ : True) => ?_) | (refine Exists.intro () ?_) | omega | (dsimp only; omega)))
          refine ⟨(j, { x with has2 := true, p2 := (b.best b.sells).1.price, q2 := (b.best b.sells).1.qty }), rfl, ?_, ?_⟩
          · rw [hx2, Top.sell, if_pos c]
          · (repeat' (first | exact rfl | exact trivial | assumption | apply And.intro | (refine fun (_ : Unit) (_ : True) => ?_) | (refine Exists.intro () ?_) | omega | (dsimp only; omega)))
            rw [set_same hb]
        · have c : (b.best b.sells).2 = false := c
          refine ⟨(j, x), rfl, ?_, ?_⟩
          · rw [hx2, Top.sell, if_neg (by rw [c]; simp)]
          · (repeat' (first | exact rfl | exact trivial | assumption | apply And.intro | (refine fun (_ : Unit) (_ : True) => ?_) | (refine Exists.intro () ?_) | omega | (dsimp only; omega)))
            rw [set_same hb]
      · rintro _ rfl
        refine ⟨j + 1, by rw [w64 (by omega)]; rfl, ?_⟩
        refine ⟨by dsimp only; rw [topsAt_till hb], ?_⟩
        (repeat' (first | exact rfl | exact trivial | assumption | apply And.intro | (refine fun (_ : Unit) (_ : True) => ?_) | (refine Exists.intro () ?_) | omega | (dsimp only; omega)))
  · have hj : j ≤ s.books.length := hj
    obtain rfl : j = s.books.length := by omega
    have e : topsTill s s.books.length = s.tops := by
      rw [topsTill, Nat.sub_self, List.replicate_zero, List.append_nil, List.take_of_length_le (by rw [MSt.tops, List.length_map]; omega)]
    rw [e]
    (repeat' (first | exact rfl | exact trivial | assumption | apply And.intro | (refine fun (_ : Unit) (_ : True) => ?_) | (refine Exists.intro () ?_) | omega | (dsimp only; omega)))
theorem tops_ok : topsC.ok Try.prog 18 := bytops (gokc best_ok gok0) vtops

theorem copyS_ok : copySC.ok Try.prog 55 := bycopyS (gokc clWh_ok (gokc copyB_ok gok0)) fun s h => by
  obtain ⟨h1, h2⟩ : s.small := h
  refine ⟨mapE s.wh, ?_⟩; (repeat' (first | exact rfl | exact trivial | assumption | apply And.intro | (refine fun (_ : Unit) (_ : True) => ?_) | (refine Exists.intro () ?_) | omega | (dsimp only; omega)))
  refine ⟨0, ?_⟩; (repeat' (first | exact rfl | exact trivial | assumption | apply And.intro | (refine fun (_ : Unit) (_ : True) => ?_) | (refine Exists.intro () ?_) | omega | (dsimp only; omega)))
  refine ⟨fun j => j ≤ s.books.length, fun j => s.books.length - j, by omega, fun j hj => cndD (fun hlt => ?_) (fun hlt => ?_)⟩
  · obtain ⟨b, hb⟩ := getI (l := s.books) (i := j) (by omega)
    have hs := h2 b (List.mem_of_getElem? hb)
    simp only [Int.toNat_natCast]
    refine ⟨⟨by omega, by omega⟩, by omega, b, hb, b, rfl, hs, fun _ _ => ⟨b, rfl, by (repeat' (first | exact rfl | exact trivial | assumption | apply And.intro | (refine fun (_ : Unit) (_ : True) => ?_) | (refine Exists.intro () ?_) | omega | (dsimp only; omega))), by omega, trivial, trivial, s.books.take j, rfl, ?_, j + 1, ?_⟩⟩
    · rw [List.length_take]; omega
    · rw [w64 (by omega), List.take_add_one, hb]
      (repeat' (first | exact rfl | exact trivial | assumption | apply And.intro | (refine fun (_ : Unit) (_ : True) => ?_) | (refine Exists.intro () ?_) | omega | (dsimp only; omega)))
      rw [set_same hb]
  · have hj : j ≤ s.books.length := hj
    obtain rfl : j = s.books.length := by omega
    rw [List.take_of_length_le (Nat.le_refl _)]
    (repeat' (first | exact rfl | exact trivial | assumption | apply And.intro | (refine fun (_ : Unit) (_ : True) => ?_) | (refine Exists.intro () ?_) | omega | (dsimp only; omega)))

end Sx

namespace Sx
set_option linter.unusedVariables false
open Go Cv Go.Proofs

structure Leg where
  inst : Int
  side : Int
  deriving DecidableEq
structure Quote where
  price : Int
  qty : Int
  a : Leg
  b : Leg
  deriving DecidableEq
def quoteE (q : Quote) : List D := [.v (.int .i64 q.price), .v (.int .i64 q.qty), .v (.int .i64 q.a.inst), .v (.int .i64 q.a.side), .v (.int .i64 q.b.inst), .v (.int .i64 q.b.side)]
@[reducible] def quoteV (q : Quote) : V := .agg [i64V q.price, i64V q.qty, i64V q.a.inst, i64V q.a.side, i64V q.b.inst, i64V q.b.side]
def quote0 : Quote := ⟨0, 0, ⟨0, 0⟩, ⟨0, 0⟩⟩
structure I3' where
  side : Int
  x : Int
  y : Int
def btr (side x y : Int) : Bool := if side = 1 then decide (y < x) else decide (x < y)
def iotherC : Con := con1 Int (fun n => [i64V n]) (fun _ => []) (fun n => n = 1 ∨ n = 2) (fun n => i64V (3 - n)) (fun _ => [])
def ibetterC : Con := con1 I3' (fun i => [i64V i.side, i64V i.x, i64V i.y]) (fun _ => []) (fun _ => True) (fun i => boolV (btr i.side i.x i.y)) (fun _ => [])
structure CrI where
  x : Int
  y : Int
  b : Bool
def crossC : Con := con1 CrI (fun i => [i64V i.x, i64V i.y, boolV i.b]) (fun _ => []) (fun _ => True) (fun i => boolV (i.b && decide (i.y ≤ i.x))) (fun _ => [])

def Top.has (t : Top) (s : Int) : Bool := if s = 1 then t.has1 else t.has2
def Top.price (t : Top) (s : Int) : Int := if s = 1 then t.p1 else t.p2
def Top.qty (t : Top) (s : Int) : Int := if s = 1 then t.q1 else t.q2
/-- The quote of two legs: their prices together, or the second less the first. -/
def mkq (tops : List Top) (a b : Leg) (less : Bool) : List Quote :=
  let x := tops.getD a.inst.toNat top0
  let y := tops.getD b.inst.toNat top0
  let r := if less then subP (y.price b.side) (x.price a.side) else addP (x.price a.side) (y.price b.side)
  if x.has a.side && y.has b.side && r.2 then [⟨r.1, min (x.qty a.side) (y.qty b.side), a, b⟩] else []
structure MkI where
  tops : List Top
  out : List Quote
  a : Int
  b : Int
  less : Bool
@[reducible] def topsOk (l : List Top) : Prop := l.length ≤ 1000000 ∧ ∀ t ∈ l, i64r t.p1 ∧ i64r t.p2
def MkU (x : List Top × List Quote) : Nat → AObj
  | 0 => .cells [.own 1, .own 2] 164
  | 1 => .fro 6 (x.1.map topE)
  | 2 => .own 99 6 (x.2.map quoteE)
  | _ => .gone
@[reducible] def MkR (tops : List Top) (out : List Quote) : List AObj := [MkU (tops, out) 0, MkU (tops, out) 1, MkU (tops, out) 2]
/-- The same, behind: the quotes have a new name. -/
@[reducible] def MkP (tops : List Top) (out : List Quote) : List AObj := [.cells [.own 1, .own 3] 164, MkU (tops, out) 1, .gone, MkU (tops, out) 2]
def mkC (sa sb : Int) : Con := con1 MkI (fun i => [.nm 0 0, .agg [i64V i.a, i64V sa], .agg [i64V i.b, i64V sb], boolV i.less]) (fun i => MkR i.tops i.out)
  (fun i => 0 ≤ i.a ∧ i.a < i.tops.length ∧ 0 ≤ i.b ∧ i.b < i.tops.length ∧ topsOk i.tops ∧ i.out.length ≤ 1000) (fun _ => unitV) (fun i => MkP i.tops (i.out ++ mkq i.tops ⟨i.a, sa⟩ ⟨i.b, sb⟩ i.less))
def mk11 : Con := mkC 1 1
def mk12 : Con := mkC 1 2
def mk21 : Con := mkC 2 1
def mk22 : Con := mkC 2 2

end Sx

namespace Sx
set_option linter.unusedVariables false
set_option maxRecDepth 100000
open Go Cv Go.Proofs
def Viother (n : Int) : Prop :=
  ∃ (o : Unit), (3 : Int) - n = IntKind.i64.wrap ((3 : Int) - n) ∧ True
theorem eqiother (n : Int) : Viother n = walk Try.prog ([]) 0 ([]) ([]) [] Try.f82 (Try.f82.body.getD .skip) (iotherC.pat n) (iotherC.pre n) (iotherC.alts n) := by kernel_rfl

theorem byiother (hG : GOk Try.prog ([])) (h : ∀ (n : Int), iotherC.cnd n → Viother n) : iotherC.ok Try.prog 82 := ok_of_walk mixed ([]) hG 0 (fun (n : Int) => []) (fun (n : Int) => []) [] Try.func82 (by kernel_rfl) (by kernel_rfl) (by kernel_rfl) (fun _ => by kernel_rfl) (fun (n : Int) hc => Eq.mp (eqiother n) (h n hc))

def Vibetter (i : I3') : Prop :=
  cnd (i.side == (1 : Int)) (∃ (o : Unit), btr i.side i.x i.y = decide (i.x > i.y) ∧ True) (∃ (o : Unit), btr i.side i.x i.y = decide (i.x < i.y) ∧ True)
theorem eqibetter (i : I3') : Vibetter i = walk Try.prog ([]) 0 ([]) ([]) [] Try.f64 (Try.f64.body.getD .skip) (ibetterC.pat i) (ibetterC.pre i) (ibetterC.alts i) := by kernel_rfl

theorem byibetter (hG : GOk Try.prog ([])) (h : ∀ (i : I3'), ibetterC.cnd i → Vibetter i) : ibetterC.ok Try.prog 64 := ok_of_walk mixed ([]) hG 0 (fun (i : I3') => []) (fun (i : I3') => []) [] Try.func64 (by kernel_rfl) (by kernel_rfl) (by kernel_rfl) (fun _ => by kernel_rfl) (fun (i : I3') hc => Eq.mp (eqibetter i) (h i hc))

def Vcross (i : CrI) : Prop :=
  cnd i.b (∃ (o : Unit), (i.b && decide (i.y ≤ i.x)) = decide (i.x ≥ i.y) ∧ True) (∃ (o : Unit), (i.b && decide (i.y ≤ i.x)) = false ∧ True)
theorem eqcross (i : CrI) : Vcross i = walk Try.prog ([]) 0 ([]) ([]) [] Try.f44 (Try.f44.body.getD .skip) (crossC.pat i) (crossC.pre i) (crossC.alts i) := by kernel_rfl

theorem bycross (hG : GOk Try.prog ([])) (h : ∀ (i : CrI), crossC.cnd i → Vcross i) : crossC.ok Try.prog 44 := ok_of_walk mixed ([]) hG 0 (fun (i : CrI) => []) (fun (i : CrI) => []) [] Try.func44 (by kernel_rfl) (by kernel_rfl) (by kernel_rfl) (fun _ => by kernel_rfl) (fun (i : CrI) hc => Eq.mp (eqcross i) (h i hc))

def Vmk11 (i : MkI) : Prop :=
  ((0 : Int) ≤ i.a ∧ i.a < (↑(List.map topE i.tops).length : Int)) ∧ ∃ (b : Bool), ∃ (b_1 : Bool), ∃ (n : Int), ∃ (n_1 : Int), ∃ (n_2 : Int), ∃ (n_3 : Int), elPart (List.map topE i.tops) i.a.toNat (0 : Nat) (6 : Nat) = some [D.v (.bool b), D.v (.bool b_1), D.v (.int .i64 n), D.v (.int .i64 n_1), D.v (.int .i64 n_2), D.v (.int .i64 n_3)] ∧ ((0 : Int) ≤ i.b ∧ i.b < (↑(List.map topE i.tops).length : Int)) ∧ ∃ (b_2 : Bool), ∃ (b_3 : Bool), ∃ (n_4 : Int), ∃ (n_5 : Int), ∃ (n_6 : Int), ∃ (n_7 : Int), elPart (List.map topE i.tops) i.b.toNat (0 : Nat) (6 : Nat) = some [D.v (.bool b_2), D.v (.bool b_3), D.v (.int .i64 n_4), D.v (.int .i64 n_5), D.v (.int .i64 n_6), D.v (.int .i64 n_7)] ∧ (True ∧ (((0 : Int) ≤ i.b ∧ i.b < (↑(List.map topE i.tops).length : Int)) ∧ i.b.toNat = i.b.toNat) ∧ i.b = i.b ∧ True ∧ True ∧ (((0 : Int) ≤ i.a ∧ i.a < (↑(List.map topE i.tops).length : Int)) ∧ i.a.toNat = i.a.toNat) ∧ i.a = i.a ∧ True ∧ True ∧ (((0 : Int) ≤ i.b ∧ i.b < (↑(List.map topE i.tops).length : Int)) ∧ i.b.toNat = i.b.toNat) ∧ i.b = i.b ∧ True ∧ True ∧ (((0 : Int) ≤ i.a ∧ i.a < (↑(List.map topE i.tops).length : Int)) ∧ i.a.toNat = i.a.toNat) ∧ i.a = i.a ∧ True ∧ True ∧ (((0 : Int) ≤ i.b ∧ i.b < (↑(List.map topE i.tops).length : Int)) ∧ i.b.toNat = i.b.toNat) ∧ i.b = i.b ∧ True ∧ cnd (!b) (∃ (o : Unit), AObj.fro (6 : Nat) (List.map topE i.tops) = MkU (i.tops, i.out) (1 : Nat) ∧ List.map quoteE (i.out ++ mkq i.tops (Leg.mk i.a (1 : Int)) (Leg.mk i.b (1 : Int)) i.less) = List.map quoteE i.out ∧ True) (cnd (!b_2) (∃ (o : Unit), AObj.fro (6 : Nat) (List.map topE i.tops) = MkU (i.tops, i.out) (1 : Nat) ∧ List.map quoteE (i.out ++ mkq i.tops (Leg.mk i.a (1 : Int)) (Leg.mk i.b (1 : Int)) i.less) = List.map quoteE i.out ∧ True) (∃ (i_1 : I2), i_1.x = n ∧ i_1.y = n_4 ∧ (((-9223372036854775808 : Int) ≤ i_1.x ∧ i_1.x ≤ (9223372036854775807 : Int)) ∧ (-9223372036854775808 : Int) ≤ i_1.y ∧ i_1.y ≤ (9223372036854775807 : Int)) ∧ ∀ (o : Unit), True → cnd i.less (∃ (i_2 : I2), i_2.x = n_4 ∧ i_2.y = n ∧ (((-9223372036854775808 : Int) ≤ i_2.x ∧ i_2.x ≤ (9223372036854775807 : Int)) ∧ (-9223372036854775808 : Int) ≤ i_2.y ∧ i_2.y ≤ (9223372036854775807 : Int)) ∧ ∀ (o : Unit), True → cnd (subP i_2.x i_2.y).snd (True ∧ ((List.map quoteE i.out).length + (1 : Nat)) * (48 : Nat) ≤ (70368744177664 : Nat) ∧ ∃ (o : Unit), AObj.fro (6 : Nat) (List.map topE i.tops) = MkU (i.tops, i.out) (1 : Nat) ∧ List.map quoteE (i.out ++ mkq i.tops (Leg.mk i.a (1 : Int)) (Leg.mk i.b (1 : Int)) i.less) = List.map quoteE i.out ++ [[D.v (.int .i64 (subP i_2.x i_2.y).fst), D.v (.int .i64 (if n_6 < n_2 then n_6 else n_2)), D.v (.int .i64 i.a), D.v (.int .i64 1), D.v (.int .i64 i.b), D.v (.int .i64 1)]] ∧ True) (∃ (o : Unit), AObj.fro (6 : Nat) (List.map topE i.tops) = MkU (i.tops, i.out) (1 : Nat) ∧ List.map quoteE (i.out ++ mkq i.tops (Leg.mk i.a (1 : Int)) (Leg.mk i.b (1 : Int)) i.less) = List.map quoteE i.out ∧ True)) (cnd (addP i_1.x i_1.y).snd (True ∧ ((List.map quoteE i.out).length + (1 : Nat)) * (48 : Nat) ≤ (70368744177664 : Nat) ∧ ∃ (o : Unit), AObj.fro (6 : Nat) (List.map topE i.tops) = MkU (i.tops, i.out) (1 : Nat) ∧ List.map quoteE (i.out ++ mkq i.tops (Leg.mk i.a (1 : Int)) (Leg.mk i.b (1 : Int)) i.less) = List.map quoteE i.out ++ [[D.v (.int .i64 (addP i_1.x i_1.y).fst), D.v (.int .i64 (if n_6 < n_2 then n_6 else n_2)), D.v (.int .i64 i.a), D.v (.int .i64 1), D.v (.int .i64 i.b), D.v (.int .i64 1)]] ∧ True) (∃ (o : Unit), AObj.fro (6 : Nat) (List.map topE i.tops) = MkU (i.tops, i.out) (1 : Nat) ∧ List.map quoteE (i.out ++ mkq i.tops (Leg.mk i.a (1 : Int)) (Leg.mk i.b (1 : Int)) i.less) = List.map quoteE i.out ∧ True))))) ∧ True ∧ (((0 : Int) ≤ i.b ∧ i.b < (↑(List.map topE i.tops).length : Int)) ∧ i.b.toNat = i.b.toNat) ∧ i.b = i.b ∧ True ∧ True ∧ (((0 : Int) ≤ i.a ∧ i.a < (↑(List.map topE i.tops).length : Int)) ∧ i.a.toNat = i.a.toNat) ∧ i.a = i.a ∧ True ∧ True ∧ (((0 : Int) ≤ i.b ∧ i.b < (↑(List.map topE i.tops).length : Int)) ∧ i.b.toNat = i.b.toNat) ∧ i.b = i.b ∧ True ∧ True ∧ (((0 : Int) ≤ i.a ∧ i.a < (↑(List.map topE i.tops).length : Int)) ∧ i.a.toNat = i.a.toNat) ∧ i.a = i.a ∧ True ∧ True ∧ (((0 : Int) ≤ i.b ∧ i.b < (↑(List.map topE i.tops).length : Int)) ∧ i.b.toNat = i.b.toNat) ∧ i.b = i.b ∧ True ∧ cnd (!b) (∃ (o : Unit), AObj.fro (6 : Nat) (List.map topE i.tops) = MkU (i.tops, i.out) (1 : Nat) ∧ List.map quoteE (i.out ++ mkq i.tops (Leg.mk i.a (1 : Int)) (Leg.mk i.b (1 : Int)) i.less) = List.map quoteE i.out ∧ True) (cnd (!b_2) (∃ (o : Unit), AObj.fro (6 : Nat) (List.map topE i.tops) = MkU (i.tops, i.out) (1 : Nat) ∧ List.map quoteE (i.out ++ mkq i.tops (Leg.mk i.a (1 : Int)) (Leg.mk i.b (1 : Int)) i.less) = List.map quoteE i.out ∧ True) (∃ (i_1 : I2), i_1.x = n ∧ i_1.y = n_4 ∧ (((-9223372036854775808 : Int) ≤ i_1.x ∧ i_1.x ≤ (9223372036854775807 : Int)) ∧ (-9223372036854775808 : Int) ≤ i_1.y ∧ i_1.y ≤ (9223372036854775807 : Int)) ∧ ∀ (o : Unit), True → cnd i.less (∃ (i_2 : I2), i_2.x = n_4 ∧ i_2.y = n ∧ (((-9223372036854775808 : Int) ≤ i_2.x ∧ i_2.x ≤ (9223372036854775807 : Int)) ∧ (-9223372036854775808 : Int) ≤ i_2.y ∧ i_2.y ≤ (9223372036854775807 : Int)) ∧ ∀ (o : Unit), True → cnd (subP i_2.x i_2.y).snd (True ∧ ((List.map quoteE i.out).length + (1 : Nat)) * (48 : Nat) ≤ (70368744177664 : Nat) ∧ ∃ (o : Unit), AObj.fro (6 : Nat) (List.map topE i.tops) = MkU (i.tops, i.out) (1 : Nat) ∧ List.map quoteE (i.out ++ mkq i.tops (Leg.mk i.a (1 : Int)) (Leg.mk i.b (1 : Int)) i.less) = List.map quoteE i.out ++ [[D.v (.int .i64 (subP i_2.x i_2.y).fst), D.v (.int .i64 (if n_6 < n_2 then n_6 else n_2)), D.v (.int .i64 i.a), D.v (.int .i64 1), D.v (.int .i64 i.b), D.v (.int .i64 1)]] ∧ True) (∃ (o : Unit), AObj.fro (6 : Nat) (List.map topE i.tops) = MkU (i.tops, i.out) (1 : Nat) ∧ List.map quoteE (i.out ++ mkq i.tops (Leg.mk i.a (1 : Int)) (Leg.mk i.b (1 : Int)) i.less) = List.map quoteE i.out ∧ True)) (cnd (addP i_1.x i_1.y).snd (True ∧ ((List.map quoteE i.out).length + (1 : Nat)) * (48 : Nat) ≤ (70368744177664 : Nat) ∧ ∃ (o : Unit), AObj.fro (6 : Nat) (List.map topE i.tops) = MkU (i.tops, i.out) (1 : Nat) ∧ List.map quoteE (i.out ++ mkq i.tops (Leg.mk i.a (1 : Int)) (Leg.mk i.b (1 : Int)) i.less) = List.map quoteE i.out ++ [[D.v (.int .i64 (addP i_1.x i_1.y).fst), D.v (.int .i64 (if n_6 < n_2 then n_6 else n_2)), D.v (.int .i64 i.a), D.v (.int .i64 1), D.v (.int .i64 i.b), D.v (.int .i64 1)]] ∧ True) (∃ (o : Unit), AObj.fro (6 : Nat) (List.map topE i.tops) = MkU (i.tops, i.out) (1 : Nat) ∧ List.map quoteE (i.out ++ mkq i.tops (Leg.mk i.a (1 : Int)) (Leg.mk i.b (1 : Int)) i.less) = List.map quoteE i.out ∧ True))))
theorem eqmk11 (i : MkI) : Vmk11 i = walk Try.prog ([(93, addC), (94, subC)]) 0 ([]) ([]) [] Try.f83 (Try.f83.body.getD .skip) (mk11.pat i) (mk11.pre i) (mk11.alts i) := by kernel_rfl

theorem bymk11 (hG : GOk Try.prog ([(93, addC), (94, subC)])) (h : ∀ (i : MkI), mk11.cnd i → Vmk11 i) : mk11.ok Try.prog 83 := ok_of_walk mixed ([(93, addC), (94, subC)]) hG 0 (fun (i : MkI) => []) (fun (i : MkI) => []) [] Try.func83 (by kernel_rfl) (by kernel_rfl) (by kernel_rfl) (fun _ => by kernel_rfl) (fun (i : MkI) hc => Eq.mp (eqmk11 i) (h i hc))

def Vmk12 (i : MkI) : Prop :=
  ((0 : Int) ≤ i.a ∧ i.a < (↑(List.map topE i.tops).length : Int)) ∧ ∃ (b : Bool), ∃ (b_1 : Bool), ∃ (n : Int), ∃ (n_1 : Int), ∃ (n_2 : Int), ∃ (n_3 : Int), elPart (List.map topE i.tops) i.a.toNat (0 : Nat) (6 : Nat) = some [D.v (.bool b), D.v (.bool b_1), D.v (.int .i64 n), D.v (.int .i64 n_1), D.v (.int .i64 n_2), D.v (.int .i64 n_3)] ∧ ((0 : Int) ≤ i.b ∧ i.b < (↑(List.map topE i.tops).length : Int)) ∧ ∃ (b_2 : Bool), ∃ (b_3 : Bool), ∃ (n_4 : Int), ∃ (n_5 : Int), ∃ (n_6 : Int), ∃ (n_7 : Int), elPart (List.map topE i.tops) i.b.toNat (0 : Nat) (6 : Nat) = some [D.v (.bool b_2), D.v (.bool b_3), D.v (.int .i64 n_4), D.v (.int .i64 n_5), D.v (.int .i64 n_6), D.v (.int .i64 n_7)] ∧ (True ∧ (((0 : Int) ≤ i.b ∧ i.b < (↑(List.map topE i.tops).length : Int)) ∧ i.b.toNat = i.b.toNat) ∧ i.b = i.b ∧ True ∧ True ∧ (((0 : Int) ≤ i.a ∧ i.a < (↑(List.map topE i.tops).length : Int)) ∧ i.a.toNat = i.a.toNat) ∧ i.a = i.a ∧ True ∧ True ∧ (((0 : Int) ≤ i.b ∧ i.b < (↑(List.map topE i.tops).length : Int)) ∧ i.b.toNat = i.b.toNat) ∧ i.b = i.b ∧ True ∧ True ∧ (((0 : Int) ≤ i.a ∧ i.a < (↑(List.map topE i.tops).length : Int)) ∧ i.a.toNat = i.a.toNat) ∧ i.a = i.a ∧ True ∧ True ∧ (((0 : Int) ≤ i.b ∧ i.b < (↑(List.map topE i.tops).length : Int)) ∧ i.b.toNat = i.b.toNat) ∧ i.b = i.b ∧ True ∧ cnd (!b) (∃ (o : Unit), AObj.fro (6 : Nat) (List.map topE i.tops) = MkU (i.tops, i.out) (1 : Nat) ∧ List.map quoteE (i.out ++ mkq i.tops (Leg.mk i.a (1 : Int)) (Leg.mk i.b (2 : Int)) i.less) = List.map quoteE i.out ∧ True) (cnd (!b_3) (∃ (o : Unit), AObj.fro (6 : Nat) (List.map topE i.tops) = MkU (i.tops, i.out) (1 : Nat) ∧ List.map quoteE (i.out ++ mkq i.tops (Leg.mk i.a (1 : Int)) (Leg.mk i.b (2 : Int)) i.less) = List.map quoteE i.out ∧ True) (∃ (i_1 : I2), i_1.x = n ∧ i_1.y = n_5 ∧ (((-9223372036854775808 : Int) ≤ i_1.x ∧ i_1.x ≤ (9223372036854775807 : Int)) ∧ (-9223372036854775808 : Int) ≤ i_1.y ∧ i_1.y ≤ (9223372036854775807 : Int)) ∧ ∀ (o : Unit), True → cnd i.less (∃ (i_2 : I2), i_2.x = n_5 ∧ i_2.y = n ∧ (((-9223372036854775808 : Int) ≤ i_2.x ∧ i_2.x ≤ (9223372036854775807 : Int)) ∧ (-9223372036854775808 : Int) ≤ i_2.y ∧ i_2.y ≤ (9223372036854775807 : Int)) ∧ ∀ (o : Unit), True → cnd (subP i_2.x i_2.y).snd (True ∧ ((List.map quoteE i.out).length + (1 : Nat)) * (48 : Nat) ≤ (70368744177664 : Nat) ∧ ∃ (o : Unit), AObj.fro (6 : Nat) (List.map topE i.tops) = MkU (i.tops, i.out) (1 : Nat) ∧ List.map quoteE (i.out ++ mkq i.tops (Leg.mk i.a (1 : Int)) (Leg.mk i.b (2 : Int)) i.less) = List.map quoteE i.out ++ [[D.v (.int .i64 (subP i_2.x i_2.y).fst), D.v (.int .i64 (if n_7 < n_2 then n_7 else n_2)), D.v (.int .i64 i.a), D.v (.int .i64 1), D.v (.int .i64 i.b), D.v (.int .i64 2)]] ∧ True) (∃ (o : Unit), AObj.fro (6 : Nat) (List.map topE i.tops) = MkU (i.tops, i.out) (1 : Nat) ∧ List.map quoteE (i.out ++ mkq i.tops (Leg.mk i.a (1 : Int)) (Leg.mk i.b (2 : Int)) i.less) = List.map quoteE i.out ∧ True)) (cnd (addP i_1.x i_1.y).snd (True ∧ ((List.map quoteE i.out).length + (1 : Nat)) * (48 : Nat) ≤ (70368744177664 : Nat) ∧ ∃ (o : Unit), AObj.fro (6 : Nat) (List.map topE i.tops) = MkU (i.tops, i.out) (1 : Nat) ∧ List.map quoteE (i.out ++ mkq i.tops (Leg.mk i.a (1 : Int)) (Leg.mk i.b (2 : Int)) i.less) = List.map quoteE i.out ++ [[D.v (.int .i64 (addP i_1.x i_1.y).fst), D.v (.int .i64 (if n_7 < n_2 then n_7 else n_2)), D.v (.int .i64 i.a), D.v (.int .i64 1), D.v (.int .i64 i.b), D.v (.int .i64 2)]] ∧ True) (∃ (o : Unit), AObj.fro (6 : Nat) (List.map topE i.tops) = MkU (i.tops, i.out) (1 : Nat) ∧ List.map quoteE (i.out ++ mkq i.tops (Leg.mk i.a (1 : Int)) (Leg.mk i.b (2 : Int)) i.less) = List.map quoteE i.out ∧ True))))) ∧ True ∧ (((0 : Int) ≤ i.b ∧ i.b < (↑(List.map topE i.tops).length : Int)) ∧ i.b.toNat = i.b.toNat) ∧ i.b = i.b ∧ True ∧ True ∧ (((0 : Int) ≤ i.a ∧ i.a < (↑(List.map topE i.tops).length : Int)) ∧ i.a.toNat = i.a.toNat) ∧ i.a = i.a ∧ True ∧ True ∧ (((0 : Int) ≤ i.b ∧ i.b < (↑(List.map topE i.tops).length : Int)) ∧ i.b.toNat = i.b.toNat) ∧ i.b = i.b ∧ True ∧ True ∧ (((0 : Int) ≤ i.a ∧ i.a < (↑(List.map topE i.tops).length : Int)) ∧ i.a.toNat = i.a.toNat) ∧ i.a = i.a ∧ True ∧ True ∧ (((0 : Int) ≤ i.b ∧ i.b < (↑(List.map topE i.tops).length : Int)) ∧ i.b.toNat = i.b.toNat) ∧ i.b = i.b ∧ True ∧ cnd (!b) (∃ (o : Unit), AObj.fro (6 : Nat) (List.map topE i.tops) = MkU (i.tops, i.out) (1 : Nat) ∧ List.map quoteE (i.out ++ mkq i.tops (Leg.mk i.a (1 : Int)) (Leg.mk i.b (2 : Int)) i.less) = List.map quoteE i.out ∧ True) (cnd (!b_3) (∃ (o : Unit), AObj.fro (6 : Nat) (List.map topE i.tops) = MkU (i.tops, i.out) (1 : Nat) ∧ List.map quoteE (i.out ++ mkq i.tops (Leg.mk i.a (1 : Int)) (Leg.mk i.b (2 : Int)) i.less) = List.map quoteE i.out ∧ True) (∃ (i_1 : I2), i_1.x = n ∧ i_1.y = n_5 ∧ (((-9223372036854775808 : Int) ≤ i_1.x ∧ i_1.x ≤ (9223372036854775807 : Int)) ∧ (-9223372036854775808 : Int) ≤ i_1.y ∧ i_1.y ≤ (9223372036854775807 : Int)) ∧ ∀ (o : Unit), True → cnd i.less (∃ (i_2 : I2), i_2.x = n_5 ∧ i_2.y = n ∧ (((-9223372036854775808 : Int) ≤ i_2.x ∧ i_2.x ≤ (9223372036854775807 : Int)) ∧ (-9223372036854775808 : Int) ≤ i_2.y ∧ i_2.y ≤ (9223372036854775807 : Int)) ∧ ∀ (o : Unit), True → cnd (subP i_2.x i_2.y).snd (True ∧ ((List.map quoteE i.out).length + (1 : Nat)) * (48 : Nat) ≤ (70368744177664 : Nat) ∧ ∃ (o : Unit), AObj.fro (6 : Nat) (List.map topE i.tops) = MkU (i.tops, i.out) (1 : Nat) ∧ List.map quoteE (i.out ++ mkq i.tops (Leg.mk i.a (1 : Int)) (Leg.mk i.b (2 : Int)) i.less) = List.map quoteE i.out ++ [[D.v (.int .i64 (subP i_2.x i_2.y).fst), D.v (.int .i64 (if n_7 < n_2 then n_7 else n_2)), D.v (.int .i64 i.a), D.v (.int .i64 1), D.v (.int .i64 i.b), D.v (.int .i64 2)]] ∧ True) (∃ (o : Unit), AObj.fro (6 : Nat) (List.map topE i.tops) = MkU (i.tops, i.out) (1 : Nat) ∧ List.map quoteE (i.out ++ mkq i.tops (Leg.mk i.a (1 : Int)) (Leg.mk i.b (2 : Int)) i.less) = List.map quoteE i.out ∧ True)) (cnd (addP i_1.x i_1.y).snd (True ∧ ((List.map quoteE i.out).length + (1 : Nat)) * (48 : Nat) ≤ (70368744177664 : Nat) ∧ ∃ (o : Unit), AObj.fro (6 : Nat) (List.map topE i.tops) = MkU (i.tops, i.out) (1 : Nat) ∧ List.map quoteE (i.out ++ mkq i.tops (Leg.mk i.a (1 : Int)) (Leg.mk i.b (2 : Int)) i.less) = List.map quoteE i.out ++ [[D.v (.int .i64 (addP i_1.x i_1.y).fst), D.v (.int .i64 (if n_7 < n_2 then n_7 else n_2)), D.v (.int .i64 i.a), D.v (.int .i64 1), D.v (.int .i64 i.b), D.v (.int .i64 2)]] ∧ True) (∃ (o : Unit), AObj.fro (6 : Nat) (List.map topE i.tops) = MkU (i.tops, i.out) (1 : Nat) ∧ List.map quoteE (i.out ++ mkq i.tops (Leg.mk i.a (1 : Int)) (Leg.mk i.b (2 : Int)) i.less) = List.map quoteE i.out ∧ True))))
theorem eqmk12 (i : MkI) : Vmk12 i = walk Try.prog ([(93, addC), (94, subC)]) 0 ([]) ([]) [] Try.f83 (Try.f83.body.getD .skip) (mk12.pat i) (mk12.pre i) (mk12.alts i) := by kernel_rfl

theorem bymk12 (hG : GOk Try.prog ([(93, addC), (94, subC)])) (h : ∀ (i : MkI), mk12.cnd i → Vmk12 i) : mk12.ok Try.prog 83 := ok_of_walk mixed ([(93, addC), (94, subC)]) hG 0 (fun (i : MkI) => []) (fun (i : MkI) => []) [] Try.func83 (by kernel_rfl) (by kernel_rfl) (by kernel_rfl) (fun _ => by kernel_rfl) (fun (i : MkI) hc => Eq.mp (eqmk12 i) (h i hc))

def Vmk21 (i : MkI) : Prop :=
  ((0 : Int) ≤ i.a ∧ i.a < (↑(List.map topE i.tops).length : Int)) ∧ ∃ (b : Bool), ∃ (b_1 : Bool), ∃ (n : Int), ∃ (n_1 : Int), ∃ (n_2 : Int), ∃ (n_3 : Int), elPart (List.map topE i.tops) i.a.toNat (0 : Nat) (6 : Nat) = some [D.v (.bool b), D.v (.bool b_1), D.v (.int .i64 n), D.v (.int .i64 n_1), D.v (.int .i64 n_2), D.v (.int .i64 n_3)] ∧ ((0 : Int) ≤ i.b ∧ i.b < (↑(List.map topE i.tops).length : Int)) ∧ ∃ (b : Bool), ∃ (b_2 : Bool), ∃ (n : Int), ∃ (n_4 : Int), ∃ (n_5 : Int), ∃ (n_6 : Int), elPart (List.map topE i.tops) i.b.toNat (0 : Nat) (6 : Nat) = some [D.v (.bool b), D.v (.bool b_2), D.v (.int .i64 n), D.v (.int .i64 n_4), D.v (.int .i64 n_5), D.v (.int .i64 n_6)] ∧ (True ∧ (((0 : Int) ≤ i.b ∧ i.b < (↑(List.map topE i.tops).length : Int)) ∧ i.b.toNat = i.b.toNat) ∧ i.b = i.b ∧ True ∧ True ∧ (((0 : Int) ≤ i.a ∧ i.a < (↑(List.map topE i.tops).length : Int)) ∧ i.a.toNat = i.a.toNat) ∧ i.a = i.a ∧ True ∧ True ∧ (((0 : Int) ≤ i.b ∧ i.b < (↑(List.map topE i.tops).length : Int)) ∧ i.b.toNat = i.b.toNat) ∧ i.b = i.b ∧ True ∧ True ∧ (((0 : Int) ≤ i.a ∧ i.a < (↑(List.map topE i.tops).length : Int)) ∧ i.a.toNat = i.a.toNat) ∧ i.a = i.a ∧ True ∧ True ∧ (((0 : Int) ≤ i.b ∧ i.b < (↑(List.map topE i.tops).length : Int)) ∧ i.b.toNat = i.b.toNat) ∧ i.b = i.b ∧ True ∧ cnd (!b_1) (∃ (o : Unit), AObj.fro (6 : Nat) (List.map topE i.tops) = MkU (i.tops, i.out) (1 : Nat) ∧ List.map quoteE (i.out ++ mkq i.tops (Leg.mk i.a (2 : Int)) (Leg.mk i.b (1 : Int)) i.less) = List.map quoteE i.out ∧ True) (cnd (!b) (∃ (o : Unit), AObj.fro (6 : Nat) (List.map topE i.tops) = MkU (i.tops, i.out) (1 : Nat) ∧ List.map quoteE (i.out ++ mkq i.tops (Leg.mk i.a (2 : Int)) (Leg.mk i.b (1 : Int)) i.less) = List.map quoteE i.out ∧ True) (∃ (i_1 : I2), i_1.x = n_1 ∧ i_1.y = n ∧ (((-9223372036854775808 : Int) ≤ i_1.x ∧ i_1.x ≤ (9223372036854775807 : Int)) ∧ (-9223372036854775808 : Int) ≤ i_1.y ∧ i_1.y ≤ (9223372036854775807 : Int)) ∧ ∀ (o : Unit), True → cnd i.less (∃ (i_2 : I2), i_2.x = n ∧ i_2.y = n_1 ∧ (((-9223372036854775808 : Int) ≤ i_2.x ∧ i_2.x ≤ (9223372036854775807 : Int)) ∧ (-9223372036854775808 : Int) ≤ i_2.y ∧ i_2.y ≤ (9223372036854775807 : Int)) ∧ ∀ (o : Unit), True → cnd (subP i_2.x i_2.y).snd (True ∧ ((List.map quoteE i.out).length + (1 : Nat)) * (48 : Nat) ≤ (70368744177664 : Nat) ∧ ∃ (o : Unit), AObj.fro (6 : Nat) (List.map topE i.tops) = MkU (i.tops, i.out) (1 : Nat) ∧ List.map quoteE (i.out ++ mkq i.tops (Leg.mk i.a (2 : Int)) (Leg.mk i.b (1 : Int)) i.less) = List.map quoteE i.out ++ [[D.v (.int .i64 (subP i_2.x i_2.y).fst), D.v (.int .i64 (if n_5 < n_3 then n_5 else n_3)), D.v (.int .i64 i.a), D.v (.int .i64 2), D.v (.int .i64 i.b), D.v (.int .i64 1)]] ∧ True) (∃ (o : Unit), AObj.fro (6 : Nat) (List.map topE i.tops) = MkU (i.tops, i.out) (1 : Nat) ∧ List.map quoteE (i.out ++ mkq i.tops (Leg.mk i.a (2 : Int)) (Leg.mk i.b (1 : Int)) i.less) = List.map quoteE i.out ∧ True)) (cnd (addP i_1.x i_1.y).snd (True ∧ ((List.map quoteE i.out).length + (1 : Nat)) * (48 : Nat) ≤ (70368744177664 : Nat) ∧ ∃ (o : Unit), AObj.fro (6 : Nat) (List.map topE i.tops) = MkU (i.tops, i.out) (1 : Nat) ∧ List.map quoteE (i.out ++ mkq i.tops (Leg.mk i.a (2 : Int)) (Leg.mk i.b (1 : Int)) i.less) = List.map quoteE i.out ++ [[D.v (.int .i64 (addP i_1.x i_1.y).fst), D.v (.int .i64 (if n_5 < n_3 then n_5 else n_3)), D.v (.int .i64 i.a), D.v (.int .i64 2), D.v (.int .i64 i.b), D.v (.int .i64 1)]] ∧ True) (∃ (o : Unit), AObj.fro (6 : Nat) (List.map topE i.tops) = MkU (i.tops, i.out) (1 : Nat) ∧ List.map quoteE (i.out ++ mkq i.tops (Leg.mk i.a (2 : Int)) (Leg.mk i.b (1 : Int)) i.less) = List.map quoteE i.out ∧ True))))) ∧ True ∧ (((0 : Int) ≤ i.b ∧ i.b < (↑(List.map topE i.tops).length : Int)) ∧ i.b.toNat = i.b.toNat) ∧ i.b = i.b ∧ True ∧ True ∧ (((0 : Int) ≤ i.a ∧ i.a < (↑(List.map topE i.tops).length : Int)) ∧ i.a.toNat = i.a.toNat) ∧ i.a = i.a ∧ True ∧ True ∧ (((0 : Int) ≤ i.b ∧ i.b < (↑(List.map topE i.tops).length : Int)) ∧ i.b.toNat = i.b.toNat) ∧ i.b = i.b ∧ True ∧ True ∧ (((0 : Int) ≤ i.a ∧ i.a < (↑(List.map topE i.tops).length : Int)) ∧ i.a.toNat = i.a.toNat) ∧ i.a = i.a ∧ True ∧ True ∧ (((0 : Int) ≤ i.b ∧ i.b < (↑(List.map topE i.tops).length : Int)) ∧ i.b.toNat = i.b.toNat) ∧ i.b = i.b ∧ True ∧ cnd (!b_1) (∃ (o : Unit), AObj.fro (6 : Nat) (List.map topE i.tops) = MkU (i.tops, i.out) (1 : Nat) ∧ List.map quoteE (i.out ++ mkq i.tops (Leg.mk i.a (2 : Int)) (Leg.mk i.b (1 : Int)) i.less) = List.map quoteE i.out ∧ True) (cnd (!b) (∃ (o : Unit), AObj.fro (6 : Nat) (List.map topE i.tops) = MkU (i.tops, i.out) (1 : Nat) ∧ List.map quoteE (i.out ++ mkq i.tops (Leg.mk i.a (2 : Int)) (Leg.mk i.b (1 : Int)) i.less) = List.map quoteE i.out ∧ True) (∃ (i_1 : I2), i_1.x = n_1 ∧ i_1.y = n ∧ (((-9223372036854775808 : Int) ≤ i_1.x ∧ i_1.x ≤ (9223372036854775807 : Int)) ∧ (-9223372036854775808 : Int) ≤ i_1.y ∧ i_1.y ≤ (9223372036854775807 : Int)) ∧ ∀ (o : Unit), True → cnd i.less (∃ (i_2 : I2), i_2.x = n ∧ i_2.y = n_1 ∧ (((-9223372036854775808 : Int) ≤ i_2.x ∧ i_2.x ≤ (9223372036854775807 : Int)) ∧ (-9223372036854775808 : Int) ≤ i_2.y ∧ i_2.y ≤ (9223372036854775807 : Int)) ∧ ∀ (o : Unit), True → cnd (subP i_2.x i_2.y).snd (True ∧ ((List.map quoteE i.out).length + (1 : Nat)) * (48 : Nat) ≤ (70368744177664 : Nat) ∧ ∃ (o : Unit), AObj.fro (6 : Nat) (List.map topE i.tops) = MkU (i.tops, i.out) (1 : Nat) ∧ List.map quoteE (i.out ++ mkq i.tops (Leg.mk i.a (2 : Int)) (Leg.mk i.b (1 : Int)) i.less) = List.map quoteE i.out ++ [[D.v (.int .i64 (subP i_2.x i_2.y).fst), D.v (.int .i64 (if n_5 < n_3 then n_5 else n_3)), D.v (.int .i64 i.a), D.v (.int .i64 2), D.v (.int .i64 i.b), D.v (.int .i64 1)]] ∧ True) (∃ (o : Unit), AObj.fro (6 : Nat) (List.map topE i.tops) = MkU (i.tops, i.out) (1 : Nat) ∧ List.map quoteE (i.out ++ mkq i.tops (Leg.mk i.a (2 : Int)) (Leg.mk i.b (1 : Int)) i.less) = List.map quoteE i.out ∧ True)) (cnd (addP i_1.x i_1.y).snd (True ∧ ((List.map quoteE i.out).length + (1 : Nat)) * (48 : Nat) ≤ (70368744177664 : Nat) ∧ ∃ (o : Unit), AObj.fro (6 : Nat) (List.map topE i.tops) = MkU (i.tops, i.out) (1 : Nat) ∧ List.map quoteE (i.out ++ mkq i.tops (Leg.mk i.a (2 : Int)) (Leg.mk i.b (1 : Int)) i.less) = List.map quoteE i.out ++ [[D.v (.int .i64 (addP i_1.x i_1.y).fst), D.v (.int .i64 (if n_5 < n_3 then n_5 else n_3)), D.v (.int .i64 i.a), D.v (.int .i64 2), D.v (.int .i64 i.b), D.v (.int .i64 1)]] ∧ True) (∃ (o : Unit), AObj.fro (6 : Nat) (List.map topE i.tops) = MkU (i.tops, i.out) (1 : Nat) ∧ List.map quoteE (i.out ++ mkq i.tops (Leg.mk i.a (2 : Int)) (Leg.mk i.b (1 : Int)) i.less) = List.map quoteE i.out ∧ True))))
theorem eqmk21 (i : MkI) : Vmk21 i = walk Try.prog ([(93, addC), (94, subC)]) 0 ([]) ([]) [] Try.f83 (Try.f83.body.getD .skip) (mk21.pat i) (mk21.pre i) (mk21.alts i) := by kernel_rfl

theorem bymk21 (hG : GOk Try.prog ([(93, addC), (94, subC)])) (h : ∀ (i : MkI), mk21.cnd i → Vmk21 i) : mk21.ok Try.prog 83 := ok_of_walk mixed ([(93, addC), (94, subC)]) hG 0 (fun (i : MkI) => []) (fun (i : MkI) => []) [] Try.func83 (by kernel_rfl) (by kernel_rfl) (by kernel_rfl) (fun _ => by kernel_rfl) (fun (i : MkI) hc => Eq.mp (eqmk21 i) (h i hc))

def Vmk22 (i : MkI) : Prop :=
  ((0 : Int) ≤ i.a ∧ i.a < (↑(List.map topE i.tops).length : Int)) ∧ ∃ (b : Bool), ∃ (b_1 : Bool), ∃ (n : Int), ∃ (n_1 : Int), ∃ (n_2 : Int), ∃ (n_3 : Int), elPart (List.map topE i.tops) i.a.toNat (0 : Nat) (6 : Nat) = some [D.v (.bool b), D.v (.bool b_1), D.v (.int .i64 n), D.v (.int .i64 n_1), D.v (.int .i64 n_2), D.v (.int .i64 n_3)] ∧ ((0 : Int) ≤ i.b ∧ i.b < (↑(List.map topE i.tops).length : Int)) ∧ ∃ (b : Bool), ∃ (b_2 : Bool), ∃ (n : Int), ∃ (n_4 : Int), ∃ (n_5 : Int), ∃ (n_6 : Int), elPart (List.map topE i.tops) i.b.toNat (0 : Nat) (6 : Nat) = some [D.v (.bool b), D.v (.bool b_2), D.v (.int .i64 n), D.v (.int .i64 n_4), D.v (.int .i64 n_5), D.v (.int .i64 n_6)] ∧ (True ∧ (((0 : Int) ≤ i.b ∧ i.b < (↑(List.map topE i.tops).length : Int)) ∧ i.b.toNat = i.b.toNat) ∧ i.b = i.b ∧ True ∧ True ∧ (((0 : Int) ≤ i.a ∧ i.a < (↑(List.map topE i.tops).length : Int)) ∧ i.a.toNat = i.a.toNat) ∧ i.a = i.a ∧ True ∧ True ∧ (((0 : Int) ≤ i.b ∧ i.b < (↑(List.map topE i.tops).length : Int)) ∧ i.b.toNat = i.b.toNat) ∧ i.b = i.b ∧ True ∧ True ∧ (((0 : Int) ≤ i.a ∧ i.a < (↑(List.map topE i.tops).length : Int)) ∧ i.a.toNat = i.a.toNat) ∧ i.a = i.a ∧ True ∧ True ∧ (((0 : Int) ≤ i.b ∧ i.b < (↑(List.map topE i.tops).length : Int)) ∧ i.b.toNat = i.b.toNat) ∧ i.b = i.b ∧ True ∧ cnd (!b_1) (∃ (o : Unit), AObj.fro (6 : Nat) (List.map topE i.tops) = MkU (i.tops, i.out) (1 : Nat) ∧ List.map quoteE (i.out ++ mkq i.tops (Leg.mk i.a (2 : Int)) (Leg.mk i.b (2 : Int)) i.less) = List.map quoteE i.out ∧ True) (cnd (!b_2) (∃ (o : Unit), AObj.fro (6 : Nat) (List.map topE i.tops) = MkU (i.tops, i.out) (1 : Nat) ∧ List.map quoteE (i.out ++ mkq i.tops (Leg.mk i.a (2 : Int)) (Leg.mk i.b (2 : Int)) i.less) = List.map quoteE i.out ∧ True) (∃ (i_1 : I2), i_1.x = n_1 ∧ i_1.y = n_4 ∧ (((-9223372036854775808 : Int) ≤ i_1.x ∧ i_1.x ≤ (9223372036854775807 : Int)) ∧ (-9223372036854775808 : Int) ≤ i_1.y ∧ i_1.y ≤ (9223372036854775807 : Int)) ∧ ∀ (o : Unit), True → cnd i.less (∃ (i_2 : I2), i_2.x = n_4 ∧ i_2.y = n_1 ∧ (((-9223372036854775808 : Int) ≤ i_2.x ∧ i_2.x ≤ (9223372036854775807 : Int)) ∧ (-9223372036854775808 : Int) ≤ i_2.y ∧ i_2.y ≤ (9223372036854775807 : Int)) ∧ ∀ (o : Unit), True → cnd (subP i_2.x i_2.y).snd (True ∧ ((List.map quoteE i.out).length + (1 : Nat)) * (48 : Nat) ≤ (70368744177664 : Nat) ∧ ∃ (o : Unit), AObj.fro (6 : Nat) (List.map topE i.tops) = MkU (i.tops, i.out) (1 : Nat) ∧ List.map quoteE (i.out ++ mkq i.tops (Leg.mk i.a (2 : Int)) (Leg.mk i.b (2 : Int)) i.less) = List.map quoteE i.out ++ [[D.v (.int .i64 (subP i_2.x i_2.y).fst), D.v (.int .i64 (if n_6 < n_3 then n_6 else n_3)), D.v (.int .i64 i.a), D.v (.int .i64 2), D.v (.int .i64 i.b), D.v (.int .i64 2)]] ∧ True) (∃ (o : Unit), AObj.fro (6 : Nat) (List.map topE i.tops) = MkU (i.tops, i.out) (1 : Nat) ∧ List.map quoteE (i.out ++ mkq i.tops (Leg.mk i.a (2 : Int)) (Leg.mk i.b (2 : Int)) i.less) = List.map quoteE i.out ∧ True)) (cnd (addP i_1.x i_1.y).snd (True ∧ ((List.map quoteE i.out).length + (1 : Nat)) * (48 : Nat) ≤ (70368744177664 : Nat) ∧ ∃ (o : Unit), AObj.fro (6 : Nat) (List.map topE i.tops) = MkU (i.tops, i.out) (1 : Nat) ∧ List.map quoteE (i.out ++ mkq i.tops (Leg.mk i.a (2 : Int)) (Leg.mk i.b (2 : Int)) i.less) = List.map quoteE i.out ++ [[D.v (.int .i64 (addP i_1.x i_1.y).fst), D.v (.int .i64 (if n_6 < n_3 then n_6 else n_3)), D.v (.int .i64 i.a), D.v (.int .i64 2), D.v (.int .i64 i.b), D.v (.int .i64 2)]] ∧ True) (∃ (o : Unit), AObj.fro (6 : Nat) (List.map topE i.tops) = MkU (i.tops, i.out) (1 : Nat) ∧ List.map quoteE (i.out ++ mkq i.tops (Leg.mk i.a (2 : Int)) (Leg.mk i.b (2 : Int)) i.less) = List.map quoteE i.out ∧ True))))) ∧ True ∧ (((0 : Int) ≤ i.b ∧ i.b < (↑(List.map topE i.tops).length : Int)) ∧ i.b.toNat = i.b.toNat) ∧ i.b = i.b ∧ True ∧ True ∧ (((0 : Int) ≤ i.a ∧ i.a < (↑(List.map topE i.tops).length : Int)) ∧ i.a.toNat = i.a.toNat) ∧ i.a = i.a ∧ True ∧ True ∧ (((0 : Int) ≤ i.b ∧ i.b < (↑(List.map topE i.tops).length : Int)) ∧ i.b.toNat = i.b.toNat) ∧ i.b = i.b ∧ True ∧ True ∧ (((0 : Int) ≤ i.a ∧ i.a < (↑(List.map topE i.tops).length : Int)) ∧ i.a.toNat = i.a.toNat) ∧ i.a = i.a ∧ True ∧ True ∧ (((0 : Int) ≤ i.b ∧ i.b < (↑(List.map topE i.tops).length : Int)) ∧ i.b.toNat = i.b.toNat) ∧ i.b = i.b ∧ True ∧ cnd (!b_1) (∃ (o : Unit), AObj.fro (6 : Nat) (List.map topE i.tops) = MkU (i.tops, i.out) (1 : Nat) ∧ List.map quoteE (i.out ++ mkq i.tops (Leg.mk i.a (2 : Int)) (Leg.mk i.b (2 : Int)) i.less) = List.map quoteE i.out ∧ True) (cnd (!b_2) (∃ (o : Unit), AObj.fro (6 : Nat) (List.map topE i.tops) = MkU (i.tops, i.out) (1 : Nat) ∧ List.map quoteE (i.out ++ mkq i.tops (Leg.mk i.a (2 : Int)) (Leg.mk i.b (2 : Int)) i.less) = List.map quoteE i.out ∧ True) (∃ (i_1 : I2), i_1.x = n_1 ∧ i_1.y = n_4 ∧ (((-9223372036854775808 : Int) ≤ i_1.x ∧ i_1.x ≤ (9223372036854775807 : Int)) ∧ (-9223372036854775808 : Int) ≤ i_1.y ∧ i_1.y ≤ (9223372036854775807 : Int)) ∧ ∀ (o : Unit), True → cnd i.less (∃ (i_2 : I2), i_2.x = n_4 ∧ i_2.y = n_1 ∧ (((-9223372036854775808 : Int) ≤ i_2.x ∧ i_2.x ≤ (9223372036854775807 : Int)) ∧ (-9223372036854775808 : Int) ≤ i_2.y ∧ i_2.y ≤ (9223372036854775807 : Int)) ∧ ∀ (o : Unit), True → cnd (subP i_2.x i_2.y).snd (True ∧ ((List.map quoteE i.out).length + (1 : Nat)) * (48 : Nat) ≤ (70368744177664 : Nat) ∧ ∃ (o : Unit), AObj.fro (6 : Nat) (List.map topE i.tops) = MkU (i.tops, i.out) (1 : Nat) ∧ List.map quoteE (i.out ++ mkq i.tops (Leg.mk i.a (2 : Int)) (Leg.mk i.b (2 : Int)) i.less) = List.map quoteE i.out ++ [[D.v (.int .i64 (subP i_2.x i_2.y).fst), D.v (.int .i64 (if n_6 < n_3 then n_6 else n_3)), D.v (.int .i64 i.a), D.v (.int .i64 2), D.v (.int .i64 i.b), D.v (.int .i64 2)]] ∧ True) (∃ (o : Unit), AObj.fro (6 : Nat) (List.map topE i.tops) = MkU (i.tops, i.out) (1 : Nat) ∧ List.map quoteE (i.out ++ mkq i.tops (Leg.mk i.a (2 : Int)) (Leg.mk i.b (2 : Int)) i.less) = List.map quoteE i.out ∧ True)) (cnd (addP i_1.x i_1.y).snd (True ∧ ((List.map quoteE i.out).length + (1 : Nat)) * (48 : Nat) ≤ (70368744177664 : Nat) ∧ ∃ (o : Unit), AObj.fro (6 : Nat) (List.map topE i.tops) = MkU (i.tops, i.out) (1 : Nat) ∧ List.map quoteE (i.out ++ mkq i.tops (Leg.mk i.a (2 : Int)) (Leg.mk i.b (2 : Int)) i.less) = List.map quoteE i.out ++ [[D.v (.int .i64 (addP i_1.x i_1.y).fst), D.v (.int .i64 (if n_6 < n_3 then n_6 else n_3)), D.v (.int .i64 i.a), D.v (.int .i64 2), D.v (.int .i64 i.b), D.v (.int .i64 2)]] ∧ True) (∃ (o : Unit), AObj.fro (6 : Nat) (List.map topE i.tops) = MkU (i.tops, i.out) (1 : Nat) ∧ List.map quoteE (i.out ++ mkq i.tops (Leg.mk i.a (2 : Int)) (Leg.mk i.b (2 : Int)) i.less) = List.map quoteE i.out ∧ True))))
theorem eqmk22 (i : MkI) : Vmk22 i = walk Try.prog ([(93, addC), (94, subC)]) 0 ([]) ([]) [] Try.f83 (Try.f83.body.getD .skip) (mk22.pat i) (mk22.pre i) (mk22.alts i) := by kernel_rfl

theorem bymk22 (hG : GOk Try.prog ([(93, addC), (94, subC)])) (h : ∀ (i : MkI), mk22.cnd i → Vmk22 i) : mk22.ok Try.prog 83 := ok_of_walk mixed ([(93, addC), (94, subC)]) hG 0 (fun (i : MkI) => []) (fun (i : MkI) => []) [] Try.func83 (by kernel_rfl) (by kernel_rfl) (by kernel_rfl) (fun _ => by kernel_rfl) (fun (i : MkI) hc => Eq.mp (eqmk22 i) (h i hc))

end Sx

namespace Sx
set_option linter.unusedVariables false
set_option linter.unusedSimpArgs false
set_option maxRecDepth 100000
open Go Cv Go.Proofs

theorem iother_ok : iotherC.ok Try.prog 82 := byiother gok0 fun n h => by
  have h : n = 1 ∨ n = 2 := h
  refine ⟨(), ?_, trivial⟩
  rw [w64 (by omega)]
theorem ibetter_ok : ibetterC.ok Try.prog 64 := byibetter gok0 fun i _ => by
  refine Cv.cnd.mk (fun e => ⟨(), ?_, trivial⟩) (fun e => ⟨(), ?_, trivial⟩)
  · have e : i.side = 1 := by simpa using e
    simp [btr, e]
  · have e : i.side ≠ 1 := by simpa using e
    simp [btr, e]
theorem cross_ok : crossC.ok Try.prog 44 := bycross gok0 fun i _ => by
  refine Cv.cnd.mk (fun e => ⟨(), ?_, trivial⟩) (fun e => ⟨(), ?_, trivial⟩)
  · have e : i.b = true := e
    rw [e, Bool.true_and]
  · have e : i.b = false := e
    rw [e, Bool.false_and]

theorem minE (a b : Int) : (if b < a then b else a) = min a b := by split <;> omega

theorem vmk11 (i : MkI) (h : mk11.cnd i) : Vmk11 i := by
  obtain ⟨a0, a1, b0, b1, ⟨ht, hp⟩, ho⟩ : 0 ≤ i.a ∧ i.a < i.tops.length ∧ 0 ≤ i.b ∧ i.b < i.tops.length ∧ topsOk i.tops ∧ i.out.length ≤ 1000 := h
  obtain ⟨x, hx⟩ := getI (l := i.tops) (i := i.a.toNat) (by omega)
  obtain ⟨y, hy⟩ := getI (l := i.tops) (i := i.b.toNat) (by omega)
  obtain ⟨⟨px1, px2⟩, px3, px4⟩ := hp x (List.mem_of_getElem? hx)
  obtain ⟨⟨py1, py2⟩, py3, py4⟩ := hp y (List.mem_of_getElem? hy)
  have e0 : mkq i.tops ⟨i.a, 1⟩ ⟨i.b, 1⟩ i.less = if x.has1 && y.has1 && (if i.less then subP y.p1 x.p1 else addP x.p1 y.p1).2 then [⟨(if i.less then subP y.p1 x.p1 else addP x.p1 y.p1).1, min x.q1 y.q1, ⟨i.a, 1⟩, ⟨i.b, 1⟩⟩] else [] := by
    simp only [mkq, List.getD_eq_getElem?_getD, hx, hy, Option.getD_some]; rfl
  unfold Vmk11
  simp only [List.length_map]
  refine ⟨⟨by omega, by omega⟩, x.has1, x.has2, x.p1, x.p2, x.q1, x.q2, elA hx (by simp [topE]) rfl, ⟨by omega, by omega⟩, y.has1, y.has2, y.p1, y.p2, y.q1, y.q2, elA hy (by simp [topE]) rfl, ?_⟩
  rw [e0]
  (repeat' (first | exact rfl | exact trivial | assumption | apply And.intro | (refine fun (_ : Unit) (_ : True) => ?_) | (refine Exists.intro () ?_) | omega | (dsimp only; omega)))
  all_goals
    refine Cv.cnd.mk (fun c1 => ?_) (fun c1 => Cv.cnd.mk (fun c2 => ?_) (fun c2 => ?_))
    · have c1 : x.has1 = false := by simpa using c1
      simp only [c1, Bool.false_and, Bool.false_eq_true, if_false, List.append_nil]; (repeat' (first | exact rfl | exact trivial | assumption | apply And.intro | (refine fun (_ : Unit) (_ : True) => ?_) | (refine Exists.intro () ?_) | omega | (dsimp only; omega)))
    · have c2 : y.has1 = false := by simpa using c2
      simp only [c2, Bool.and_false, Bool.false_and, Bool.false_eq_true, if_false, List.append_nil]; (repeat' (first | exact rfl | exact trivial | assumption | apply And.intro | (refine fun (_ : Unit) (_ : True) => ?_) | (refine Exists.intro () ?_) | omega | (dsimp only; omega)))
    · have c1 : x.has1 = true := by simpa using c1
      have c2 : y.has1 = true := by simpa using c2
      simp only [c1, c2, Bool.true_and, minE]
      refine ⟨⟨x.p1, y.p1⟩, ?_⟩
      (repeat' (first | exact rfl | exact trivial | assumption | apply And.intro | (refine fun (_ : Unit) (_ : True) => ?_) | (refine Exists.intro () ?_) | omega | (dsimp only; omega)))
      refine Cv.cnd.mk (fun c3 => ?_) (fun c3 => ?_)
      · have c3 : i.less = true := c3
        simp only [c3, if_true]
        refine ⟨⟨y.p1, x.p1⟩, ?_⟩
        (repeat' (first | exact rfl | exact trivial | assumption | apply And.intro | (refine fun (_ : Unit) (_ : True) => ?_) | (refine Exists.intro () ?_) | omega | (dsimp only; omega)))
        refine Cv.cnd.mk (fun c4 => ?_) (fun c4 => ?_)
        · have c4 : (subP y.p1 x.p1).2 = true := c4
          simp only [c4, if_true, List.map_append]; (repeat' (first | exact rfl | exact trivial | assumption | apply And.intro | (refine fun (_ : Unit) (_ : True) => ?_) | (refine Exists.intro () ?_) | omega | (dsimp only; omega)))
        · have c4 : (subP y.p1 x.p1).2 = false := c4
          simp only [c4, Bool.false_eq_true, if_false, List.append_nil]; (repeat' (first | exact rfl | exact trivial | assumption | apply And.intro | (refine fun (_ : Unit) (_ : True) => ?_) | (refine Exists.intro () ?_) | omega | (dsimp only; omega)))
      · have c3 : i.less = false := c3
        simp only [c3, Bool.false_eq_true, if_false]
        refine Cv.cnd.mk (fun c4 => ?_) (fun c4 => ?_)
        · have c4 : (addP x.p1 y.p1).2 = true := c4
          simp only [c4, if_true, List.map_append]; (repeat' (first | exact rfl | exact trivial | assumption | apply And.intro | (refine fun (_ : Unit) (_ : True) => ?_) | (refine Exists.intro () ?_) | omega | (dsimp only; omega)))
        · have c4 : (addP x.p1 y.p1).2 = false := c4
          simp only [c4, Bool.false_eq_true, if_false, List.append_nil]; (repeat' (first | exact rfl | exact trivial | assumption | apply And.intro | (refine fun (_ : Unit) (_ : True) => ?_) | (refine Exists.intro () ?_) | omega | (dsimp only; omega)))
theorem mk11_ok : mk11.ok Try.prog 83 := bymk11 (gokc add_ok (gokc sub_ok gok0)) vmk11

theorem vmk12 (i : MkI) (h : mk12.cnd i) : Vmk12 i := by
  obtain ⟨a0, a1, b0, b1, ⟨ht, hp⟩, ho⟩ : 0 ≤ i.a ∧ i.a < i.tops.length ∧ 0 ≤ i.b ∧ i.b < i.tops.length ∧ topsOk i.tops ∧ i.out.length ≤ 1000 := h
  obtain ⟨x, hx⟩ := getI (l := i.tops) (i := i.a.toNat) (by omega)
  obtain ⟨y, hy⟩ := getI (l := i.tops) (i := i.b.toNat) (by omega)
  obtain ⟨⟨px1, px2⟩, px3, px4⟩ := hp x (List.mem_of_getElem? hx)
  obtain ⟨⟨py1, py2⟩, py3, py4⟩ := hp y (List.mem_of_getElem? hy)
  have e0 : mkq i.tops ⟨i.a, 1⟩ ⟨i.b, 2⟩ i.less = if x.has1 && y.has2 && (if i.less then subP y.p2 x.p1 else addP x.p1 y.p2).2 then [⟨(if i.less then subP y.p2 x.p1 else addP x.p1 y.p2).1, min x.q1 y.q2, ⟨i.a, 1⟩, ⟨i.b, 2⟩⟩] else [] := by
    simp only [mkq, List.getD_eq_getElem?_getD, hx, hy, Option.getD_some]; rfl
  unfold Vmk12
  simp only [List.length_map]
  refine ⟨⟨by omega, by omega⟩, x.has1, x.has2, x.p1, x.p2, x.q1, x.q2, elA hx (by simp [topE]) rfl, ⟨by omega, by omega⟩, y.has1, y.has2, y.p1, y.p2, y.q1, y.q2, elA hy (by simp [topE]) rfl, ?_⟩
  rw [e0]
  (repeat' (first | exact rfl | exact trivial | assumption | apply And.intro | (refine fun (_ : Unit) (_ : True) => ?_) | (refine Exists.intro () ?_) | omega | (dsimp only; omega)))
  all_goals
    refine Cv.cnd.mk (fun c1 => ?_) (fun c1 => Cv.cnd.mk (fun c2 => ?_) (fun c2 => ?_))
    · have c1 : x.has1 = false := by simpa using c1
      simp only [c1, Bool.false_and, Bool.false_eq_true, if_false, List.append_nil]; (repeat' (first | exact rfl | exact trivial | assumption | apply And.intro | (refine fun (_ : Unit) (_ : True) => ?_) | (refine Exists.intro () ?_) | omega | (dsimp only; omega)))
    · have c2 : y.has2 = false := by simpa using c2
      simp only [c2, Bool.and_false, Bool.false_and, Bool.false_eq_true, if_false, List.append_nil]; (repeat' (first | exact rfl | exact trivial | assumption | apply And.intro | (refine fun (_ : Unit) (_ : True) => ?_) | (refine Exists.intro () ?_) | omega | (dsimp only; omega)))
    · have c1 : x.has1 = true := by simpa using c1
      have c2 : y.has2 = true := by simpa using c2
      simp only [c1, c2, Bool.true_and, minE]
      refine ⟨⟨x.p1, y.p2⟩, ?_⟩
      (repeat' (first | exact rfl | exact trivial | assumption | apply And.intro | (refine fun (_ : Unit) (_ : True) => ?_) | (refine Exists.intro () ?_) | omega | (dsimp only; omega)))
      refine Cv.cnd.mk (fun c3 => ?_) (fun c3 => ?_)
      · have c3 : i.less = true := c3
        simp only [c3, if_true]
        refine ⟨⟨y.p2, x.p1⟩, ?_⟩
        (repeat' (first | exact rfl | exact trivial | assumption | apply And.intro | (refine fun (_ : Unit) (_ : True) => ?_) | (refine Exists.intro () ?_) | omega | (dsimp only; omega)))
        refine Cv.cnd.mk (fun c4 => ?_) (fun c4 => ?_)
        · have c4 : (subP y.p2 x.p1).2 = true := c4
          simp only [c4, if_true, List.map_append]; (repeat' (first | exact rfl | exact trivial | assumption | apply And.intro | (refine fun (_ : Unit) (_ : True) => ?_) | (refine Exists.intro () ?_) | omega | (dsimp only; omega)))
        · have c4 : (subP y.p2 x.p1).2 = false := c4
          simp only [c4, Bool.false_eq_true, if_false, List.append_nil]; (repeat' (first | exact rfl | exact trivial | assumption | apply And.intro | (refine fun (_ : Unit) (_ : True) => ?_) | (refine Exists.intro () ?_) | omega | (dsimp only; omega)))
      · have c3 : i.less = false := c3
        simp only [c3, Bool.false_eq_true, if_false]
        refine Cv.cnd.mk (fun c4 => ?_) (fun c4 => ?_)
        · have c4 : (addP x.p1 y.p2).2 = true := c4
          simp only [c4, if_true, List.map_append]; (repeat' (first | exact rfl | exact trivial | assumption | apply And.intro | (refine fun (_ : Unit) (_ : True) => ?_) | (refine Exists.intro () ?_) | omega | (dsimp only; omega)))
        · have c4 : (addP x.p1 y.p2).2 = false := c4
          simp only [c4, Bool.false_eq_true, if_false, List.append_nil]; (repeat' (first | exact rfl | exact trivial | assumption | apply And.intro | (refine fun (_ : Unit) (_ : True) => ?_) | (refine Exists.intro () ?_) | omega | (dsimp only; omega)))
theorem mk12_ok : mk12.ok Try.prog 83 := bymk12 (gokc add_ok (gokc sub_ok gok0)) vmk12

theorem vmk21 (i : MkI) (h : mk21.cnd i) : Vmk21 i := by
  obtain ⟨a0, a1, b0, b1, ⟨ht, hp⟩, ho⟩ : 0 ≤ i.a ∧ i.a < i.tops.length ∧ 0 ≤ i.b ∧ i.b < i.tops.length ∧ topsOk i.tops ∧ i.out.length ≤ 1000 := h
  obtain ⟨x, hx⟩ := getI (l := i.tops) (i := i.a.toNat) (by omega)
  obtain ⟨y, hy⟩ := getI (l := i.tops) (i := i.b.toNat) (by omega)
  obtain ⟨⟨px1, px2⟩, px3, px4⟩ := hp x (List.mem_of_getElem? hx)
  obtain ⟨⟨py1, py2⟩, py3, py4⟩ := hp y (List.mem_of_getElem? hy)
  have e0 : mkq i.tops ⟨i.a, 2⟩ ⟨i.b, 1⟩ i.less = if x.has2 && y.has1 && (if i.less then subP y.p1 x.p2 else addP x.p2 y.p1).2 then [⟨(if i.less then subP y.p1 x.p2 else addP x.p2 y.p1).1, min x.q2 y.q1, ⟨i.a, 2⟩, ⟨i.b, 1⟩⟩] else [] := by
    simp only [mkq, List.getD_eq_getElem?_getD, hx, hy, Option.getD_some]; rfl
  unfold Vmk21
  simp only [List.length_map]
  refine ⟨⟨by omega, by omega⟩, x.has1, x.has2, x.p1, x.p2, x.q1, x.q2, elA hx (by simp [topE]) rfl, ⟨by omega, by omega⟩, y.has1, y.has2, y.p1, y.p2, y.q1, y.q2, elA hy (by simp [topE]) rfl, ?_⟩
  rw [e0]
  (repeat' (first | exact rfl | exact trivial | assumption | apply And.intro | (refine fun (_ : Unit) (_ : True) => ?_) | (refine Exists.intro () ?_) | omega | (dsimp only; omega)))
  all_goals
    refine Cv.cnd.mk (fun c1 => ?_) (fun c1 => Cv.cnd.mk (fun c2 => ?_) (fun c2 => ?_))
    · have c1 : x.has2 = false := by simpa using c1
      simp only [c1, Bool.false_and, Bool.false_eq_true, if_false, List.append_nil]; (repeat' (first | exact rfl | exact trivial | assumption | apply And.intro | (refine fun (_ : Unit) (_ : True) => ?_) | (refine Exists.intro () ?_) | omega | (dsimp only; omega)))
    · have c2 : y.has1 = false := by simpa using c2
      simp only [c2, Bool.and_false, Bool.false_and, Bool.false_eq_true, if_false, List.append_nil]; (repeat' (first | exact rfl | exact trivial | assumption | apply And.intro | (refine fun (_ : Unit) (_ : True) => ?_) | (refine Exists.intro () ?_) | omega | (dsimp only; omega)))
    · have c1 : x.has2 = true := by simpa using c1
      have c2 : y.has1 = true := by simpa using c2
      simp only [c1, c2, Bool.true_and, minE]
      refine ⟨⟨x.p2, y.p1⟩, ?_⟩
      (repeat' (first | exact rfl | exact trivial | assumption | apply And.intro | (refine fun (_ : Unit) (_ : True) => ?_) | (refine Exists.intro () ?_) | omega | (dsimp only; omega)))
      refine Cv.cnd.mk (fun c3 => ?_) (fun c3 => ?_)
      · have c3 : i.less = true := c3
        simp only [c3, if_true]
        refine ⟨⟨y.p1, x.p2⟩, ?_⟩
        (repeat' (first | exact rfl | exact trivial | assumption | apply And.intro | (refine fun (_ : Unit) (_ : True) => ?_) | (refine Exists.intro () ?_) | omega | (dsimp only; omega)))
        refine Cv.cnd.mk (fun c4 => ?_) (fun c4 => ?_)
        · have c4 : (subP y.p1 x.p2).2 = true := c4
          simp only [c4, if_true, List.map_append]; (repeat' (first | exact rfl | exact trivial | assumption | apply And.intro | (refine fun (_ : Unit) (_ : True) => ?_) | (refine Exists.intro () ?_) | omega | (dsimp only; omega)))
        · have c4 : (subP y.p1 x.p2).2 = false := c4
          simp only [c4, Bool.false_eq_true, if_false, List.append_nil]; (repeat' (first | exact rfl | exact trivial | assumption | apply And.intro | (refine fun (_ : Unit) (_ : True) => ?_) | (refine Exists.intro () ?_) | omega | (dsimp only; omega)))
      · have c3 : i.less = false := c3
        simp only [c3, Bool.false_eq_true, if_false]
        refine Cv.cnd.mk (fun c4 => ?_) (fun c4 => ?_)
        · have c4 : (addP x.p2 y.p1).2 = true := c4
          simp only [c4, if_true, List.map_append]; (repeat' (first | exact rfl | exact trivial | assumption | apply And.intro | (refine fun (_ : Unit) (_ : True) => ?_) | (refine Exists.intro () ?_) | omega | (dsimp only; omega)))
        · have c4 : (addP x.p2 y.p1).2 = false := c4
          simp only [c4, Bool.false_eq_true, if_false, List.append_nil]; (repeat' (first | exact rfl | exact trivial | assumption | apply And.intro | (refine fun (_ : Unit) (_ : True) => ?_) | (refine Exists.intro () ?_) | omega | (dsimp only; omega)))
theorem mk21_ok : mk21.ok Try.prog 83 := bymk21 (gokc add_ok (gokc sub_ok gok0)) vmk21

theorem vmk22 (i : MkI) (h : mk22.cnd i) : Vmk22 i := by
  obtain ⟨a0, a1, b0, b1, ⟨ht, hp⟩, ho⟩ : 0 ≤ i.a ∧ i.a < i.tops.length ∧ 0 ≤ i.b ∧ i.b < i.tops.length ∧ topsOk i.tops ∧ i.out.length ≤ 1000 := h
  obtain ⟨x, hx⟩ := getI (l := i.tops) (i := i.a.toNat) (by omega)
  obtain ⟨y, hy⟩ := getI (l := i.tops) (i := i.b.toNat) (by omega)
  obtain ⟨⟨px1, px2⟩, px3, px4⟩ := hp x (List.mem_of_getElem? hx)
  obtain ⟨⟨py1, py2⟩, py3, py4⟩ := hp y (List.mem_of_getElem? hy)
  have e0 : mkq i.tops ⟨i.a, 2⟩ ⟨i.b, 2⟩ i.less = if x.has2 && y.has2 && (if i.less then subP y.p2 x.p2 else addP x.p2 y.p2).2 then [⟨(if i.less then subP y.p2 x.p2 else addP x.p2 y.p2).1, min x.q2 y.q2, ⟨i.a, 2⟩, ⟨i.b, 2⟩⟩] else [] := by
    simp only [mkq, List.getD_eq_getElem?_getD, hx, hy, Option.getD_some]; rfl
  unfold Vmk22
  simp only [List.length_map]
  refine ⟨⟨by omega, by omega⟩, x.has1, x.has2, x.p1, x.p2, x.q1, x.q2, elA hx (by simp [topE]) rfl, ⟨by omega, by omega⟩, y.has1, y.has2, y.p1, y.p2, y.q1, y.q2, elA hy (by simp [topE]) rfl, ?_⟩
  rw [e0]
  (repeat' (first | exact rfl | exact trivial | assumption | apply And.intro | (refine fun (_ : Unit) (_ : True) => ?_) | (refine Exists.intro () ?_) | omega | (dsimp only; omega)))
  all_goals
    refine Cv.cnd.mk (fun c1 => ?_) (fun c1 => Cv.cnd.mk (fun c2 => ?_) (fun c2 => ?_))
    · have c1 : x.has2 = false := by simpa using c1
      simp only [c1, Bool.false_and, Bool.false_eq_true, if_false, List.append_nil]; (repeat' (first | exact rfl | exact trivial | assumption | apply And.intro | (refine fun (_ : Unit) (_ : True) => ?_) | (refine Exists.intro () ?_) | omega | (dsimp only; omega)))
    · have c2 : y.has2 = false := by simpa using c2
      simp only [c2, Bool.and_false, Bool.false_and, Bool.false_eq_true, if_false, List.append_nil]; (repeat' (first | exact rfl | exact trivial | assumption | apply And.intro | (refine fun (_ : Unit) (_ : True) => ?_) | (refine Exists.intro () ?_) | omega | (dsimp only; omega)))
    · have c1 : x.has2 = true := by simpa using c1
      have c2 : y.has2 = true := by simpa using c2
      simp only [c1, c2, Bool.true_and, minE]
      refine ⟨⟨x.p2, y.p2⟩, ?_⟩
      (repeat' (first | exact rfl | exact trivial | assumption | apply And.intro | (refine fun (_ : Unit) (_ : True) => ?_) | (refine Exists.intro () ?_) | omega | (dsimp only; omega)))
      refine Cv.cnd.mk (fun c3 => ?_) (fun c3 => ?_)
      · have c3 : i.less = true := c3
        simp only [c3, if_true]
        refine ⟨⟨y.p2, x.p2⟩, ?_⟩
        (repeat' (first | exact rfl | exact trivial | assumption | apply And.intro | (refine fun (_ : Unit) (_ : True) => ?_) | (refine Exists.intro () ?_) | omega | (dsimp only; omega)))
        refine Cv.cnd.mk (fun c4 => ?_) (fun c4 => ?_)
        · have c4 : (subP y.p2 x.p2).2 = true := c4
          simp only [c4, if_true, List.map_append]; (repeat' (first | exact rfl | exact trivial | assumption | apply And.intro | (refine fun (_ : Unit) (_ : True) => ?_) | (refine Exists.intro () ?_) | omega | (dsimp only; omega)))
        · have c4 : (subP y.p2 x.p2).2 = false := c4
          simp only [c4, Bool.false_eq_true, if_false, List.append_nil]; (repeat' (first | exact rfl | exact trivial | assumption | apply And.intro | (refine fun (_ : Unit) (_ : True) => ?_) | (refine Exists.intro () ?_) | omega | (dsimp only; omega)))
      · have c3 : i.less = false := c3
        simp only [c3, Bool.false_eq_true, if_false]
        refine Cv.cnd.mk (fun c4 => ?_) (fun c4 => ?_)
        · have c4 : (addP x.p2 y.p2).2 = true := c4
          simp only [c4, if_true, List.map_append]; (repeat' (first | exact rfl | exact trivial | assumption | apply And.intro | (refine fun (_ : Unit) (_ : True) => ?_) | (refine Exists.intro () ?_) | omega | (dsimp only; omega)))
        · have c4 : (addP x.p2 y.p2).2 = false := c4
          simp only [c4, Bool.false_eq_true, if_false, List.append_nil]; (repeat' (first | exact rfl | exact trivial | assumption | apply And.intro | (refine fun (_ : Unit) (_ : True) => ?_) | (refine Exists.intro () ?_) | omega | (dsimp only; omega)))
theorem mk22_ok : mk22.ok Try.prog 83 := bymk22 (gokc add_ok (gokc sub_ok gok0)) vmk22

end Sx

namespace Sx
set_option linter.unusedVariables false
set_option maxRecDepth 100000
open Go Cv Go.Proofs

structure MkJ where
  i : MkI
  sa : Bool
  sb : Bool
def mkAnyC : Con := con1 MkJ (fun j => [.nm 0 0, .agg [i64V j.i.a, i64V (sideN j.sa)], .agg [i64V j.i.b, i64V (sideN j.sb)], boolV j.i.less]) (fun j => MkR j.i.tops j.i.out)
  (fun j => 0 ≤ j.i.a ∧ j.i.a < j.i.tops.length ∧ 0 ≤ j.i.b ∧ j.i.b < j.i.tops.length ∧ topsOk j.i.tops ∧ j.i.out.length ≤ 1000) (fun _ => unitV) (fun j => MkP j.i.tops (j.i.out ++ mkq j.i.tops ⟨j.i.a, sideN j.sa⟩ ⟨j.i.b, sideN j.sb⟩ j.i.less))
theorem mkAny_ok : mkAnyC.ok Try.prog 83 := fun j => match j with
  | ⟨i, false, false⟩ => mk11_ok i
  | ⟨i, false, true⟩ => mk12_ok i
  | ⟨i, true, false⟩ => mk21_ok i
  | ⟨i, true, true⟩ => mk22_ok i

structure AllI where
  p : Prd
  tops : List Top
  inst : Int
/-- The quotes of later months, k of them; of earlier ones. -/
def laterQ (i : AllI) (s : Int) (k : Nat) : List Quote := (List.range k).flatMap fun (k : Nat) => mkq i.tops ⟨(i.p.spread i.inst (i.inst + 1 + k)).1, s⟩ ⟨i.inst + 1 + k, s⟩ false
def earlierQ (i : AllI) (s : Int) (k : Nat) : List Quote := (List.range k).flatMap fun (k : Nat) => mkq i.tops ⟨(i.p.spread k i.inst).1, 3 - s⟩ ⟨k, s⟩ true
def spreadQ (i : AllI) (s : Int) : List Quote := mkq i.tops ⟨(i.p.legs i.inst).2.1, 3 - s⟩ ⟨(i.p.legs i.inst).1, s⟩ true
def turnQ (i : AllI) (s : Int) (q : Quote) : Quote := { q with a := ⟨(i.p.legs i.inst).1, s⟩, b := ⟨(i.p.legs i.inst).2.1, 3 - s⟩ }
def allQ (i : AllI) (s : Int) : List Quote :=
  if i.p.count = 0 ∨ (i.tops.length : Int) ≠ i.p.count ∨ i.inst < 0 ∨ (i.p.count : Int) ≤ i.inst then []
  else if (i.p.legs i.inst).2.2 then (spreadQ i s).map (turnQ i s)
  else laterQ i s (i.p.months.length - (i.inst.toNat + 1)) ++ earlierQ i s i.inst.toNat
def allsC (s : Int) : Con := con1 AllI (fun i => [prdV i.p, roV 6 (i.tops.map topE), i64V i.inst, i64V s]) (fun _ => []) (fun i => i.p.small ∧ topsOk i.tops) (fun _ => .own 0) (fun i => [.own 99 6 ((allQ i s).map quoteE)])
def all1C : Con := allsC 1
def all2C : Con := allsC 2
def allA (i : AllI) (s : Int) : List SAnn := [
  { ι := Nat, slots := fun k => [(10, .nm 0 0), (77, i64V k)], rows := fun k => (List.range 3).map (MkU (i.tops, ((spreadQ i s).take k).map (turnQ i s) ++ (spreadQ i s).drop k)) },
  { ι := Nat, slots := fun k => [(10, .nm 0 0), (17, i64V (i.inst + 1 + k))], rows := fun k => MkR i.tops (laterQ i s k) },
  { ι := Nat, slots := fun k => [(10, .nm 0 0), (120, i64V k)], rows := fun k => MkR i.tops (laterQ i s (i.p.months.length - (i.inst.toNat + 1)) ++ earlierQ i s k) }]
structure AllJ where
  i : AllI
  s : Bool
def allC : Con := con1 AllJ (fun j => [prdV j.i.p, roV 6 (j.i.tops.map topE), i64V j.i.inst, i64V (sideN j.s)]) (fun _ => []) (fun j => j.i.p.small ∧ topsOk j.i.tops) (fun _ => .own 0) (fun j => [.own 99 6 ((allQ j.i (sideN j.s)).map quoteE)])

def quotesQ (i : AllI) (s : Int) : List Quote := (allQ i s).filter fun q => decide (i.p.price i.inst q.price = 0)
def quotesC : Con := con1 AllJ (fun j => [prdV j.i.p, roV 6 (j.i.tops.map topE), i64V j.i.inst, i64V (sideN j.s)]) (fun _ => []) (fun j => j.i.p.small ∧ topsOk j.i.tops) (fun _ => .own 0) (fun j => [.own 99 6 ((quotesQ j.i (sideN j.s)).map quoteE)])
def quotesA (j : AllJ) : List SAnn := [{ ι := Nat, slots := fun k => [(9, .own 0), (18, i64V k)], rows := fun k => [.own 99 6 ((((allQ j.i (sideN j.s)).take k).filter fun q => decide (j.i.p.price j.i.inst q.price = 0)).map quoteE)] }]

structure BsI where
  l : List Quote
  s : Int
def bestQ (l : List Quote) (s : Int) : Quote × Bool := match l with
  | [] => (quote0, false)
  | q :: r => (r.foldl (fun b q => if btr s q.price b.price then q else b) q, true)
def bestQC : Con := con1 BsI (fun i => [roV 6 (i.l.map quoteE), i64V i.s]) (fun _ => []) (fun i => (i.s = 1 ∨ i.s = 2) ∧ i.l.length ≤ 1000000) (fun i => .tup [quoteV (bestQ i.l i.s).1, boolV (bestQ i.l i.s).2]) (fun _ => [])
def bestQA (i : BsI) : List SAnn := [{ ι := Nat, slots := fun k => [(6, .nm 0 0), (26, i64V k)], rows := fun k => [.cells (quoteV (bestQ (i.l.take (max k 1)) i.s).1).cl 99] }]

end Sx

namespace Sx
set_option linter.unusedVariables false
set_option maxRecDepth 100000
open Go Cv Go.Proofs
@[reducible] def Vall1r0 (i_2 : LegI) (i_3 : Int) : AObj := Sx.AObj.cells [V.d (D.v (.int .i64 (i_2.p.legs i_2.n).snd.fst)), V.d (D.v (.int .i64 ((3 : Int) - i_3)))] (96 : Nat)
@[reducible] def Vall1r1 (i_2 : LegI) : AObj := Sx.AObj.cells [V.d (D.v (.int .i64 (i_2.p.legs i_2.n).fst)), V.d (D.v (.int .i64 1))] (96 : Nat)
@[reducible] def Vall1r2 (i : AllI) : AObj := Sx.AObj.cells [V.d (D.v (Value.string (sb i.p.code))), V.own (0 : Nat), V.d (D.v (.int .i64 i.p.tick)), V.d (D.v (.int .i64 i.p.low)), V.d (D.v (.int .i64 i.p.high)), V.d (D.v (.int .i64 i.p.wide)), V.d (D.v (.int .i64 i.p.rule)), V.d (D.v (.int .i64 i.p.top)), V.d (D.v (.int .i64 i.p.least)), V.d (D.v (.int .i64 i.p.part)), V.own ((0 : Nat) + (1 : Nat))] (25 : Nat)
def Vall1 (i : AllI) : Prop :=
  ∃ (i_1 : Prd), sb i_1.code = sb i.p.code ∧ iE i_1.months = iE i.p.months ∧ i_1.tick = i.p.tick ∧ i_1.low = i.p.low ∧ i_1.high = i.p.high ∧ i_1.wide = i.p.wide ∧ i_1.rule = i.p.rule ∧ i_1.top = i.p.top ∧ i_1.least = i.p.least ∧ i_1.part = i.p.part ∧ iE i_1.settle = iE i.p.settle ∧ (i_1.code.length ≤ (1099511627776 : Nat) ∧ i_1.months.length ≤ (1099511627776 : Nat) ∧ i_1.settle.length ≤ (1099511627776 : Nat)) ∧ ∀ (o : Unit), True → cnd ((↑i_1.count : Int) == (0 : Int)) (∃ (o : Unit), List.map quoteE (allQ i (1 : Int)) = [] ∧ True) (cnd ((↑(List.map topE i.tops).length : Int) != (↑i_1.count : Int)) (∃ (o : Unit), List.map quoteE (allQ i (1 : Int)) = [] ∧ True) (cnd (decide (i.inst < (0 : Int))) (∃ (o : Unit), List.map quoteE (allQ i (1 : Int)) = [] ∧ True) (cnd (decide (i.inst ≥ (↑i_1.count : Int))) (∃ (o : Unit), List.map quoteE (allQ i (1 : Int)) = [] ∧ True) (∃ (i_2 : LegI), sb i_2.p.code = sb i.p.code ∧ iE i_2.p.months = iE i.p.months ∧ i_2.p.tick = i.p.tick ∧ i_2.p.low = i.p.low ∧ i_2.p.high = i.p.high ∧ i_2.p.wide = i.p.wide ∧ i_2.p.rule = i.p.rule ∧ i_2.p.top = i.p.top ∧ i_2.p.least = i.p.least ∧ i_2.p.part = i.p.part ∧ iE i_2.p.settle = iE i.p.settle ∧ i_2.n = i.inst ∧ (i_2.p.code.length ≤ (1099511627776 : Nat) ∧ i_2.p.months.length ≤ (1099511627776 : Nat) ∧ i_2.p.settle.length ≤ (1099511627776 : Nat)) ∧ ∀ (o : Unit), True → cnd (i_2.p.legs i_2.n).snd.snd (∃ (i_3 : Int), i_3 = (1 : Int) ∧ (i_3 = (1 : Int) ∨ i_3 = (2 : Int)) ∧ ∀ (o : Unit), True → ∃ (i_4 : MkJ), i_4.i.a = (i_2.p.legs i_2.n).snd.fst ∧ sideN i_4.sa = (3 : Int) - i_3 ∧ i_4.i.b = (i_2.p.legs i_2.n).fst ∧ sideN i_4.sb = (1 : Int) ∧ i_4.i.less = true ∧ AObj.fro (6 : Nat) (List.map topE i_4.i.tops) = AObj.fro (6 : Nat) (List.map topE i.tops) ∧ List.map quoteE i_4.i.out = [] ∧ ((0 : Int) ≤ i_4.i.a ∧ i_4.i.a < (↑i_4.i.tops.length : Int) ∧ (0 : Int) ≤ i_4.i.b ∧ i_4.i.b < (↑i_4.i.tops.length : Int) ∧ (i_4.i.tops.length ≤ (1000000 : Nat) ∧ ∀ (t : Top), t ∈ i_4.i.tops → ((-9223372036854775808 : Int) ≤ t.p1 ∧ t.p1 ≤ (9223372036854775807 : Int)) ∧ (-9223372036854775808 : Int) ≤ t.p2 ∧ t.p2 ≤ (9223372036854775807 : Int)) ∧ i_4.i.out.length ≤ (1000 : Nat)) ∧ ∀ (o : Unit), True → ∃ (i0 : Nat), (↑i0 : Int) = (0 : Int) ∧ AObj.fro (6 : Nat) (List.map topE i.tops) = AObj.fro (6 : Nat) (List.map topE i_4.i.tops) ∧ List.map quoteE (List.map (turnQ i (1 : Int)) (List.take i0 (spreadQ i (1 : Int))) ++ List.drop i0 (spreadQ i (1 : Int))) = List.map quoteE (i_4.i.out ++ mkq i_4.i.tops (Leg.mk i_4.i.a (sideN i_4.sa)) (Leg.mk i_4.i.b (sideN i_4.sb)) i_4.i.less) ∧ ∃ (I : Nat → Prop), ∃ (μ : Nat → Nat), I i0 ∧ ∀ (i_5 : Nat), I i_5 → cnd (decide ((↑i_5 : Int) < (↑(List.map quoteE (i_4.i.out ++ mkq i_4.i.tops (Leg.mk i_4.i.a (sideN i_4.sa)) (Leg.mk i_4.i.b (sideN i_4.sb)) i_4.i.less)).length : Int))) (((0 : Int) ≤ (↑i_5 : Int) ∧ (↑i_5 : Int) < (↑(List.map quoteE (List.map (turnQ i (1 : Int)) (List.take i_5 (spreadQ i (1 : Int))) ++ List.drop i_5 (spreadQ i (1 : Int)))).length : Int)) ∧ (↑i_5 : Int).toNat < (List.map quoteE (List.map (turnQ i (1 : Int)) (List.take i_5 (spreadQ i (1 : Int))) ++ List.drop i_5 (spreadQ i (1 : Int)))).length ∧ ∃ (i' : Nat), (↑i' : Int) = IntKind.i64.wrap ((↑i_5 : Int) + (1 : Int)) ∧ AObj.fro (6 : Nat) (List.map topE i.tops) = AObj.fro (6 : Nat) (List.map topE i.tops) ∧ List.map quoteE (List.map (turnQ i (1 : Int)) (List.take i' (spreadQ i (1 : Int))) ++ List.drop i' (spreadQ i (1 : Int))) = elSet (List.map quoteE (List.map (turnQ i (1 : Int)) (List.take i_5 (spreadQ i (1 : Int))) ++ List.drop i_5 (spreadQ i (1 : Int)))) (↑i_5 : Int).toNat ((0 : Nat) + (2 : Nat)) [D.v (.int .i64 (i_2.p.legs i_2.n).fst), D.v (.int .i64 1), D.v (.int .i64 (i_2.p.legs i_2.n).snd.fst), D.v (.int .i64 ((3 : Int) - i_3))] ∧ I i' ∧ μ i' < μ i_5 ∧ AObj.fro (6 : Nat) (List.map topE i_4.i.tops) = AObj.fro (6 : Nat) (List.map topE i_4.i.tops) ∧ Vall1r0 i_2 i_3 = Vall1r0 i_2 i_3 ∧ Vall1r1 i_2 = Vall1r1 i_2 ∧ AObj.fro (6 : Nat) (List.map topE i.tops) = AObj.fro (6 : Nat) (List.map topE i.tops) ∧ Vall1r2 i = Vall1r2 i ∧ AObj.fro (1 : Nat) (iE i.p.settle) = AObj.fro (1 : Nat) (iE i.p.settle) ∧ AObj.fro (1 : Nat) (iE i.p.months) = AObj.fro (1 : Nat) (iE i.p.months)) (∃ (o : Unit), List.map quoteE (allQ i (1 : Int)) = List.map quoteE (List.map (turnQ i (1 : Int)) (List.take i_5 (spreadQ i (1 : Int))) ++ List.drop i_5 (spreadQ i (1 : Int))) ∧ True)) (∃ (i0 : Nat), i.inst + (1 : Int) + (↑i0 : Int) = IntKind.i64.wrap (i.inst + (1 : Int)) ∧ AObj.fro (6 : Nat) (List.map topE i.tops) = AObj.fro (6 : Nat) (List.map topE i.tops) ∧ List.map quoteE (laterQ i (1 : Int) i0) = [] ∧ ∃ (I : Nat → Prop), ∃ (μ : Nat → Nat), I i0 ∧ ∀ (i_3 : Nat), I i_3 → cnd (decide (i.inst + (1 : Int) + (↑i_3 : Int) < (↑(iE i.p.months).length : Int))) (∃ (i_4 : SprI), sb i_4.p.code = sb i.p.code ∧ iE i_4.p.months = iE i.p.months ∧ i_4.p.tick = i.p.tick ∧ i_4.p.low = i.p.low ∧ i_4.p.high = i.p.high ∧ i_4.p.wide = i.p.wide ∧ i_4.p.rule = i.p.rule ∧ i_4.p.top = i.p.top ∧ i_4.p.least = i.p.least ∧ i_4.p.part = i.p.part ∧ iE i_4.p.settle = iE i.p.settle ∧ i_4.a = i.inst ∧ i_4.b = i.inst + (1 : Int) + (↑i_3 : Int) ∧ (i_4.p.code.length ≤ (1099511627776 : Nat) ∧ i_4.p.months.length ≤ (1099511627776 : Nat) ∧ i_4.p.settle.length ≤ (1099511627776 : Nat)) ∧ ∀ (o : Unit), True → ∃ (i_5 : MkJ), i_5.i.a = (i_4.p.spread i_4.a i_4.b).fst ∧ sideN i_5.sa = (1 : Int) ∧ i_5.i.b = i.inst + (1 : Int) + (↑i_3 : Int) ∧ sideN i_5.sb = (1 : Int) ∧ i_5.i.less = false ∧ AObj.fro (6 : Nat) (List.map topE i_5.i.tops) = AObj.fro (6 : Nat) (List.map topE i.tops) ∧ List.map quoteE i_5.i.out = List.map quoteE (laterQ i (1 : Int) i_3) ∧ ((0 : Int) ≤ i_5.i.a ∧ i_5.i.a < (↑i_5.i.tops.length : Int) ∧ (0 : Int) ≤ i_5.i.b ∧ i_5.i.b < (↑i_5.i.tops.length : Int) ∧ (i_5.i.tops.length ≤ (1000000 : Nat) ∧ ∀ (t : Top), t ∈ i_5.i.tops → ((-9223372036854775808 : Int) ≤ t.p1 ∧ t.p1 ≤ (9223372036854775807 : Int)) ∧ (-9223372036854775808 : Int) ≤ t.p2 ∧ t.p2 ≤ (9223372036854775807 : Int)) ∧ i_5.i.out.length ≤ (1000 : Nat)) ∧ ∀ (o : Unit), True → ∃ (i' : Nat), i.inst + (1 : Int) + (↑i' : Int) = IntKind.i64.wrap (i.inst + (1 : Int) + (↑i_3 : Int) + (1 : Int)) ∧ AObj.fro (6 : Nat) (List.map topE i.tops) = AObj.fro (6 : Nat) (List.map topE i_5.i.tops) ∧ List.map quoteE (laterQ i (1 : Int) i') = List.map quoteE (i_5.i.out ++ mkq i_5.i.tops (Leg.mk i_5.i.a (sideN i_5.sa)) (Leg.mk i_5.i.b (sideN i_5.sb)) i_5.i.less) ∧ I i' ∧ μ i' < μ i_3 ∧ AObj.fro (6 : Nat) (List.map topE i.tops) = AObj.fro (6 : Nat) (List.map topE i.tops) ∧ Vall1r2 i = Vall1r2 i ∧ AObj.fro (1 : Nat) (iE i.p.settle) = AObj.fro (1 : Nat) (iE i.p.settle) ∧ AObj.fro (1 : Nat) (iE i.p.months) = AObj.fro (1 : Nat) (iE i.p.months)) (∃ (i0 : Nat), (↑i0 : Int) = (0 : Int) ∧ AObj.fro (6 : Nat) (List.map topE i.tops) = AObj.fro (6 : Nat) (List.map topE i.tops) ∧ List.map quoteE (laterQ i (1 : Int) (i.p.months.length - (i.inst.toNat + (1 : Nat))) ++ earlierQ i (1 : Int) i0) = List.map quoteE (laterQ i (1 : Int) i_3) ∧ ∃ (I : Nat → Prop), ∃ (μ : Nat → Nat), I i0 ∧ ∀ (i_4 : Nat), I i_4 → cnd (decide ((↑i_4 : Int) < i.inst)) (∃ (i_5 : SprI), sb i_5.p.code = sb i.p.code ∧ iE i_5.p.months = iE i.p.months ∧ i_5.p.tick = i.p.tick ∧ i_5.p.low = i.p.low ∧ i_5.p.high = i.p.high ∧ i_5.p.wide = i.p.wide ∧ i_5.p.rule = i.p.rule ∧ i_5.p.top = i.p.top ∧ i_5.p.least = i.p.least ∧ i_5.p.part = i.p.part ∧ iE i_5.p.settle = iE i.p.settle ∧ i_5.a = (↑i_4 : Int) ∧ i_5.b = i.inst ∧ (i_5.p.code.length ≤ (1099511627776 : Nat) ∧ i_5.p.months.length ≤ (1099511627776 : Nat) ∧ i_5.p.settle.length ≤ (1099511627776 : Nat)) ∧ ∀ (o : Unit), True → ∃ (i_6 : Int), i_6 = (1 : Int) ∧ (i_6 = (1 : Int) ∨ i_6 = (2 : Int)) ∧ ∀ (o : Unit), True → ∃ (i_7 : MkJ), i_7.i.a = (i_5.p.spread i_5.a i_5.b).fst ∧ sideN i_7.sa = (3 : Int) - i_6 ∧ i_7.i.b = (↑i_4 : Int) ∧ sideN i_7.sb = (1 : Int) ∧ i_7.i.less = true ∧ AObj.fro (6 : Nat) (List.map topE i_7.i.tops) = AObj.fro (6 : Nat) (List.map topE i.tops) ∧ List.map quoteE i_7.i.out = List.map quoteE (laterQ i (1 : Int) (i.p.months.length - (i.inst.toNat + (1 : Nat))) ++ earlierQ i (1 : Int) i_4) ∧ ((0 : Int) ≤ i_7.i.a ∧ i_7.i.a < (↑i_7.i.tops.length : Int) ∧ (0 : Int) ≤ i_7.i.b ∧ i_7.i.b < (↑i_7.i.tops.length : Int) ∧ (i_7.i.tops.length ≤ (1000000 : Nat) ∧ ∀ (t : Top), t ∈ i_7.i.tops → ((-9223372036854775808 : Int) ≤ t.p1 ∧ t.p1 ≤ (9223372036854775807 : Int)) ∧ (-9223372036854775808 : Int) ≤ t.p2 ∧ t.p2 ≤ (9223372036854775807 : Int)) ∧ i_7.i.out.length ≤ (1000 : Nat)) ∧ ∀ (o : Unit), True → ∃ (i' : Nat), (↑i' : Int) = IntKind.i64.wrap ((↑i_4 : Int) + (1 : Int)) ∧ AObj.fro (6 : Nat) (List.map topE i.tops) = AObj.fro (6 : Nat) (List.map topE i_7.i.tops) ∧ List.map quoteE (laterQ i (1 : Int) (i.p.months.length - (i.inst.toNat + (1 : Nat))) ++ earlierQ i (1 : Int) i') = List.map quoteE (i_7.i.out ++ mkq i_7.i.tops (Leg.mk i_7.i.a (sideN i_7.sa)) (Leg.mk i_7.i.b (sideN i_7.sb)) i_7.i.less) ∧ I i' ∧ μ i' < μ i_4 ∧ AObj.fro (6 : Nat) (List.map topE i.tops) = AObj.fro (6 : Nat) (List.map topE i.tops) ∧ AObj.fro (6 : Nat) (List.map topE i.tops) = AObj.fro (6 : Nat) (List.map topE i.tops) ∧ Vall1r2 i = Vall1r2 i ∧ AObj.fro (1 : Nat) (iE i.p.settle) = AObj.fro (1 : Nat) (iE i.p.settle) ∧ AObj.fro (1 : Nat) (iE i.p.months) = AObj.fro (1 : Nat) (iE i.p.months)) (∃ (o : Unit), List.map quoteE (allQ i (1 : Int)) = List.map quoteE (laterQ i (1 : Int) (i.p.months.length - (i.inst.toNat + (1 : Nat))) ++ earlierQ i (1 : Int) i_4) ∧ True)))))))
theorem eqall1 (i : AllI) : Vall1 i = walk Try.prog ([(28, pcountC), (54, legsC), (84, spreadC), (82, iotherC), (83, mkAnyC)]) 0 ([]) (allA i 1) [] Try.f65 (Try.f65.body.getD .skip) (all1C.pat i) (all1C.pre i) (all1C.alts i) := by kernel_rfl

theorem byall1 (hG : GOk Try.prog ([(28, pcountC), (54, legsC), (84, spreadC), (82, iotherC), (83, mkAnyC)])) (h : ∀ (i : AllI), all1C.cnd i → Vall1 i) : all1C.ok Try.prog 65 := ok_of_walk mixed ([(28, pcountC), (54, legsC), (84, spreadC), (82, iotherC), (83, mkAnyC)]) hG 0 (fun (i : AllI) => []) (fun (i : AllI) => allA i 1) [] Try.func65 (by kernel_rfl) (by kernel_rfl) (by kernel_rfl) (fun _ => by kernel_rfl) (fun (i : AllI) hc => Eq.mp (eqall1 i) (h i hc))

@[reducible] def Vall2r0 (i_2 : LegI) (i_3 : Int) : AObj := Sx.AObj.cells [V.d (D.v (.int .i64 (i_2.p.legs i_2.n).snd.fst)), V.d (D.v (.int .i64 ((3 : Int) - i_3)))] (96 : Nat)
@[reducible] def Vall2r1 (i_2 : LegI) : AObj := Sx.AObj.cells [V.d (D.v (.int .i64 (i_2.p.legs i_2.n).fst)), V.d (D.v (.int .i64 2))] (96 : Nat)
@[reducible] def Vall2r2 (i : AllI) : AObj := Sx.AObj.cells [V.d (D.v (Value.string (sb i.p.code))), V.own (0 : Nat), V.d (D.v (.int .i64 i.p.tick)), V.d (D.v (.int .i64 i.p.low)), V.d (D.v (.int .i64 i.p.high)), V.d (D.v (.int .i64 i.p.wide)), V.d (D.v (.int .i64 i.p.rule)), V.d (D.v (.int .i64 i.p.top)), V.d (D.v (.int .i64 i.p.least)), V.d (D.v (.int .i64 i.p.part)), V.own ((0 : Nat) + (1 : Nat))] (25 : Nat)
def Vall2 (i : AllI) : Prop :=
  ∃ (i_1 : Prd), sb i_1.code = sb i.p.code ∧ iE i_1.months = iE i.p.months ∧ i_1.tick = i.p.tick ∧ i_1.low = i.p.low ∧ i_1.high = i.p.high ∧ i_1.wide = i.p.wide ∧ i_1.rule = i.p.rule ∧ i_1.top = i.p.top ∧ i_1.least = i.p.least ∧ i_1.part = i.p.part ∧ iE i_1.settle = iE i.p.settle ∧ (i_1.code.length ≤ (1099511627776 : Nat) ∧ i_1.months.length ≤ (1099511627776 : Nat) ∧ i_1.settle.length ≤ (1099511627776 : Nat)) ∧ ∀ (o : Unit), True → cnd ((↑i_1.count : Int) == (0 : Int)) (∃ (o : Unit), List.map quoteE (allQ i (2 : Int)) = [] ∧ True) (cnd ((↑(List.map topE i.tops).length : Int) != (↑i_1.count : Int)) (∃ (o : Unit), List.map quoteE (allQ i (2 : Int)) = [] ∧ True) (cnd (decide (i.inst < (0 : Int))) (∃ (o : Unit), List.map quoteE (allQ i (2 : Int)) = [] ∧ True) (cnd (decide (i.inst ≥ (↑i_1.count : Int))) (∃ (o : Unit), List.map quoteE (allQ i (2 : Int)) = [] ∧ True) (∃ (i_2 : LegI), sb i_2.p.code = sb i.p.code ∧ iE i_2.p.months = iE i.p.months ∧ i_2.p.tick = i.p.tick ∧ i_2.p.low = i.p.low ∧ i_2.p.high = i.p.high ∧ i_2.p.wide = i.p.wide ∧ i_2.p.rule = i.p.rule ∧ i_2.p.top = i.p.top ∧ i_2.p.least = i.p.least ∧ i_2.p.part = i.p.part ∧ iE i_2.p.settle = iE i.p.settle ∧ i_2.n = i.inst ∧ (i_2.p.code.length ≤ (1099511627776 : Nat) ∧ i_2.p.months.length ≤ (1099511627776 : Nat) ∧ i_2.p.settle.length ≤ (1099511627776 : Nat)) ∧ ∀ (o : Unit), True → cnd (i_2.p.legs i_2.n).snd.snd (∃ (i_3 : Int), i_3 = (2 : Int) ∧ (i_3 = (1 : Int) ∨ i_3 = (2 : Int)) ∧ ∀ (o : Unit), True → ∃ (i_4 : MkJ), i_4.i.a = (i_2.p.legs i_2.n).snd.fst ∧ sideN i_4.sa = (3 : Int) - i_3 ∧ i_4.i.b = (i_2.p.legs i_2.n).fst ∧ sideN i_4.sb = (2 : Int) ∧ i_4.i.less = true ∧ AObj.fro (6 : Nat) (List.map topE i_4.i.tops) = AObj.fro (6 : Nat) (List.map topE i.tops) ∧ List.map quoteE i_4.i.out = [] ∧ ((0 : Int) ≤ i_4.i.a ∧ i_4.i.a < (↑i_4.i.tops.length : Int) ∧ (0 : Int) ≤ i_4.i.b ∧ i_4.i.b < (↑i_4.i.tops.length : Int) ∧ (i_4.i.tops.length ≤ (1000000 : Nat) ∧ ∀ (t : Top), t ∈ i_4.i.tops → ((-9223372036854775808 : Int) ≤ t.p1 ∧ t.p1 ≤ (9223372036854775807 : Int)) ∧ (-9223372036854775808 : Int) ≤ t.p2 ∧ t.p2 ≤ (9223372036854775807 : Int)) ∧ i_4.i.out.length ≤ (1000 : Nat)) ∧ ∀ (o : Unit), True → ∃ (i0 : Nat), (↑i0 : Int) = (0 : Int) ∧ AObj.fro (6 : Nat) (List.map topE i.tops) = AObj.fro (6 : Nat) (List.map topE i_4.i.tops) ∧ List.map quoteE (List.map (turnQ i (2 : Int)) (List.take i0 (spreadQ i (2 : Int))) ++ List.drop i0 (spreadQ i (2 : Int))) = List.map quoteE (i_4.i.out ++ mkq i_4.i.tops (Leg.mk i_4.i.a (sideN i_4.sa)) (Leg.mk i_4.i.b (sideN i_4.sb)) i_4.i.less) ∧ ∃ (I : Nat → Prop), ∃ (μ : Nat → Nat), I i0 ∧ ∀ (i_5 : Nat), I i_5 → cnd (decide ((↑i_5 : Int) < (↑(List.map quoteE (i_4.i.out ++ mkq i_4.i.tops (Leg.mk i_4.i.a (sideN i_4.sa)) (Leg.mk i_4.i.b (sideN i_4.sb)) i_4.i.less)).length : Int))) (((0 : Int) ≤ (↑i_5 : Int) ∧ (↑i_5 : Int) < (↑(List.map quoteE (List.map (turnQ i (2 : Int)) (List.take i_5 (spreadQ i (2 : Int))) ++ List.drop i_5 (spreadQ i (2 : Int)))).length : Int)) ∧ (↑i_5 : Int).toNat < (List.map quoteE (List.map (turnQ i (2 : Int)) (List.take i_5 (spreadQ i (2 : Int))) ++ List.drop i_5 (spreadQ i (2 : Int)))).length ∧ ∃ (i' : Nat), (↑i' : Int) = IntKind.i64.wrap ((↑i_5 : Int) + (1 : Int)) ∧ AObj.fro (6 : Nat) (List.map topE i.tops) = AObj.fro (6 : Nat) (List.map topE i.tops) ∧ List.map quoteE (List.map (turnQ i (2 : Int)) (List.take i' (spreadQ i (2 : Int))) ++ List.drop i' (spreadQ i (2 : Int))) = elSet (List.map quoteE (List.map (turnQ i (2 : Int)) (List.take i_5 (spreadQ i (2 : Int))) ++ List.drop i_5 (spreadQ i (2 : Int)))) (↑i_5 : Int).toNat ((0 : Nat) + (2 : Nat)) [D.v (.int .i64 (i_2.p.legs i_2.n).fst), D.v (.int .i64 2), D.v (.int .i64 (i_2.p.legs i_2.n).snd.fst), D.v (.int .i64 ((3 : Int) - i_3))] ∧ I i' ∧ μ i' < μ i_5 ∧ AObj.fro (6 : Nat) (List.map topE i_4.i.tops) = AObj.fro (6 : Nat) (List.map topE i_4.i.tops) ∧ Vall2r0 i_2 i_3 = Vall2r0 i_2 i_3 ∧ Vall2r1 i_2 = Vall2r1 i_2 ∧ AObj.fro (6 : Nat) (List.map topE i.tops) = AObj.fro (6 : Nat) (List.map topE i.tops) ∧ Vall2r2 i = Vall2r2 i ∧ AObj.fro (1 : Nat) (iE i.p.settle) = AObj.fro (1 : Nat) (iE i.p.settle) ∧ AObj.fro (1 : Nat) (iE i.p.months) = AObj.fro (1 : Nat) (iE i.p.months)) (∃ (o : Unit), List.map quoteE (allQ i (2 : Int)) = List.map quoteE (List.map (turnQ i (2 : Int)) (List.take i_5 (spreadQ i (2 : Int))) ++ List.drop i_5 (spreadQ i (2 : Int))) ∧ True)) (∃ (i0 : Nat), i.inst + (1 : Int) + (↑i0 : Int) = IntKind.i64.wrap (i.inst + (1 : Int)) ∧ AObj.fro (6 : Nat) (List.map topE i.tops) = AObj.fro (6 : Nat) (List.map topE i.tops) ∧ List.map quoteE (laterQ i (2 : Int) i0) = [] ∧ ∃ (I : Nat → Prop), ∃ (μ : Nat → Nat), I i0 ∧ ∀ (i_3 : Nat), I i_3 → cnd (decide (i.inst + (1 : Int) + (↑i_3 : Int) < (↑(iE i.p.months).length : Int))) (∃ (i_4 : SprI), sb i_4.p.code = sb i.p.code ∧ iE i_4.p.months = iE i.p.months ∧ i_4.p.tick = i.p.tick ∧ i_4.p.low = i.p.low ∧ i_4.p.high = i.p.high ∧ i_4.p.wide = i.p.wide ∧ i_4.p.rule = i.p.rule ∧ i_4.p.top = i.p.top ∧ i_4.p.least = i.p.least ∧ i_4.p.part = i.p.part ∧ iE i_4.p.settle = iE i.p.settle ∧ i_4.a = i.inst ∧ i_4.b = i.inst + (1 : Int) + (↑i_3 : Int) ∧ (i_4.p.code.length ≤ (1099511627776 : Nat) ∧ i_4.p.months.length ≤ (1099511627776 : Nat) ∧ i_4.p.settle.length ≤ (1099511627776 : Nat)) ∧ ∀ (o : Unit), True → ∃ (i_5 : MkJ), i_5.i.a = (i_4.p.spread i_4.a i_4.b).fst ∧ sideN i_5.sa = (2 : Int) ∧ i_5.i.b = i.inst + (1 : Int) + (↑i_3 : Int) ∧ sideN i_5.sb = (2 : Int) ∧ i_5.i.less = false ∧ AObj.fro (6 : Nat) (List.map topE i_5.i.tops) = AObj.fro (6 : Nat) (List.map topE i.tops) ∧ List.map quoteE i_5.i.out = List.map quoteE (laterQ i (2 : Int) i_3) ∧ ((0 : Int) ≤ i_5.i.a ∧ i_5.i.a < (↑i_5.i.tops.length : Int) ∧ (0 : Int) ≤ i_5.i.b ∧ i_5.i.b < (↑i_5.i.tops.length : Int) ∧ (i_5.i.tops.length ≤ (1000000 : Nat) ∧ ∀ (t : Top), t ∈ i_5.i.tops → ((-9223372036854775808 : Int) ≤ t.p1 ∧ t.p1 ≤ (9223372036854775807 : Int)) ∧ (-9223372036854775808 : Int) ≤ t.p2 ∧ t.p2 ≤ (9223372036854775807 : Int)) ∧ i_5.i.out.length ≤ (1000 : Nat)) ∧ ∀ (o : Unit), True → ∃ (i' : Nat), i.inst + (1 : Int) + (↑i' : Int) = IntKind.i64.wrap (i.inst + (1 : Int) + (↑i_3 : Int) + (1 : Int)) ∧ AObj.fro (6 : Nat) (List.map topE i.tops) = AObj.fro (6 : Nat) (List.map topE i_5.i.tops) ∧ List.map quoteE (laterQ i (2 : Int) i') = List.map quoteE (i_5.i.out ++ mkq i_5.i.tops (Leg.mk i_5.i.a (sideN i_5.sa)) (Leg.mk i_5.i.b (sideN i_5.sb)) i_5.i.less) ∧ I i' ∧ μ i' < μ i_3 ∧ AObj.fro (6 : Nat) (List.map topE i.tops) = AObj.fro (6 : Nat) (List.map topE i.tops) ∧ Vall2r2 i = Vall2r2 i ∧ AObj.fro (1 : Nat) (iE i.p.settle) = AObj.fro (1 : Nat) (iE i.p.settle) ∧ AObj.fro (1 : Nat) (iE i.p.months) = AObj.fro (1 : Nat) (iE i.p.months)) (∃ (i0 : Nat), (↑i0 : Int) = (0 : Int) ∧ AObj.fro (6 : Nat) (List.map topE i.tops) = AObj.fro (6 : Nat) (List.map topE i.tops) ∧ List.map quoteE (laterQ i (2 : Int) (i.p.months.length - (i.inst.toNat + (1 : Nat))) ++ earlierQ i (2 : Int) i0) = List.map quoteE (laterQ i (2 : Int) i_3) ∧ ∃ (I : Nat → Prop), ∃ (μ : Nat → Nat), I i0 ∧ ∀ (i_4 : Nat), I i_4 → cnd (decide ((↑i_4 : Int) < i.inst)) (∃ (i_5 : SprI), sb i_5.p.code = sb i.p.code ∧ iE i_5.p.months = iE i.p.months ∧ i_5.p.tick = i.p.tick ∧ i_5.p.low = i.p.low ∧ i_5.p.high = i.p.high ∧ i_5.p.wide = i.p.wide ∧ i_5.p.rule = i.p.rule ∧ i_5.p.top = i.p.top ∧ i_5.p.least = i.p.least ∧ i_5.p.part = i.p.part ∧ iE i_5.p.settle = iE i.p.settle ∧ i_5.a = (↑i_4 : Int) ∧ i_5.b = i.inst ∧ (i_5.p.code.length ≤ (1099511627776 : Nat) ∧ i_5.p.months.length ≤ (1099511627776 : Nat) ∧ i_5.p.settle.length ≤ (1099511627776 : Nat)) ∧ ∀ (o : Unit), True → ∃ (i_6 : Int), i_6 = (2 : Int) ∧ (i_6 = (1 : Int) ∨ i_6 = (2 : Int)) ∧ ∀ (o : Unit), True → ∃ (i_7 : MkJ), i_7.i.a = (i_5.p.spread i_5.a i_5.b).fst ∧ sideN i_7.sa = (3 : Int) - i_6 ∧ i_7.i.b = (↑i_4 : Int) ∧ sideN i_7.sb = (2 : Int) ∧ i_7.i.less = true ∧ AObj.fro (6 : Nat) (List.map topE i_7.i.tops) = AObj.fro (6 : Nat) (List.map topE i.tops) ∧ List.map quoteE i_7.i.out = List.map quoteE (laterQ i (2 : Int) (i.p.months.length - (i.inst.toNat + (1 : Nat))) ++ earlierQ i (2 : Int) i_4) ∧ ((0 : Int) ≤ i_7.i.a ∧ i_7.i.a < (↑i_7.i.tops.length : Int) ∧ (0 : Int) ≤ i_7.i.b ∧ i_7.i.b < (↑i_7.i.tops.length : Int) ∧ (i_7.i.tops.length ≤ (1000000 : Nat) ∧ ∀ (t : Top), t ∈ i_7.i.tops → ((-9223372036854775808 : Int) ≤ t.p1 ∧ t.p1 ≤ (9223372036854775807 : Int)) ∧ (-9223372036854775808 : Int) ≤ t.p2 ∧ t.p2 ≤ (9223372036854775807 : Int)) ∧ i_7.i.out.length ≤ (1000 : Nat)) ∧ ∀ (o : Unit), True → ∃ (i' : Nat), (↑i' : Int) = IntKind.i64.wrap ((↑i_4 : Int) + (1 : Int)) ∧ AObj.fro (6 : Nat) (List.map topE i.tops) = AObj.fro (6 : Nat) (List.map topE i_7.i.tops) ∧ List.map quoteE (laterQ i (2 : Int) (i.p.months.length - (i.inst.toNat + (1 : Nat))) ++ earlierQ i (2 : Int) i') = List.map quoteE (i_7.i.out ++ mkq i_7.i.tops (Leg.mk i_7.i.a (sideN i_7.sa)) (Leg.mk i_7.i.b (sideN i_7.sb)) i_7.i.less) ∧ I i' ∧ μ i' < μ i_4 ∧ AObj.fro (6 : Nat) (List.map topE i.tops) = AObj.fro (6 : Nat) (List.map topE i.tops) ∧ AObj.fro (6 : Nat) (List.map topE i.tops) = AObj.fro (6 : Nat) (List.map topE i.tops) ∧ Vall2r2 i = Vall2r2 i ∧ AObj.fro (1 : Nat) (iE i.p.settle) = AObj.fro (1 : Nat) (iE i.p.settle) ∧ AObj.fro (1 : Nat) (iE i.p.months) = AObj.fro (1 : Nat) (iE i.p.months)) (∃ (o : Unit), List.map quoteE (allQ i (2 : Int)) = List.map quoteE (laterQ i (2 : Int) (i.p.months.length - (i.inst.toNat + (1 : Nat))) ++ earlierQ i (2 : Int) i_4) ∧ True)))))))
theorem eqall2 (i : AllI) : Vall2 i = walk Try.prog ([(28, pcountC), (54, legsC), (84, spreadC), (82, iotherC), (83, mkAnyC)]) 0 ([]) (allA i 2) [] Try.f65 (Try.f65.body.getD .skip) (all2C.pat i) (all2C.pre i) (all2C.alts i) := by kernel_rfl

theorem byall2 (hG : GOk Try.prog ([(28, pcountC), (54, legsC), (84, spreadC), (82, iotherC), (83, mkAnyC)])) (h : ∀ (i : AllI), all2C.cnd i → Vall2 i) : all2C.ok Try.prog 65 := ok_of_walk mixed ([(28, pcountC), (54, legsC), (84, spreadC), (82, iotherC), (83, mkAnyC)]) hG 0 (fun (i : AllI) => []) (fun (i : AllI) => allA i 2) [] Try.func65 (by kernel_rfl) (by kernel_rfl) (by kernel_rfl) (fun _ => by kernel_rfl) (fun (i : AllI) hc => Eq.mp (eqall2 i) (h i hc))

@[reducible] def Vquotesr0 (j : AllJ) (i : AllJ) : AObj := Sx.AObj.cells [V.d (D.v (Value.string (sb j.i.p.code))), V.own (0 : Nat), V.d (D.v (.int .i64 j.i.p.tick)), V.d (D.v (.int .i64 j.i.p.low)), V.d (D.v (.int .i64 j.i.p.high)), V.d (D.v (.int .i64 j.i.p.wide)), V.d (D.v (.int .i64 j.i.p.rule)), V.d (D.v (.int .i64 j.i.p.top)), V.d (D.v (.int .i64 j.i.p.least)), V.d (D.v (.int .i64 j.i.p.part)), V.own ((0 : Nat) + (1 : Nat))] (25 : Nat)
def Vquotes (j : AllJ) : Prop :=
  ∃ (i : AllJ), sb i.i.p.code = sb j.i.p.code ∧ iE i.i.p.months = iE j.i.p.months ∧ i.i.p.tick = j.i.p.tick ∧ i.i.p.low = j.i.p.low ∧ i.i.p.high = j.i.p.high ∧ i.i.p.wide = j.i.p.wide ∧ i.i.p.rule = j.i.p.rule ∧ i.i.p.top = j.i.p.top ∧ i.i.p.least = j.i.p.least ∧ i.i.p.part = j.i.p.part ∧ iE i.i.p.settle = iE j.i.p.settle ∧ List.map topE i.i.tops = List.map topE j.i.tops ∧ i.i.inst = j.i.inst ∧ sideN i.s = sideN j.s ∧ ((i.i.p.code.length ≤ (1099511627776 : Nat) ∧ i.i.p.months.length ≤ (1099511627776 : Nat) ∧ i.i.p.settle.length ≤ (1099511627776 : Nat)) ∧ i.i.tops.length ≤ (1000000 : Nat) ∧ ∀ (t : Top), t ∈ i.i.tops → ((-9223372036854775808 : Int) ≤ t.p1 ∧ t.p1 ≤ (9223372036854775807 : Int)) ∧ (-9223372036854775808 : Int) ≤ t.p2 ∧ t.p2 ≤ (9223372036854775807 : Int)) ∧ ∀ (o : Unit), True → ∃ (i0 : Nat), (↑i0 : Int) = (0 : Int) ∧ List.map quoteE (List.filter (fun (q : Sx.Quote) ↦ decide (j.i.p.price j.i.inst q.price = (0 : Int))) (List.take i0 (allQ j.i (sideN j.s)))) = [] ∧ ∃ (I : Nat → Prop), ∃ (μ : Nat → Nat), I i0 ∧ ∀ (i_1 : Nat), I i_1 → cnd (decide ((↑i_1 : Int) < (↑(List.map quoteE (allQ i.i (sideN i.s))).length : Int))) (((0 : Int) ≤ (↑i_1 : Int) ∧ (↑i_1 : Int) < (↑(List.map quoteE (allQ i.i (sideN i.s))).length : Int)) ∧ ∃ (n : Int), ∃ (n_1 : Int), ∃ (n_2 : Int), ∃ (n_3 : Int), ∃ (n_4 : Int), ∃ (n_5 : Int), elPart (List.map quoteE (allQ i.i (sideN i.s))) (↑i_1 : Int).toNat (0 : Nat) (6 : Nat) = some [D.v (.int .i64 n), D.v (.int .i64 n_1), D.v (.int .i64 n_2), D.v (.int .i64 n_3), D.v (.int .i64 n_4), D.v (.int .i64 n_5)] ∧ ∃ (i_2 : SprI), sb i_2.p.code = sb j.i.p.code ∧ iE i_2.p.months = iE j.i.p.months ∧ i_2.p.tick = j.i.p.tick ∧ i_2.p.low = j.i.p.low ∧ i_2.p.high = j.i.p.high ∧ i_2.p.wide = j.i.p.wide ∧ i_2.p.rule = j.i.p.rule ∧ i_2.p.top = j.i.p.top ∧ i_2.p.least = j.i.p.least ∧ i_2.p.part = j.i.p.part ∧ iE i_2.p.settle = iE j.i.p.settle ∧ i_2.a = j.i.inst ∧ i_2.b = n ∧ (i_2.p.code.length ≤ (1099511627776 : Nat) ∧ i_2.p.months.length ≤ (1099511627776 : Nat) ∧ i_2.p.settle.length ≤ (1099511627776 : Nat)) ∧ ∀ (o : Unit), True → cnd (i_2.p.price i_2.a i_2.b == (0 : Int)) (((List.map quoteE (List.filter (fun (q : Sx.Quote) ↦ decide (j.i.p.price j.i.inst q.price = (0 : Int))) (List.take i_1 (allQ j.i (sideN j.s))))).length + (1 : Nat)) * (48 : Nat) ≤ (70368744177664 : Nat) ∧ ∃ (i' : Nat), (↑i' : Int) = IntKind.i64.wrap ((↑i_1 : Int) + (1 : Int)) ∧ List.map quoteE (List.filter (fun (q : Sx.Quote) ↦ decide (j.i.p.price j.i.inst q.price = (0 : Int))) (List.take i' (allQ j.i (sideN j.s)))) = List.map quoteE (List.filter (fun (q : Sx.Quote) ↦ decide (j.i.p.price j.i.inst q.price = (0 : Int))) (List.take i_1 (allQ j.i (sideN j.s)))) ++ [[D.v (.int .i64 n), D.v (.int .i64 n_1), D.v (.int .i64 n_2), D.v (.int .i64 n_3), D.v (.int .i64 n_4), D.v (.int .i64 n_5)]] ∧ I i' ∧ μ i' < μ i_1 ∧ AObj.own (99 : Nat) (6 : Nat) (List.map quoteE (allQ i.i (sideN i.s))) = AObj.own (99 : Nat) (6 : Nat) (List.map quoteE (allQ i.i (sideN i.s))) ∧ Vquotesr0 j i = Vquotesr0 j i ∧ AObj.fro (1 : Nat) (iE j.i.p.settle) = AObj.fro (1 : Nat) (iE j.i.p.settle) ∧ AObj.fro (1 : Nat) (iE j.i.p.months) = AObj.fro (1 : Nat) (iE j.i.p.months)) (∃ (i' : Nat), (↑i' : Int) = IntKind.i64.wrap ((↑i_1 : Int) + (1 : Int)) ∧ List.map quoteE (List.filter (fun (q : Sx.Quote) ↦ decide (j.i.p.price j.i.inst q.price = (0 : Int))) (List.take i' (allQ j.i (sideN j.s)))) = List.map quoteE (List.filter (fun (q : Sx.Quote) ↦ decide (j.i.p.price j.i.inst q.price = (0 : Int))) (List.take i_1 (allQ j.i (sideN j.s)))) ∧ I i' ∧ μ i' < μ i_1 ∧ AObj.own (99 : Nat) (6 : Nat) (List.map quoteE (allQ i.i (sideN i.s))) = AObj.own (99 : Nat) (6 : Nat) (List.map quoteE (allQ i.i (sideN i.s))) ∧ Vquotesr0 j i = Vquotesr0 j i ∧ AObj.fro (1 : Nat) (iE j.i.p.settle) = AObj.fro (1 : Nat) (iE j.i.p.settle) ∧ AObj.fro (1 : Nat) (iE j.i.p.months) = AObj.fro (1 : Nat) (iE j.i.p.months))) (∃ (o : Unit), List.map quoteE (quotesQ j.i (sideN j.s)) = List.map quoteE (List.filter (fun (q : Sx.Quote) ↦ decide (j.i.p.price j.i.inst q.price = (0 : Int))) (List.take i_1 (allQ j.i (sideN j.s)))) ∧ True)
theorem eqquotes (j : AllJ) : Vquotes j = walk Try.prog ([(65, allC), (40, priceC)]) 0 ([]) (quotesA j) [] Try.f46 (Try.f46.body.getD .skip) (quotesC.pat j) (quotesC.pre j) (quotesC.alts j) := by kernel_rfl

theorem byquotes (hG : GOk Try.prog ([(65, allC), (40, priceC)])) (h : ∀ (j : AllJ), quotesC.cnd j → Vquotes j) : quotesC.ok Try.prog 46 := ok_of_walk mixed ([(65, allC), (40, priceC)]) hG 0 (fun (j : AllJ) => []) (fun (j : AllJ) => quotesA j) [] Try.func46 (by kernel_rfl) (by kernel_rfl) (by kernel_rfl) (fun _ => by kernel_rfl) (fun (j : AllJ) hc => Eq.mp (eqquotes j) (h j hc))

@[reducible] def VbestQr0  : AObj := Sx.AObj.cells (Sx.V.agg [V.d (D.v (.int .i64 0)), V.d (D.v (.int .i64 0)), V.d (D.v (.int .i64 0)), V.d (D.v (.int .i64 0)), V.d (D.v (.int .i64 0)), V.d (D.v (.int .i64 0))]).cl (99 : Nat)
def VbestQ (i : BsI) : Prop :=
  cnd ((↑(List.map quoteE i.l).length : Int) == (0 : Int)) (∃ (o : Unit), (bestQ i.l i.s).fst.price = (0 : Int) ∧ (bestQ i.l i.s).fst.qty = (0 : Int) ∧ (bestQ i.l i.s).fst.a.inst = (0 : Int) ∧ (bestQ i.l i.s).fst.a.side = (0 : Int) ∧ (bestQ i.l i.s).fst.b.inst = (0 : Int) ∧ (bestQ i.l i.s).fst.b.side = (0 : Int) ∧ (bestQ i.l i.s).snd = false ∧ True) (cnd (i.s != (1 : Int)) (cnd (i.s != (2 : Int)) (∃ (o : Unit), (bestQ i.l i.s).fst.price = (0 : Int) ∧ (bestQ i.l i.s).fst.qty = (0 : Int) ∧ (bestQ i.l i.s).fst.a.inst = (0 : Int) ∧ (bestQ i.l i.s).fst.a.side = (0 : Int) ∧ (bestQ i.l i.s).fst.b.inst = (0 : Int) ∧ (bestQ i.l i.s).fst.b.side = (0 : Int) ∧ (bestQ i.l i.s).snd = false ∧ True) (((0 : Int) ≤ (0 : Int) ∧ (0 : Int) < (↑(List.map quoteE i.l).length : Int)) ∧ ∃ (n : Int), ∃ (n_1 : Int), ∃ (n_2 : Int), ∃ (n_3 : Int), ∃ (n_4 : Int), ∃ (n_5 : Int), elPart (List.map quoteE i.l) (Int.toNat (0 : Int)) (0 : Nat) (6 : Nat) = some [D.v (.int .i64 n), D.v (.int .i64 n_1), D.v (.int .i64 n_2), D.v (.int .i64 n_3), D.v (.int .i64 n_4), D.v (.int .i64 n_5)] ∧ ∃ (i0 : Nat), (↑i0 : Int) = (0 : Int) ∧ (bestQ (List.take (max i0 (1 : Nat)) i.l) i.s).fst.price = n ∧ (bestQ (List.take (max i0 (1 : Nat)) i.l) i.s).fst.qty = n_1 ∧ (bestQ (List.take (max i0 (1 : Nat)) i.l) i.s).fst.a.inst = n_2 ∧ (bestQ (List.take (max i0 (1 : Nat)) i.l) i.s).fst.a.side = n_3 ∧ (bestQ (List.take (max i0 (1 : Nat)) i.l) i.s).fst.b.inst = n_4 ∧ (bestQ (List.take (max i0 (1 : Nat)) i.l) i.s).fst.b.side = n_5 ∧ ∃ (I : Nat → Prop), ∃ (μ : Nat → Nat), I i0 ∧ ∀ (i_1 : Nat), I i_1 → cnd (decide ((↑i_1 : Int) < (↑(List.map quoteE i.l).length : Int))) (((0 : Int) ≤ (↑i_1 : Int) ∧ (↑i_1 : Int) < (↑(List.map quoteE i.l).length : Int)) ∧ ∃ (n : Int), ∃ (n_6 : Int), ∃ (n_7 : Int), ∃ (n_8 : Int), ∃ (n_9 : Int), ∃ (n_10 : Int), elPart (List.map quoteE i.l) (↑i_1 : Int).toNat (0 : Nat) (6 : Nat) = some [D.v (.int .i64 n), D.v (.int .i64 n_6), D.v (.int .i64 n_7), D.v (.int .i64 n_8), D.v (.int .i64 n_9), D.v (.int .i64 n_10)] ∧ ∃ (i_2 : I3'), i_2.side = i.s ∧ i_2.x = n ∧ i_2.y = (bestQ (List.take (max i_1 (1 : Nat)) i.l) i.s).fst.price ∧ True ∧ ∀ (o : Unit), True → cnd (btr i_2.side i_2.x i_2.y) (∃ (i' : Nat), (↑i' : Int) = IntKind.i64.wrap ((↑i_1 : Int) + (1 : Int)) ∧ (bestQ (List.take (max i' (1 : Nat)) i.l) i.s).fst.price = n ∧ (bestQ (List.take (max i' (1 : Nat)) i.l) i.s).fst.qty = n_6 ∧ (bestQ (List.take (max i' (1 : Nat)) i.l) i.s).fst.a.inst = n_7 ∧ (bestQ (List.take (max i' (1 : Nat)) i.l) i.s).fst.a.side = n_8 ∧ (bestQ (List.take (max i' (1 : Nat)) i.l) i.s).fst.b.inst = n_9 ∧ (bestQ (List.take (max i' (1 : Nat)) i.l) i.s).fst.b.side = n_10 ∧ I i' ∧ μ i' < μ i_1 ∧ VbestQr0 = VbestQr0) (∃ (i' : Nat), (↑i' : Int) = IntKind.i64.wrap ((↑i_1 : Int) + (1 : Int)) ∧ (bestQ (List.take (max i' (1 : Nat)) i.l) i.s).fst.price = (bestQ (List.take (max i_1 (1 : Nat)) i.l) i.s).fst.price ∧ (bestQ (List.take (max i' (1 : Nat)) i.l) i.s).fst.qty = (bestQ (List.take (max i_1 (1 : Nat)) i.l) i.s).fst.qty ∧ (bestQ (List.take (max i' (1 : Nat)) i.l) i.s).fst.a.inst = (bestQ (List.take (max i_1 (1 : Nat)) i.l) i.s).fst.a.inst ∧ (bestQ (List.take (max i' (1 : Nat)) i.l) i.s).fst.a.side = (bestQ (List.take (max i_1 (1 : Nat)) i.l) i.s).fst.a.side ∧ (bestQ (List.take (max i' (1 : Nat)) i.l) i.s).fst.b.inst = (bestQ (List.take (max i_1 (1 : Nat)) i.l) i.s).fst.b.inst ∧ (bestQ (List.take (max i' (1 : Nat)) i.l) i.s).fst.b.side = (bestQ (List.take (max i_1 (1 : Nat)) i.l) i.s).fst.b.side ∧ I i' ∧ μ i' < μ i_1 ∧ VbestQr0 = VbestQr0)) (∃ (o : Unit), (bestQ i.l i.s).fst.price = (bestQ (List.take (max i_1 (1 : Nat)) i.l) i.s).fst.price ∧ (bestQ i.l i.s).fst.qty = (bestQ (List.take (max i_1 (1 : Nat)) i.l) i.s).fst.qty ∧ (bestQ i.l i.s).fst.a.inst = (bestQ (List.take (max i_1 (1 : Nat)) i.l) i.s).fst.a.inst ∧ (bestQ i.l i.s).fst.a.side = (bestQ (List.take (max i_1 (1 : Nat)) i.l) i.s).fst.a.side ∧ (bestQ i.l i.s).fst.b.inst = (bestQ (List.take (max i_1 (1 : Nat)) i.l) i.s).fst.b.inst ∧ (bestQ i.l i.s).fst.b.side = (bestQ (List.take (max i_1 (1 : Nat)) i.l) i.s).fst.b.side ∧ (bestQ i.l i.s).snd = true ∧ True))) (((0 : Int) ≤ (0 : Int) ∧ (0 : Int) < (↑(List.map quoteE i.l).length : Int)) ∧ ∃ (n : Int), ∃ (n_1 : Int), ∃ (n_2 : Int), ∃ (n_3 : Int), ∃ (n_4 : Int), ∃ (n_5 : Int), elPart (List.map quoteE i.l) (Int.toNat (0 : Int)) (0 : Nat) (6 : Nat) = some [D.v (.int .i64 n), D.v (.int .i64 n_1), D.v (.int .i64 n_2), D.v (.int .i64 n_3), D.v (.int .i64 n_4), D.v (.int .i64 n_5)] ∧ ∃ (i0 : Nat), (↑i0 : Int) = (0 : Int) ∧ (bestQ (List.take (max i0 (1 : Nat)) i.l) i.s).fst.price = n ∧ (bestQ (List.take (max i0 (1 : Nat)) i.l) i.s).fst.qty = n_1 ∧ (bestQ (List.take (max i0 (1 : Nat)) i.l) i.s).fst.a.inst = n_2 ∧ (bestQ (List.take (max i0 (1 : Nat)) i.l) i.s).fst.a.side = n_3 ∧ (bestQ (List.take (max i0 (1 : Nat)) i.l) i.s).fst.b.inst = n_4 ∧ (bestQ (List.take (max i0 (1 : Nat)) i.l) i.s).fst.b.side = n_5 ∧ ∃ (I : Nat → Prop), ∃ (μ : Nat → Nat), I i0 ∧ ∀ (i_1 : Nat), I i_1 → cnd (decide ((↑i_1 : Int) < (↑(List.map quoteE i.l).length : Int))) (((0 : Int) ≤ (↑i_1 : Int) ∧ (↑i_1 : Int) < (↑(List.map quoteE i.l).length : Int)) ∧ ∃ (n : Int), ∃ (n_6 : Int), ∃ (n_7 : Int), ∃ (n_8 : Int), ∃ (n_9 : Int), ∃ (n_10 : Int), elPart (List.map quoteE i.l) (↑i_1 : Int).toNat (0 : Nat) (6 : Nat) = some [D.v (.int .i64 n), D.v (.int .i64 n_6), D.v (.int .i64 n_7), D.v (.int .i64 n_8), D.v (.int .i64 n_9), D.v (.int .i64 n_10)] ∧ ∃ (i_2 : I3'), i_2.side = i.s ∧ i_2.x = n ∧ i_2.y = (bestQ (List.take (max i_1 (1 : Nat)) i.l) i.s).fst.price ∧ True ∧ ∀ (o : Unit), True → cnd (btr i_2.side i_2.x i_2.y) (∃ (i' : Nat), (↑i' : Int) = IntKind.i64.wrap ((↑i_1 : Int) + (1 : Int)) ∧ (bestQ (List.take (max i' (1 : Nat)) i.l) i.s).fst.price = n ∧ (bestQ (List.take (max i' (1 : Nat)) i.l) i.s).fst.qty = n_6 ∧ (bestQ (List.take (max i' (1 : Nat)) i.l) i.s).fst.a.inst = n_7 ∧ (bestQ (List.take (max i' (1 : Nat)) i.l) i.s).fst.a.side = n_8 ∧ (bestQ (List.take (max i' (1 : Nat)) i.l) i.s).fst.b.inst = n_9 ∧ (bestQ (List.take (max i' (1 : Nat)) i.l) i.s).fst.b.side = n_10 ∧ I i' ∧ μ i' < μ i_1 ∧ VbestQr0 = VbestQr0) (∃ (i' : Nat), (↑i' : Int) = IntKind.i64.wrap ((↑i_1 : Int) + (1 : Int)) ∧ (bestQ (List.take (max i' (1 : Nat)) i.l) i.s).fst.price = (bestQ (List.take (max i_1 (1 : Nat)) i.l) i.s).fst.price ∧ (bestQ (List.take (max i' (1 : Nat)) i.l) i.s).fst.qty = (bestQ (List.take (max i_1 (1 : Nat)) i.l) i.s).fst.qty ∧ (bestQ (List.take (max i' (1 : Nat)) i.l) i.s).fst.a.inst = (bestQ (List.take (max i_1 (1 : Nat)) i.l) i.s).fst.a.inst ∧ (bestQ (List.take (max i' (1 : Nat)) i.l) i.s).fst.a.side = (bestQ (List.take (max i_1 (1 : Nat)) i.l) i.s).fst.a.side ∧ (bestQ (List.take (max i' (1 : Nat)) i.l) i.s).fst.b.inst = (bestQ (List.take (max i_1 (1 : Nat)) i.l) i.s).fst.b.inst ∧ (bestQ (List.take (max i' (1 : Nat)) i.l) i.s).fst.b.side = (bestQ (List.take (max i_1 (1 : Nat)) i.l) i.s).fst.b.side ∧ I i' ∧ μ i' < μ i_1 ∧ VbestQr0 = VbestQr0)) (∃ (o : Unit), (bestQ i.l i.s).fst.price = (bestQ (List.take (max i_1 (1 : Nat)) i.l) i.s).fst.price ∧ (bestQ i.l i.s).fst.qty = (bestQ (List.take (max i_1 (1 : Nat)) i.l) i.s).fst.qty ∧ (bestQ i.l i.s).fst.a.inst = (bestQ (List.take (max i_1 (1 : Nat)) i.l) i.s).fst.a.inst ∧ (bestQ i.l i.s).fst.a.side = (bestQ (List.take (max i_1 (1 : Nat)) i.l) i.s).fst.a.side ∧ (bestQ i.l i.s).fst.b.inst = (bestQ (List.take (max i_1 (1 : Nat)) i.l) i.s).fst.b.inst ∧ (bestQ i.l i.s).fst.b.side = (bestQ (List.take (max i_1 (1 : Nat)) i.l) i.s).fst.b.side ∧ (bestQ i.l i.s).snd = true ∧ True)))
theorem eqbestQ (i : BsI) : VbestQ i = walk Try.prog ([(64, ibetterC)]) 0 ([]) (bestQA i) [] Try.f45 (Try.f45.body.getD .skip) (bestQC.pat i) (bestQC.pre i) (bestQC.alts i) := by kernel_rfl

theorem bybestQ (hG : GOk Try.prog ([(64, ibetterC)])) (h : ∀ (i : BsI), bestQC.cnd i → VbestQ i) : bestQC.ok Try.prog 45 := ok_of_walk mixed ([(64, ibetterC)]) hG 0 (fun (i : BsI) => []) (fun (i : BsI) => bestQA i) [] Try.func45 (by kernel_rfl) (by kernel_rfl) (by kernel_rfl) (fun _ => by kernel_rfl) (fun (i : BsI) hc => Eq.mp (eqbestQ i) (h i hc))

end Sx

