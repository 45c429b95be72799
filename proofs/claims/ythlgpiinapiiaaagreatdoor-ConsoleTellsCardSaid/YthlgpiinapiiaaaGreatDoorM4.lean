/- Texts of ours, one behind the other: a walk that the kernel reckons, and contracts of functions. No condition. -/
import Derived.Test.YthlgpiinapiiaaaGreatDoorRows
import Derived.Test.YthlgpiinapiiaaaGreatDoorM3

namespace Sx
set_option linter.unusedVariables false
open Go Cv Go.Proofs

theorem mixed : Tryz.prog.follows .mixedOrders = true := by kernel_rfl

/-- A level, as it is told. -/
structure Lv where
  price : Int
  qty : Int
  count : Int
end Sx

namespace Sx
set_option linter.unusedVariables false
open Go Cv Go.Proofs

/-! ### Texts -/
def sb (l : List UInt8) : ByteArray := ⟨l.toArray⟩
@[reducible] def sV (l : List UInt8) : V := .d (.v (.string (sb l)))

/-- The first rune of a text that is not empty, and its width. -/
def dec1 (l : List UInt8) : Nat × Nat := Utf8.decode (sb l) 0
/-- A text's runes, each with its place. -/
def runesAt : Nat → Nat → List UInt8 → List (Nat × Nat)
  | 0, _, _ => []
  | k + 1, p, l => match l with
    | [] => []
    | _ => (p, (dec1 l).1) :: runesAt k (p + (dec1 l).2) (l.drop (dec1 l).2)
def runesP (s : List UInt8) (p : Nat) : List (Nat × Nat) := runesAt (s.length - p) p (s.drop p)
def runes (s : List UInt8) : List Nat := (runesP s 0).map (·.2)

def countC : Con := con1 (List UInt8) (fun s => [sV s]) (fun _ => []) (fun s => s.length ≤ 140737488355328) (fun s => i64V (runes s).length) (fun _ => [])
/-- n runes are behind the place p. -/
def countA (s : List UInt8) : List SAnn := [{ ι := Nat × Nat, slots := fun x => [(3, i64V x.2), (5, .nm 0 0)], rows := fun x => [.iter (sb s) x.1] }]

def great (r : Nat) : Bool := (decide (65 ≤ r) && decide (r ≤ 90)) || (decide (913 ≤ r) && decide (r ≤ 937) && decide (r ≠ 930))
def symOk (s : List UInt8) : Bool := (runes s).all great && decide (s ≠ []) && decide ((runes s).length ≤ 4)
def symC : Con := con1 (List UInt8) (fun s => [sV s]) (fun _ => []) (fun s => s.length ≤ 140737488355328) (fun s => boolV (symOk s)) (fun _ => [])
def symA (s : List UInt8) : List SAnn := [{ ι := Nat, slots := fun x => [(7, .nm 0 0)], rows := fun x => [.iter (sb s) x] }]

/-! ### Products -/
def iE (l : List Int) : List (List D) := l.map fun n => [.v (.int .i64 n)]
@[reducible] def iV (l : List Int) : V := roV 1 (iE l)
structure Prd where
  code : List UInt8
  months : List Int
  tick : Int
  low : Int
  high : Int
  wide : Int
  rule : Int
  top : Int
  least : Int
  part : Int
  settle : List Int
  deriving DecidableEq
@[reducible] def Prd.cells (p : Prd) : List V := [sV p.code, iV p.months, i64V p.tick, i64V p.low, i64V p.high, i64V p.wide, i64V p.rule, i64V p.top, i64V p.least, i64V p.part, iV p.settle]
@[reducible] def prdV (p : Prd) : V := .agg p.cells
@[reducible] def Prd.small (p : Prd) : Prop := p.code.length ≤ 140737488355328 ∧ p.months.length ≤ 140737488355328 ∧ p.settle.length ≤ 140737488355328

def monthAt (l : List Int) (k : Nat) : Bool := decide (0 ≤ l.getD k 0) && decide (l.getD k 0 ≤ 1199) && (decide (k = 0) || decide (l.getD (k - 1) 0 < l.getD k 0))
def monthsOk (l : List Int) : Bool := (List.range l.length).all (monthAt l) && decide (2 ≤ l.length) && decide (l.length ≤ 6)
def monthsC : Con := con1 (List Int) (fun l => [iV l]) (fun _ => []) (fun l => l.length ≤ 140737488355328) (fun l => boolV (monthsOk l)) (fun _ => [])
def monthsA : List SAnn := [{ ι := Nat, slots := fun j => [(7, i64V j)], rows := fun _ => [] }]

structure MinI where
  l : List Int
def minL (l : List Int) : Int := l.tail.foldl min (l.headD 0)
def maxL (l : List Int) : Int := l.tail.foldl max (l.headD 0)
def minC : Con := con1 (List Int) (fun l => [iV l]) (fun _ => []) (fun l => 0 < l.length ∧ l.length ≤ 140737488355328) (fun l => i64V (minL l)) (fun _ => [])
def maxC : Con := con1 (List Int) (fun l => [iV l]) (fun _ => []) (fun l => 0 < l.length ∧ l.length ≤ 140737488355328) (fun l => i64V (maxL l)) (fun _ => [])
def minA (l : List Int) : List SAnn := [{ ι := Nat, slots := fun j => [(3, i64V (minL (l.take j))), (4, i64V j)], rows := fun _ => [] }]
def maxA (l : List Int) : List SAnn := [{ ι := Nat, slots := fun j => [(3, i64V (maxL (l.take j))), (4, i64V j)], rows := fun _ => [] }]

end Sx

namespace Sx
set_option linter.unusedVariables false
set_option maxRecDepth 100000
open Go Cv Go.Proofs
def Vcount (s : List UInt8) : Prop :=
  ∃ (i0 : Nat × Nat), (↑i0.snd : Int) = (0 : Int) ∧ sb s = sb s ∧ i0.fst = (0 : Nat) ∧ ∃ (I : Nat × Nat → Prop), ∃ (μ : Nat × Nat → Nat), I i0 ∧ ∀ (i : Nat × Nat), I i → cnd (i.fst.blt (sb s).size) (∃ (i' : Nat × Nat), (↑i'.snd : Int) = IntKind.i64.wrap ((↑i.snd : Int) + (1 : Int)) ∧ sb s = sb s ∧ i'.fst = i.fst + (Utf8.decode (sb s) i.fst).snd ∧ I i' ∧ μ i' < μ i ∧ True) (∃ (o : Unit), (↑(runes s).length : Int) = (↑i.snd : Int) ∧ True)
theorem eqcount (s : List UInt8) : Vcount s = walk Tryz.prog ([]) 0 ([]) (countA s) [] Tryz.f56 (Tryz.f56.body.getD .skip) (countC.pat s) (countC.pre s) (countC.alts s) := by kernel_rfl

theorem bycount (hG : GOk Tryz.prog ([])) (h : ∀ (s : List UInt8), countC.cnd s → Vcount s) : countC.ok Tryz.prog 56 := ok_of_walk mixed ([]) hG 0 (fun (s : List UInt8) => []) (fun (s : List UInt8) => countA s) [] Tryz.func56 (by kernel_rfl) (by kernel_rfl) (by kernel_rfl) (fun _ => by kernel_rfl) (fun (s : List UInt8) hc => Eq.mp (eqcount s) (h s hc))

def Vsym (s : List UInt8) : Prop :=
  ∃ (i0 : Nat), sb s = sb s ∧ i0 = (0 : Nat) ∧ ∃ (I : Nat → Prop), ∃ (μ : Nat → Nat), I i0 ∧ ∀ (i : Nat), I i → cnd (i.blt (sb s).size) (cnd (decide ((↑(Utf8.decode (sb s) i).fst : Int) ≥ (65 : Int))) (cnd (decide ((↑(Utf8.decode (sb s) i).fst : Int) ≤ (90 : Int))) (∃ (i' : Nat), sb s = sb s ∧ i' = i + (Utf8.decode (sb s) i).snd ∧ I i' ∧ μ i' < μ i ∧ True) (cnd (decide ((↑(Utf8.decode (sb s) i).fst : Int) ≥ (913 : Int))) (cnd (decide ((↑(Utf8.decode (sb s) i).fst : Int) ≤ (937 : Int))) (cnd (!(↑(Utf8.decode (sb s) i).fst : Int) != (930 : Int)) (∃ (o : Unit), symOk s = false ∧ True) (∃ (i' : Nat), sb s = sb s ∧ i' = i + (Utf8.decode (sb s) i).snd ∧ I i' ∧ μ i' < μ i ∧ True)) (∃ (o : Unit), symOk s = false ∧ True)) (∃ (o : Unit), symOk s = false ∧ True))) (cnd (decide ((↑(Utf8.decode (sb s) i).fst : Int) ≥ (913 : Int))) (cnd (decide ((↑(Utf8.decode (sb s) i).fst : Int) ≤ (937 : Int))) (cnd (!(↑(Utf8.decode (sb s) i).fst : Int) != (930 : Int)) (∃ (o : Unit), symOk s = false ∧ True) (∃ (i' : Nat), sb s = sb s ∧ i' = i + (Utf8.decode (sb s) i).snd ∧ I i' ∧ μ i' < μ i ∧ True)) (∃ (o : Unit), symOk s = false ∧ True)) (∃ (o : Unit), symOk s = false ∧ True))) (cnd (!(sb s).toList == (ByteArray.mk #[]).toList) (∃ (i : List UInt8), sb i = sb s ∧ i.length ≤ (140737488355328 : Nat) ∧ ∀ (o : Unit), True → ∃ (o : Unit), symOk s = decide ((↑(runes i).length : Int) ≤ (4 : Int)) ∧ True) (∃ (o : Unit), symOk s = false ∧ True))
theorem eqsym (s : List UInt8) : Vsym s = walk Tryz.prog ([(56, countC)]) 0 ([]) (symA s) [] Tryz.f78 (Tryz.f78.body.getD .skip) (symC.pat s) (symC.pre s) (symC.alts s) := by kernel_rfl

theorem bysym (hG : GOk Tryz.prog ([(56, countC)])) (h : ∀ (s : List UInt8), symC.cnd s → Vsym s) : symC.ok Tryz.prog 78 := ok_of_walk mixed ([(56, countC)]) hG 0 (fun (s : List UInt8) => []) (fun (s : List UInt8) => symA s) [] Tryz.func78 (by kernel_rfl) (by kernel_rfl) (by kernel_rfl) (fun _ => by kernel_rfl) (fun (s : List UInt8) hc => Eq.mp (eqsym s) (h s hc))

def Vmonths (l : List Int) : Prop :=
  ∃ (i0 : Nat), (↑i0 : Int) = (0 : Int) ∧ ∃ (I : Nat → Prop), ∃ (μ : Nat → Nat), I i0 ∧ ∀ (i : Nat), I i → cnd (decide ((↑i : Int) < (↑(iE l).length : Int))) (((0 : Int) ≤ (↑i : Int) ∧ (↑i : Int) < (↑(iE l).length : Int)) ∧ ∃ (n : Int), elPart (iE l) (↑i : Int).toNat (0 : Nat) (1 : Nat) = some [D.v (.int .i64 n)] ∧ cnd (decide (n < (0 : Int))) (∃ (o : Unit), monthsOk l = false ∧ True) (cnd (decide (n > (1199 : Int))) (∃ (o : Unit), monthsOk l = false ∧ True) (cnd (decide ((↑i : Int) > (0 : Int))) (((0 : Int) ≤ IntKind.i64.wrap ((↑i : Int) - (1 : Int)) ∧ IntKind.i64.wrap ((↑i : Int) - (1 : Int)) < (↑(iE l).length : Int)) ∧ ∃ (n_1 : Int), elPart (iE l) (IntKind.i64.wrap ((↑i : Int) - (1 : Int))).toNat (0 : Nat) (1 : Nat) = some [D.v (.int .i64 n_1)] ∧ cnd (decide (n_1 ≥ n)) (∃ (o : Unit), monthsOk l = false ∧ True) (∃ (i' : Nat), (↑i' : Int) = IntKind.i64.wrap ((↑i : Int) + (1 : Int)) ∧ I i' ∧ μ i' < μ i ∧ True)) (∃ (i' : Nat), (↑i' : Int) = IntKind.i64.wrap ((↑i : Int) + (1 : Int)) ∧ I i' ∧ μ i' < μ i ∧ True)))) (cnd (decide ((↑(iE l).length : Int) ≥ (2 : Int))) (∃ (o : Unit), monthsOk l = decide ((↑(iE l).length : Int) ≤ (6 : Int)) ∧ True) (∃ (o : Unit), monthsOk l = false ∧ True))
theorem eqmonths (l : List Int) : Vmonths l = walk Tryz.prog ([]) 0 ([]) (monthsA) [] Tryz.f86 (Tryz.f86.body.getD .skip) (monthsC.pat l) (monthsC.pre l) (monthsC.alts l) := by kernel_rfl

theorem bymonths (hG : GOk Tryz.prog ([])) (h : ∀ (l : List Int), monthsC.cnd l → Vmonths l) : monthsC.ok Tryz.prog 86 := ok_of_walk mixed ([]) hG 0 (fun (l : List Int) => []) (fun (l : List Int) => monthsA) [] Tryz.func86 (by kernel_rfl) (by kernel_rfl) (by kernel_rfl) (fun _ => by kernel_rfl) (fun (l : List Int) hc => Eq.mp (eqmonths l) (h l hc))

def Vmin (l : List Int) : Prop :=
  cnd (decide ((↑(iE l).length : Int) < (1 : Int))) False (((0 : Int) ≤ (0 : Int) ∧ (0 : Int) < (↑(iE l).length : Int)) ∧ ∃ (n : Int), elPart (iE l) (Int.toNat (0 : Int)) (0 : Nat) (1 : Nat) = some [D.v (.int .i64 n)] ∧ ∃ (i0 : Nat), minL (List.take i0 l) = n ∧ (↑i0 : Int) = (1 : Int) ∧ ∃ (I : Nat → Prop), ∃ (μ : Nat → Nat), I i0 ∧ ∀ (i : Nat), I i → cnd (decide ((↑i : Int) < (↑(iE l).length : Int))) (((0 : Int) ≤ (↑i : Int) ∧ (↑i : Int) < (↑(iE l).length : Int)) ∧ ∃ (n : Int), elPart (iE l) (↑i : Int).toNat (0 : Nat) (1 : Nat) = some [D.v (.int .i64 n)] ∧ ∃ (i' : Nat), minL (List.take i' l) = min (minL (List.take i l)) n ∧ (↑i' : Int) = IntKind.i64.wrap ((↑i : Int) + (1 : Int)) ∧ I i' ∧ μ i' < μ i ∧ True) (∃ (o : Unit), minL l = minL (List.take i l) ∧ True))
theorem eqmin (l : List Int) : Vmin l = walk Tryz.prog ([]) 0 ([]) (minA l) [] Tryz.f88 (Tryz.f88.body.getD .skip) (minC.pat l) (minC.pre l) (minC.alts l) := by kernel_rfl

theorem bymin (hG : GOk Tryz.prog ([])) (h : ∀ (l : List Int), minC.cnd l → Vmin l) : minC.ok Tryz.prog 88 := ok_of_walk mixed ([]) hG 0 (fun (l : List Int) => []) (fun (l : List Int) => minA l) [] Tryz.func88 (by kernel_rfl) (by kernel_rfl) (by kernel_rfl) (fun _ => by kernel_rfl) (fun (l : List Int) hc => Eq.mp (eqmin l) (h l hc))

def Vmax (l : List Int) : Prop :=
  cnd (decide ((↑(iE l).length : Int) < (1 : Int))) False (((0 : Int) ≤ (0 : Int) ∧ (0 : Int) < (↑(iE l).length : Int)) ∧ ∃ (n : Int), elPart (iE l) (Int.toNat (0 : Int)) (0 : Nat) (1 : Nat) = some [D.v (.int .i64 n)] ∧ ∃ (i0 : Nat), maxL (List.take i0 l) = n ∧ (↑i0 : Int) = (1 : Int) ∧ ∃ (I : Nat → Prop), ∃ (μ : Nat → Nat), I i0 ∧ ∀ (i : Nat), I i → cnd (decide ((↑i : Int) < (↑(iE l).length : Int))) (((0 : Int) ≤ (↑i : Int) ∧ (↑i : Int) < (↑(iE l).length : Int)) ∧ ∃ (n : Int), elPart (iE l) (↑i : Int).toNat (0 : Nat) (1 : Nat) = some [D.v (.int .i64 n)] ∧ ∃ (i' : Nat), (maxL (List.take i' l) = if n > maxL (List.take i l) then n else maxL (List.take i l)) ∧ (↑i' : Int) = IntKind.i64.wrap ((↑i : Int) + (1 : Int)) ∧ I i' ∧ μ i' < μ i ∧ True) (∃ (o : Unit), maxL l = maxL (List.take i l) ∧ True))
theorem eqmax (l : List Int) : Vmax l = walk Tryz.prog ([]) 0 ([]) (maxA l) [] Tryz.f89 (Tryz.f89.body.getD .skip) (maxC.pat l) (maxC.pre l) (maxC.alts l) := by kernel_rfl

theorem bymax (hG : GOk Tryz.prog ([])) (h : ∀ (l : List Int), maxC.cnd l → Vmax l) : maxC.ok Tryz.prog 89 := ok_of_walk mixed ([]) hG 0 (fun (l : List Int) => []) (fun (l : List Int) => maxA l) [] Tryz.func89 (by kernel_rfl) (by kernel_rfl) (by kernel_rfl) (fun _ => by kernel_rfl) (fun (l : List Int) hc => Eq.mp (eqmax l) (h l hc))

end Sx

namespace Sx
set_option linter.unusedVariables false
set_option linter.unusedSimpArgs false
set_option maxRecDepth 100000
open Go Cv Go.Proofs



/-! ### Texts -/
@[simp] theorem sb_size (s : List UInt8) : (sb s).size = s.length := by simp [sb, ByteArray.size]
theorem sb_toList (s : List UInt8) : (sb s).toList = s := by rw [ByteArray.toList_eq]; rfl
theorem sb_get (s : List UInt8) (p k : Nat) : (sb s).get! (p + k) = (sb (s.drop p)).get! (0 + k) := by
  simp only [sb, ByteArray.get!, Nat.zero_add]
  simp only [List.getElem!_toArray, List.getElem!_eq_getElem?_getD, List.getElem?_drop]
theorem decode_drop (s : List UInt8) (p : Nat) : Utf8.decode (sb s) p = dec1 (s.drop p) := by
  have h (k : Nat) : (decide (p + k < (sb s).size)) = decide (0 + k < (sb (s.drop p)).size) := by
    simp only [sb_size, List.length_drop]
    by_cases h : p + k < s.length
    · rw [decide_eq_true h, decide_eq_true (by omega)]
    · rw [decide_eq_false h, decide_eq_false (by omega)]
  unfold dec1 Utf8.decode
  simp only [sb_get s p, h]
theorem decode_w (s : List UInt8) {p : Nat} (h : p < s.length) : 1 ≤ (Utf8.decode (sb s) p).2 ∧ p + (Utf8.decode (sb s) p).2 ≤ s.length := by
  unfold Utf8.decode
  simp only [sb_size, Bool.and_eq_true, decide_eq_true_eq]
  split
  · exact ⟨by simp, by simp; omega⟩
  split
  · rename_i h1
    split
    · exact ⟨by simp, by simp; omega⟩
    · exact ⟨by simp, by simp; omega⟩
  split
  · rename_i h1
    split
    · exact ⟨by simp, by simp; omega⟩
    · exact ⟨by simp, by simp; omega⟩
  split
  · rename_i h1
    split
    · exact ⟨by simp, by simp; omega⟩
    · exact ⟨by simp, by simp; omega⟩
  · exact ⟨by simp, by simp; omega⟩
theorem dec1_w {l : List UInt8} (h : l ≠ []) : 1 ≤ (dec1 l).2 ∧ (dec1 l).2 ≤ l.length := by
  have := decode_w l (p := 0) (by cases l <;> simp_all)
  rw [dec1]; omega
theorem runesAt_fuel : ∀ (k : Nat) (p : Nat) (l : List UInt8), l.length ≤ k → runesAt k p l = runesAt l.length p l
  | 0, p, l, h => by
    have : l = [] := List.eq_nil_of_length_eq_zero (by omega)
    subst this; rfl
  | k + 1, p, [], h => rfl
  | k + 1, p, b :: l, h => by
    have hw := dec1_w (l := b :: l) (by simp)
    have hl : ((b :: l).drop (dec1 (b :: l)).2).length ≤ l.length := by rw [List.length_drop, List.length_cons]; omega
    rw [List.length_cons]
    simp only [runesAt]
    rw [runesAt_fuel k _ _ (by rw [List.length_cons] at h; omega), runesAt_fuel l.length _ _ hl]
theorem runesP_end {s : List UInt8} {p : Nat} (h : s.length ≤ p) : runesP s p = [] := by
  rw [runesP, show s.length - p = 0 by omega]; rfl
theorem runesP_step {s : List UInt8} {p : Nat} (h : p < s.length) : runesP s p = (p, (Utf8.decode (sb s) p).1) :: runesP s (p + (Utf8.decode (sb s) p).2) := by
  obtain ⟨k, hk⟩ : ∃ k, s.length - p = k + 1 := ⟨s.length - p - 1, by omega⟩
  have hw := decode_w s h
  obtain ⟨b, l, hb⟩ : ∃ b l, s.drop p = b :: l := by
    cases hd : s.drop p with
    | nil => rw [List.drop_eq_nil_iff] at hd; omega
    | cons b l => exact ⟨b, l, rfl⟩
  have hlen : (b :: l).length = s.length - p := by rw [← hb, List.length_drop]
  rw [runesP, hk, hb, decode_drop, hb, runesP]
  rw [decode_drop, hb] at hw
  simp only [runesAt]
  have e : (b :: l).drop (dec1 (b :: l)).2 = s.drop (p + (dec1 (b :: l)).2) := by rw [← hb, List.drop_drop]
  rw [e, runesAt_fuel k _ _ (by rw [List.length_drop]; omega), List.length_drop]
theorem runesP_len (s : List UInt8) : ∀ (k p : Nat), s.length - p ≤ k → (runesP s p).length ≤ s.length - p
  | 0, p, h => by rw [runesP_end (by omega)]; simp
  | k + 1, p, h => by
    by_cases hp : p < s.length
    · have hw := decode_w s hp
      rw [runesP_step hp, List.length_cons]
      have := runesP_len s k (p + (Utf8.decode (sb s) p).2) (by omega)
      omega
    · rw [runesP_end (by omega)]; simp
theorem runes_len (s : List UInt8) : (runes s).length ≤ s.length := by
  rw [runes, List.length_map]
  have := runesP_len s s.length 0 (by omega)
  omega

theorem blt_f {a b : Nat} (h : Nat.blt a b = false) : b ≤ a := by
  rcases Nat.lt_or_ge a b with h1 | h1
  · rw [show Nat.blt a b = true by rw [Nat.blt_eq]; exact h1] at h; cases h
  · exact h1
theorem sb_nil : (ByteArray.mk #[]).toList = [] := sb_toList []

theorem vcount (s : List UInt8) (h : countC.cnd s) : Vcount s := by
  have h : s.length ≤ 140737488355328 := h
  have hr := runes_len s
  unfold Vcount
  refine ⟨(0, 0), rfl, rfl, rfl, fun x => x.1 ≤ s.length ∧ x.2 + (runesP s x.1).length = (runes s).length, fun x => s.length - x.1, ⟨by omega, by rw [runes, List.length_map]; simp⟩, ?_⟩
  rintro ⟨p, n⟩ ⟨h1, h2⟩
  dsimp only at h1 h2 ⊢
  refine Cv.cnd.mk (fun hp => ?_) (fun hp => ?_)
  · have hp : p < s.length := by simpa [Nat.blt_eq] using hp
    have hw := decode_w s hp
    rw [runesP_step hp, List.length_cons] at h2
    refine ⟨(p + (Utf8.decode (sb s) p).2, n + 1), ?_, rfl, rfl, ⟨hw.2, by (first | omega | (dsimp only; omega))⟩, by (first | omega | (dsimp only; omega)), trivial⟩
    rw [w64 (by omega)]; rfl
  · have hp : s.length ≤ p := by have := blt_f hp; simpa using this
    rw [runesP_end hp] at h2
    exact ⟨(), by rw [← h2]; rfl, trivial⟩
theorem count_ok : countC.ok Tryz.prog 56 := bycount gok0 vcount

theorem vsym (s : List UInt8) (h : symC.cnd s) : Vsym s := by
  have h : s.length ≤ 140737488355328 := h
  unfold Vsym
  refine ⟨0, rfl, rfl, fun p => p ≤ s.length ∧ (runes s).all great = (runesP s p).all fun x => great x.2, fun p => s.length - p, ⟨by omega, by rw [runes, List.all_map]; rfl⟩, ?_⟩
  rintro p ⟨h1, h2⟩
  refine Cv.cnd.mk (fun hp => ?_) (fun hp => ?_)
  · have hp : p < s.length := by simpa [Nat.blt_eq] using hp
    have hw := decode_w s hp
    rw [runesP_step hp, List.all_cons] at h2
    generalize hc : (Utf8.decode (sb s) p).1 = c at h2 ⊢
    generalize hww : (Utf8.decode (sb s) p).2 = w at h2 hw ⊢
    dsimp only at h2
    have bad : great c = false → ∃ (o : Unit), symOk s = false ∧ True := fun e => ⟨(), by rw [symOk, h2, e]; rfl, trivial⟩
    have good : great c = true → ∃ i' : Nat, sb s = sb s ∧ i' = p + w ∧ (i' ≤ s.length ∧ (runes s).all great = (runesP s i').all fun x => great x.2) ∧ s.length - i' < s.length - p ∧ True := fun e => ⟨p + w, rfl, rfl, ⟨hw.2, by rw [h2, e]; rfl⟩, by omega, trivial⟩
    refine cndD (fun c1 => cndD (fun c2 => ?_) (fun c2 => cndD (fun c3 => cndD (fun c4 => Cv.cnd.mk (fun c5 => ?_) (fun c5 => ?_)) (fun c4 => ?_)) (fun c3 => ?_))) (fun c1 => cndD (fun c3 => cndD (fun c4 => Cv.cnd.mk (fun c5 => ?_) (fun c5 => ?_)) (fun c4 => ?_)) (fun c3 => ?_))
    all_goals first | (refine good ?_; simp [great] at *; omega) | (refine bad ?_; simp [great] at *; omega)
  · have hp : s.length ≤ p := by have := blt_f hp; simpa using this
    rw [runesP_end hp] at h2
    have h2 : (runes s).all great = true := h2
    refine Cv.cnd.mk (fun e => ⟨s, rfl, h, fun _ _ => ⟨(), ?_, trivial⟩⟩) (fun e => ⟨(), ?_, trivial⟩)
    · rw [sb_toList, sb_nil] at e
      have : s ≠ [] := by simpa using e
      rw [symOk, h2, decide_eq_true this]
      simp only [Bool.true_and]
      congr 1
      simp only [eq_iff_iff]; omega
    · have : s = [] := by
        rw [sb_toList, sb_nil] at e
        simpa using e
      rw [symOk, this]; rfl
theorem sym_ok : symC.ok Tryz.prog 78 := bysym (gokc count_ok gok0) vsym

/-! ### Lists of numbers -/
@[simp] theorem iE_len (l : List Int) : (iE l).length = l.length := by simp [iE]
theorem elI {l : List Int} {k : Nat} {n : Int} (h : l[k]? = some n) : elPart (iE l) k 0 1 = some [D.v (.int .i64 n)] := by
  simp [elPart, iE, h]; rfl
theorem getI {α : Type} {l : List α} {i : Nat} (h : i < l.length) : ∃ x, l[i]? = some x := ⟨l[i], List.getElem?_eq_getElem h⟩
theorem all_false {n k : Nat} {f : Nat → Bool} (hk : k < n) (h : f k = false) : (List.range n).all f = false := by
  cases hh : (List.range n).all f
  · rfl
  · rw [List.all_eq_true] at hh
    rw [hh k (by simpa using hk)] at h; cases h
theorem all_true {n : Nat} {f : Nat → Bool} (h : ∀ k < n, f k = true) : (List.range n).all f = true := by
  rw [List.all_eq_true]; intro k hk; exact h k (by simpa using hk)

theorem vmonths (l : List Int) (h : monthsC.cnd l) : Vmonths l := by
  have h : l.length ≤ 140737488355328 := h
  unfold Vmonths
  simp only [iE_len]
  refine ⟨0, rfl, fun j => j ≤ l.length ∧ ∀ k < j, monthAt l k = true, fun j => l.length - j, ⟨by omega, fun k hk => by omega⟩, ?_⟩
  rintro j ⟨h1, h2⟩
  have bad : j < l.length → monthAt l j = false → ∃ (o : Unit), monthsOk l = false ∧ True := fun hj e => ⟨(), by rw [monthsOk, all_false hj e]; rfl, trivial⟩
  have good : j < l.length → monthAt l j = true → ∃ i' : Nat, (i' : Int) = IntKind.i64.wrap ((j : Int) + 1) ∧ (i' ≤ l.length ∧ ∀ k < i', monthAt l k = true) ∧ l.length - i' < l.length - j ∧ True := fun hj e => ⟨j + 1, by rw [w64 (by omega)]; rfl, ⟨by omega, fun k hk => by
    rcases Nat.lt_or_ge k j with hk' | hk'
    · exact h2 k hk'
    · obtain rfl : k = j := by omega
      exact e⟩, by omega, trivial⟩
  refine cndD (fun hj => ?_) (fun hj => ?_)
  · have hj : j < l.length := by omega
    obtain ⟨n, hn⟩ := getI hj
    have hg : l.getD j 0 = n := by simp [hn]
    refine ⟨⟨by omega, by omega⟩, n, elI hn, cndD (fun c1 => bad hj (by simp [monthAt, hn]; omega)) (fun c1 => cndD (fun c2 => bad hj (by simp [monthAt, hn]; omega)) (fun c2 => cndD (fun c3 => ?_) (fun c3 => good hj ?_)))⟩
    · have e : IntKind.i64.wrap ((j : Int) - 1) = ((j - 1 : Nat) : Int) := by rw [w64 (by omega)]; omega
      obtain ⟨m, hm⟩ := getI (l := l) (i := j - 1) (by omega)
      rw [e]
      refine ⟨⟨by omega, by omega⟩, m, elI hm, cndD (fun c4 => bad hj ?_) (fun c4 => good hj ?_)⟩
      · simp [monthAt, hn, hm]; omega
      · simp [monthAt, hn, hm]; omega
    · simp [monthAt, hn]; omega
  · have e : (List.range l.length).all (monthAt l) = true := all_true fun k hk => h2 k (by omega)
    refine cndD (fun c => ⟨(), ?_, trivial⟩) (fun c => ⟨(), ?_, trivial⟩)
    · rw [monthsOk, e, decide_eq_true (show 2 ≤ l.length by omega)]
      simp; omega
    · rw [monthsOk, decide_eq_false (show ¬ 2 ≤ l.length by omega)]; simp
theorem months_ok : monthsC.ok Tryz.prog 86 := bymonths gok0 vmonths

theorem fold_take {f : Int → Int → Int} {l : List Int} {j : Nat} {n : Int} (h : l[j + 1]? = some n) : (l.take (j + 2)).tail.foldl f ((l.take (j + 2)).headD 0) = f ((l.take (j + 1)).tail.foldl f ((l.take (j + 1)).headD 0)) n := by
  cases l with
  | nil => simp at h
  | cons a l =>
    simp only [List.getElem?_cons_succ] at h
    simp only [List.take_succ_cons, List.tail_cons, List.headD_cons]
    rw [List.take_add_one, h, List.foldl_append]; rfl
theorem one_take {l : List Int} {n : Int} (h : l[0]? = some n) (f : Int → Int → Int) : (l.take 1).tail.foldl f ((l.take 1).headD 0) = n := by
  cases l with
  | nil => simp at h
  | cons a l => simpa using h

theorem vmin (l : List Int) (h : minC.cnd l) : Vmin l := by
  obtain ⟨h0, h⟩ : 0 < l.length ∧ l.length ≤ 140737488355328 := h
  unfold Vmin
  simp only [iE_len]
  obtain ⟨n, hn⟩ := getI h0
  refine cndD (fun c => by omega) (fun c => ⟨⟨by omega, by omega⟩, n, elI hn, 1, one_take hn min, rfl, fun j => 1 ≤ j ∧ j ≤ l.length, fun j => l.length - j, ⟨by omega, by omega⟩, ?_⟩)
  rintro j ⟨h1, h2⟩
  refine cndD (fun hj => ?_) (fun hj => ⟨(), ?_, trivial⟩)
  · obtain ⟨m, hm⟩ := getI (l := l) (i := j) (by omega)
    refine ⟨⟨by omega, by omega⟩, m, elI hm, j + 1, ?_, ?_, ⟨by omega, by omega⟩, by (first | omega | (dsimp only; omega)), trivial⟩
    · obtain ⟨k, rfl⟩ : ∃ k, j = k + 1 := ⟨j - 1, by omega⟩
      first
        | (rw [minL, fold_take hm, ← minL]; done)
        | (rw [minL, fold_take hm, ← minL]; generalize minL (l.take (k + 1)) = x; split <;> omega)
    · rw [w64 (by omega)]; rfl
  · rw [List.take_of_length_le (by omega)]
theorem min_ok : minC.ok Tryz.prog 88 := bymin gok0 vmin

theorem vmax (l : List Int) (h : maxC.cnd l) : Vmax l := by
  obtain ⟨h0, h⟩ : 0 < l.length ∧ l.length ≤ 140737488355328 := h
  unfold Vmax
  simp only [iE_len]
  obtain ⟨n, hn⟩ := getI h0
  refine cndD (fun c => by omega) (fun c => ⟨⟨by omega, by omega⟩, n, elI hn, 1, one_take hn max, rfl, fun j => 1 ≤ j ∧ j ≤ l.length, fun j => l.length - j, ⟨by omega, by omega⟩, ?_⟩)
  rintro j ⟨h1, h2⟩
  refine cndD (fun hj => ?_) (fun hj => ⟨(), ?_, trivial⟩)
  · obtain ⟨m, hm⟩ := getI (l := l) (i := j) (by omega)
    refine ⟨⟨by omega, by omega⟩, m, elI hm, j + 1, ?_, ?_, ⟨by omega, by omega⟩, by (first | omega | (dsimp only; omega)), trivial⟩
    · obtain ⟨k, rfl⟩ : ∃ k, j = k + 1 := ⟨j - 1, by omega⟩
      rw [maxL, fold_take hm, ← maxL]
      generalize maxL (l.take (k + 1)) = x
      split <;> omega
    · rw [w64 (by omega)]; rfl
  · rw [List.take_of_length_le (by omega)]
theorem max_ok : maxC.ok Tryz.prog 89 := bymax gok0 vmax

end Sx

namespace Sx
set_option linter.unusedVariables false
open Go Cv Go.Proofs

@[reducible] def Prd.row (p : Prd) : AObj := .cells p.cells 25
structure OffI where
  p : Prd
  n : Int
structure OffL where
  p : Prd
  l : List Int
def offB (t n : Int) : Bool := n.tmod t != 0
def offC : Con := con1 OffI (fun i => [i64V i.n, .nm 0 0]) (fun i => [i.p.row]) (fun i => 1 ≤ i.p.tick) (fun i => boolV (offB i.p.tick i.n)) (fun i => [i.p.row])
@[reducible] def offF : V := .fn 98 [] [.nm 0 0]
def idxOr (k : Option Nat) : Int := match k with
  | some k => k
  | none => -1
def idxC : Con := con1 OffL (fun i => [iV i.l, offF]) (fun i => [i.p.row]) (fun i => 1 ≤ i.p.tick ∧ i.l.length ≤ 140737488355328) (fun i => i64V (idxOr (i.l.findIdx? (offB i.p.tick)))) (fun i => [i.p.row])
def idxA (i : OffL) : List SAnn := [{ ι := Nat, slots := fun j => [(8, i64V j)], rows := fun _ => [] }]
def containsC : Con := con1 OffL (fun i => [iV i.l, offF]) (fun i => [i.p.row]) (fun i => 1 ≤ i.p.tick ∧ i.l.length ≤ 140737488355328) (fun i => boolV (i.l.any (offB i.p.tick))) (fun i => [i.p.row])

def ticksOk (p : Prd) : Bool := decide (1 ≤ p.tick) && decide (p.tick ≤ 1000) && !offB p.tick p.low && !offB p.tick p.high && !offB p.tick p.wide && !p.settle.any (offB p.tick)
def ticksC : Con := con1 Prd (fun p => [prdV p]) (fun _ => []) Prd.small (fun p => boolV (ticksOk p)) (fun _ => [])

def bandBad (p : Prd) : Bool := decide (p.low < -1000000) || decide (p.low ≥ p.high) || decide (p.high > 1000000) || decide (p.wide < 0) || decide (p.wide > p.high - p.low)
def settleBad (p : Prd) : Bool := decide (p.settle.length ≠ p.months.length) || decide (minL p.settle < p.low) || decide (maxL p.settle > p.high)
def ruleBad (p : Prd) : Bool := decide (p.rule < 1) || decide (p.rule > 3)
def qtyBad (p : Prd) : Bool := decide (p.top < 0) || decide (p.top > 1000000) || decide (p.least < 1) || decide (p.least > 1000) || decide (p.part < 0) || decide (p.part > 100)
def Prd.check (p : Prd) : Int :=
  if !symOk p.code then 12 else if !monthsOk p.months then 1 else if !ticksOk p then 22 else if bandBad p then 23 else if settleBad p then 1 else if ruleBad p then 31 else if qtyBad p then 24 else 0
def checkC : Con := con1 Prd (fun p => [prdV p]) (fun _ => []) Prd.small (fun p => i64V p.check) (fun _ => [])

def Prd.count (p : Prd) : Nat := if p.check = 0 then p.months.length + p.months.length * (p.months.length - 1) / 2 else 0
def pcountC : Con := con1 Prd (fun p => [prdV p]) (fun _ => []) Prd.small (fun p => i64V p.count) (fun _ => [])

structure LegI where
  p : Prd
  n : Int
/-- The number of the first spread of a month, of n. -/
def firstOf (n : Nat) : Nat → Nat
  | 0 => n
  | k + 1 => firstOf n k + (n - 1 - k)
/-- The months of an instrument; whether it is a spread. -/
def legsFrom (n inst : Nat) : Nat → Nat → Int × Int × Bool
  | 0, _ => (0, 0, false)
  | k + 1, m => if inst < firstOf n m + (n - 1 - m) then (m, m + 1 + (inst - firstOf n m : Nat), true) else legsFrom n inst k (m + 1)
def Prd.legs (p : Prd) (i : Int) : Int × Int × Bool :=
  if i < 0 ∨ (p.count : Int) ≤ i then (0, 0, false) else if i < p.months.length then (i, i, false) else legsFrom p.months.length i.toNat p.months.length 0
def legsC : Con := con1 LegI (fun i => [prdV i.p, i64V i.n]) (fun _ => []) (fun i => i.p.small) (fun i => .tup [i64V (i.p.legs i.n).1, i64V (i.p.legs i.n).2.1, boolV (i.p.legs i.n).2.2]) (fun _ => [])

structure SprI where
  p : Prd
  a : Int
  b : Int
def Prd.spread (p : Prd) (a b : Int) : Int × Bool :=
  if p.check ≠ 0 ∨ a < 0 ∨ b ≤ a ∨ (p.months.length : Int) ≤ b then (0, false) else ((firstOf p.months.length a.toNat : Int) + b - a - 1, true)
def Prd.price (p : Prd) (i n : Int) : Int :=
  if p.count = 0 then 1 else if i < 0 ∨ (p.count : Int) ≤ i then 20 else if offB p.tick n then 22 else
  if n < (if (p.months.length : Int) ≤ i then -p.wide else p.low) ∨ (if (p.months.length : Int) ≤ i then p.wide else p.high) < n then 23 else 0
structure I2 where
  x : Int
  y : Int
@[reducible] def i64r (n : Int) : Prop := -9223372036854775808 ≤ n ∧ n ≤ 9223372036854775807
def legsA (i : LegI) : List SAnn := [{ ι := Nat, slots := fun m => [(8, i64V (firstOf i.p.months.length m)), (33, i64V m)], rows := fun _ => [] }]
end Sx

namespace Sx
set_option linter.unusedVariables false
set_option maxRecDepth 100000
open Go Cv Go.Proofs
def Voff (i : OffI) : Prop :=
  IntKind.i64 = IntKind.i64 ∧ i.p.tick ≠ (0 : Int) ∧ ∃ (o : Unit), offB i.p.tick i.n = (i.n.tmod i.p.tick != (0 : Int)) ∧ sb i.p.code = sb i.p.code ∧ iE i.p.months = iE i.p.months ∧ i.p.tick = i.p.tick ∧ i.p.low = i.p.low ∧ i.p.high = i.p.high ∧ i.p.wide = i.p.wide ∧ i.p.rule = i.p.rule ∧ i.p.top = i.p.top ∧ i.p.least = i.p.least ∧ i.p.part = i.p.part ∧ iE i.p.settle = iE i.p.settle ∧ True
theorem eqoff (i : OffI) : Voff i = walk Tryz.prog ([]) 0 ([]) ([]) [] Tryz.f98 (Tryz.f98.body.getD .skip) (offC.pat i) (offC.pre i) (offC.alts i) := by kernel_rfl

theorem byoff (hG : GOk Tryz.prog ([])) (h : ∀ (i : OffI), offC.cnd i → Voff i) : offC.ok Tryz.prog 98 := ok_of_walk mixed ([]) hG 0 (fun (i : OffI) => []) (fun (i : OffI) => []) [] Tryz.func98 (by kernel_rfl) (by kernel_rfl) (by kernel_rfl) (fun _ => by kernel_rfl) (fun (i : OffI) hc => Eq.mp (eqoff i) (h i hc))

def Vidx (i : OffL) : Prop :=
  ∃ (i0 : Nat), (↑i0 : Int) = (0 : Int) ∧ ∃ (I : Nat → Prop), ∃ (μ : Nat → Nat), I i0 ∧ ∀ (i_1 : Nat), I i_1 → cnd (decide ((↑i_1 : Int) < (↑(iE i.l).length : Int))) (((0 : Int) ≤ (↑i_1 : Int) ∧ (↑i_1 : Int) < (↑(iE i.l).length : Int)) ∧ ∃ (n : Int), elPart (iE i.l) (↑i_1 : Int).toNat (0 : Nat) (1 : Nat) = some [D.v (.int .i64 n)] ∧ ∃ (i_2 : OffI), i_2.n = n ∧ sb i_2.p.code = sb i.p.code ∧ iE i_2.p.months = iE i.p.months ∧ i_2.p.tick = i.p.tick ∧ i_2.p.low = i.p.low ∧ i_2.p.high = i.p.high ∧ i_2.p.wide = i.p.wide ∧ i_2.p.rule = i.p.rule ∧ i_2.p.top = i.p.top ∧ i_2.p.least = i.p.least ∧ i_2.p.part = i.p.part ∧ iE i_2.p.settle = iE i.p.settle ∧ (1 : Int) ≤ i_2.p.tick ∧ ∀ (o : Unit), True → cnd (offB i_2.p.tick i_2.n) (∃ (o : Unit), idxOr (List.findIdx? (offB i.p.tick) i.l) = (↑i_1 : Int) ∧ sb i.p.code = sb i_2.p.code ∧ iE i.p.months = iE i_2.p.months ∧ i.p.tick = i_2.p.tick ∧ i.p.low = i_2.p.low ∧ i.p.high = i_2.p.high ∧ i.p.wide = i_2.p.wide ∧ i.p.rule = i_2.p.rule ∧ i.p.top = i_2.p.top ∧ i.p.least = i_2.p.least ∧ i.p.part = i_2.p.part ∧ iE i.p.settle = iE i_2.p.settle ∧ True) (∃ (i' : Nat), (↑i' : Int) = IntKind.i64.wrap ((↑i_1 : Int) + (1 : Int)) ∧ I i' ∧ μ i' < μ i_1 ∧ Sx.AObj.cells (renL (newNM (1 : Nat) ((1 : Nat) + (0 : Nat)) ((1 : Nat) - (1 : Nat)) [((0 : Nat), (0 : Nat))]) i_2.p.cells) (25 : TypeId) = i.p.row)) (∃ (o : Unit), idxOr (List.findIdx? (offB i.p.tick) i.l) = (-1 : Int) ∧ sb i.p.code = sb i.p.code ∧ iE i.p.months = iE i.p.months ∧ i.p.tick = i.p.tick ∧ i.p.low = i.p.low ∧ i.p.high = i.p.high ∧ i.p.wide = i.p.wide ∧ i.p.rule = i.p.rule ∧ i.p.top = i.p.top ∧ i.p.least = i.p.least ∧ i.p.part = i.p.part ∧ iE i.p.settle = iE i.p.settle ∧ True)
theorem eqidx (i : OffL) : Vidx i = walk Tryz.prog ([(98, offC)]) 0 ([]) (idxA i) [] Tryz.f102 (Tryz.f102.body.getD .skip) (idxC.pat i) (idxC.pre i) (idxC.alts i) := by kernel_rfl

theorem byidx (hG : GOk Tryz.prog ([(98, offC)])) (h : ∀ (i : OffL), idxC.cnd i → Vidx i) : idxC.ok Tryz.prog 102 := ok_of_walk mixed ([(98, offC)]) hG 0 (fun (i : OffL) => []) (fun (i : OffL) => idxA i) [] Tryz.func102 (by kernel_rfl) (by kernel_rfl) (by kernel_rfl) (fun _ => by kernel_rfl) (fun (i : OffL) hc => Eq.mp (eqidx i) (h i hc))

def Vcontains (i : OffL) : Prop :=
  ∃ (i_1 : OffL), iE i_1.l = iE i.l ∧ sb i_1.p.code = sb i.p.code ∧ iE i_1.p.months = iE i.p.months ∧ i_1.p.tick = i.p.tick ∧ i_1.p.low = i.p.low ∧ i_1.p.high = i.p.high ∧ i_1.p.wide = i.p.wide ∧ i_1.p.rule = i.p.rule ∧ i_1.p.top = i.p.top ∧ i_1.p.least = i.p.least ∧ i_1.p.part = i.p.part ∧ iE i_1.p.settle = iE i.p.settle ∧ ((1 : Int) ≤ i_1.p.tick ∧ i_1.l.length ≤ (140737488355328 : Nat)) ∧ ∀ (o : Unit), True → ∃ (o : Unit), i.l.any (offB i.p.tick) = decide (idxOr (List.findIdx? (offB i_1.p.tick) i_1.l) ≥ (0 : Int)) ∧ sb i.p.code = sb i_1.p.code ∧ iE i.p.months = iE i_1.p.months ∧ i.p.tick = i_1.p.tick ∧ i.p.low = i_1.p.low ∧ i.p.high = i_1.p.high ∧ i.p.wide = i_1.p.wide ∧ i.p.rule = i_1.p.rule ∧ i.p.top = i_1.p.top ∧ i.p.least = i_1.p.least ∧ i.p.part = i_1.p.part ∧ iE i.p.settle = iE i_1.p.settle ∧ True
theorem eqcontains (i : OffL) : Vcontains i = walk Tryz.prog ([(102, idxC)]) 0 ([]) ([]) [] Tryz.f99 (Tryz.f99.body.getD .skip) (containsC.pat i) (containsC.pre i) (containsC.alts i) := by kernel_rfl

theorem bycontains (hG : GOk Tryz.prog ([(102, idxC)])) (h : ∀ (i : OffL), containsC.cnd i → Vcontains i) : containsC.ok Tryz.prog 99 := ok_of_walk mixed ([(102, idxC)]) hG 0 (fun (i : OffL) => []) (fun (i : OffL) => []) [] Tryz.func99 (by kernel_rfl) (by kernel_rfl) (by kernel_rfl) (fun _ => by kernel_rfl) (fun (i : OffL) hc => Eq.mp (eqcontains i) (h i hc))

def Vticks (p : Prd) : Prop :=
  cnd (decide (p.tick < (1 : Int))) (∃ (o : Unit), ticksOk p = false ∧ True) (cnd (decide (p.tick > (1000 : Int))) (∃ (o : Unit), ticksOk p = false ∧ True) (∃ (i : OffI), i.n = p.low ∧ sb i.p.code = sb p.code ∧ iE i.p.months = iE p.months ∧ i.p.tick = p.tick ∧ i.p.low = p.low ∧ i.p.high = p.high ∧ i.p.wide = p.wide ∧ i.p.rule = p.rule ∧ i.p.top = p.top ∧ i.p.least = p.least ∧ i.p.part = p.part ∧ iE i.p.settle = iE p.settle ∧ (1 : Int) ≤ i.p.tick ∧ ∀ (o : Unit), True → cnd (!offB i.p.tick i.n) (∃ (i_1 : OffI), i_1.n = i.p.high ∧ sb i_1.p.code = sb i.p.code ∧ iE i_1.p.months = iE i.p.months ∧ i_1.p.tick = i.p.tick ∧ i_1.p.low = i.p.low ∧ i_1.p.high = i.p.high ∧ i_1.p.wide = i.p.wide ∧ i_1.p.rule = i.p.rule ∧ i_1.p.top = i.p.top ∧ i_1.p.least = i.p.least ∧ i_1.p.part = i.p.part ∧ iE i_1.p.settle = iE i.p.settle ∧ (1 : Int) ≤ i_1.p.tick ∧ ∀ (o : Unit), True → cnd (!offB i_1.p.tick i_1.n) (∃ (i : OffI), i.n = i_1.p.wide ∧ sb i.p.code = sb i_1.p.code ∧ iE i.p.months = iE i_1.p.months ∧ i.p.tick = i_1.p.tick ∧ i.p.low = i_1.p.low ∧ i.p.high = i_1.p.high ∧ i.p.wide = i_1.p.wide ∧ i.p.rule = i_1.p.rule ∧ i.p.top = i_1.p.top ∧ i.p.least = i_1.p.least ∧ i.p.part = i_1.p.part ∧ iE i.p.settle = iE i_1.p.settle ∧ (1 : Int) ≤ i.p.tick ∧ ∀ (o : Unit), True → cnd (!offB i.p.tick i.n) (∃ (i_2 : OffL), iE i_2.l = iE i.p.settle ∧ sb i_2.p.code = sb i.p.code ∧ iE i_2.p.months = iE i.p.months ∧ i_2.p.tick = i.p.tick ∧ i_2.p.low = i.p.low ∧ i_2.p.high = i.p.high ∧ i_2.p.wide = i.p.wide ∧ i_2.p.rule = i.p.rule ∧ i_2.p.top = i.p.top ∧ i_2.p.least = i.p.least ∧ i_2.p.part = i.p.part ∧ iE i_2.p.settle = iE i.p.settle ∧ ((1 : Int) ≤ i_2.p.tick ∧ i_2.l.length ≤ (140737488355328 : Nat)) ∧ ∀ (o : Unit), True → ∃ (o : Unit), ticksOk p = !i_2.l.any (offB i_2.p.tick) ∧ True) (∃ (o : Unit), ticksOk p = false ∧ True)) (∃ (o : Unit), ticksOk p = false ∧ True)) (∃ (o : Unit), ticksOk p = false ∧ True)))
theorem eqticks (p : Prd) : Vticks p = walk Tryz.prog ([(98, offC), (99, containsC)]) 0 ([]) ([]) [] Tryz.f87 (Tryz.f87.body.getD .skip) (ticksC.pat p) (ticksC.pre p) (ticksC.alts p) := by kernel_rfl

theorem byticks (hG : GOk Tryz.prog ([(98, offC), (99, containsC)])) (h : ∀ (p : Prd), ticksC.cnd p → Vticks p) : ticksC.ok Tryz.prog 87 := ok_of_walk mixed ([(98, offC), (99, containsC)]) hG 0 (fun (p : Prd) => []) (fun (p : Prd) => []) [] Tryz.func87 (by kernel_rfl) (by kernel_rfl) (by kernel_rfl) (fun _ => by kernel_rfl) (fun (p : Prd) hc => Eq.mp (eqticks p) (h p hc))

def Vcheck (p : Prd) : Prop :=
  ∃ (i : List UInt8), sb i = sb p.code ∧ i.length ≤ (140737488355328 : Nat) ∧ ∀ (o : Unit), True → cnd (!symOk i) (∃ (o : Unit), p.check = (12 : Int) ∧ True) (∃ (i : List Int), iE i = iE p.months ∧ i.length ≤ (140737488355328 : Nat) ∧ ∀ (o : Unit), True → cnd (!monthsOk i) (∃ (o : Unit), p.check = (1 : Int) ∧ True) (∃ (i : Prd), sb i.code = sb p.code ∧ iE i.months = iE p.months ∧ i.tick = p.tick ∧ i.low = p.low ∧ i.high = p.high ∧ i.wide = p.wide ∧ i.rule = p.rule ∧ i.top = p.top ∧ i.least = p.least ∧ i.part = p.part ∧ iE i.settle = iE p.settle ∧ (i.code.length ≤ (140737488355328 : Nat) ∧ i.months.length ≤ (140737488355328 : Nat) ∧ i.settle.length ≤ (140737488355328 : Nat)) ∧ ∀ (o : Unit), True → cnd (!ticksOk i) (∃ (o : Unit), p.check = (22 : Int) ∧ True) (cnd (decide (p.low < (-1000000 : Int))) (∃ (o : Unit), p.check = (23 : Int) ∧ True) (cnd (decide (p.low ≥ p.high)) (∃ (o : Unit), p.check = (23 : Int) ∧ True) (cnd (decide (p.high > (1000000 : Int))) (∃ (o : Unit), p.check = (23 : Int) ∧ True) (cnd (decide (p.wide < (0 : Int))) (∃ (o : Unit), p.check = (23 : Int) ∧ True) (cnd (decide (p.wide > IntKind.i64.wrap (p.high - p.low))) (∃ (o : Unit), p.check = (23 : Int) ∧ True) (cnd ((↑(iE p.settle).length : Int) != (↑(iE p.months).length : Int)) (∃ (o : Unit), p.check = (1 : Int) ∧ True) (∃ (i : List Int), iE i = iE p.settle ∧ ((0 : Nat) < i.length ∧ i.length ≤ (140737488355328 : Nat)) ∧ ∀ (o : Unit), True → p.low = p.low ∧ cnd (decide (minL i < p.low)) (∃ (o : Unit), p.check = (1 : Int) ∧ True) (∃ (i : List Int), iE i = iE p.settle ∧ ((0 : Nat) < i.length ∧ i.length ≤ (140737488355328 : Nat)) ∧ ∀ (o : Unit), True → p.high = p.high ∧ cnd (decide (maxL i > p.high)) (∃ (o : Unit), p.check = (1 : Int) ∧ True) (cnd (decide (p.rule < (1 : Int))) (∃ (o : Unit), p.check = (31 : Int) ∧ True) (cnd (decide (p.rule > (3 : Int))) (∃ (o : Unit), p.check = (31 : Int) ∧ True) (cnd (decide (p.top < (0 : Int))) (∃ (o : Unit), p.check = (24 : Int) ∧ True) (cnd (decide (p.top > (1000000 : Int))) (∃ (o : Unit), p.check = (24 : Int) ∧ True) (cnd (decide (p.least < (1 : Int))) (∃ (o : Unit), p.check = (24 : Int) ∧ True) (cnd (decide (p.least > (1000 : Int))) (∃ (o : Unit), p.check = (24 : Int) ∧ True) (cnd (decide (p.part < (0 : Int))) (∃ (o : Unit), p.check = (24 : Int) ∧ True) (cnd (decide (p.part > (100 : Int))) (∃ (o : Unit), p.check = (24 : Int) ∧ True) (∃ (o : Unit), p.check = (0 : Int) ∧ True)))))))))))))))))))
theorem eqcheck (p : Prd) : Vcheck p = walk Tryz.prog ([(78, symC), (86, monthsC), (87, ticksC), (88, minC), (89, maxC)]) 0 ([]) ([]) [] Tryz.f77 (Tryz.f77.body.getD .skip) (checkC.pat p) (checkC.pre p) (checkC.alts p) := by kernel_rfl

theorem bycheck (hG : GOk Tryz.prog ([(78, symC), (86, monthsC), (87, ticksC), (88, minC), (89, maxC)])) (h : ∀ (p : Prd), checkC.cnd p → Vcheck p) : checkC.ok Tryz.prog 77 := ok_of_walk mixed ([(78, symC), (86, monthsC), (87, ticksC), (88, minC), (89, maxC)]) hG 0 (fun (p : Prd) => []) (fun (p : Prd) => []) [] Tryz.func77 (by kernel_rfl) (by kernel_rfl) (by kernel_rfl) (fun _ => by kernel_rfl) (fun (p : Prd) hc => Eq.mp (eqcheck p) (h p hc))

def Vpcount (p : Prd) : Prop :=
  ∃ (i : Prd), sb i.code = sb p.code ∧ iE i.months = iE p.months ∧ i.tick = p.tick ∧ i.low = p.low ∧ i.high = p.high ∧ i.wide = p.wide ∧ i.rule = p.rule ∧ i.top = p.top ∧ i.least = p.least ∧ i.part = p.part ∧ iE i.settle = iE p.settle ∧ (i.code.length ≤ (140737488355328 : Nat) ∧ i.months.length ≤ (140737488355328 : Nat) ∧ i.settle.length ≤ (140737488355328 : Nat)) ∧ ∀ (o : Unit), True → cnd (i.check != (0 : Int)) (∃ (o : Unit), (↑p.count : Int) = (0 : Int) ∧ True) (IntKind.i64 = IntKind.i64 ∧ (2 : Int) ≠ (0 : Int) ∧ ∃ (o : Unit), (↑p.count : Int) = IntKind.i64.wrap ((↑(iE p.months).length : Int) + IntKind.i64.wrap ((IntKind.i64.wrap ((↑(iE p.months).length : Int) * IntKind.i64.wrap ((↑(iE p.months).length : Int) - (1 : Int)))).tdiv (2 : Int))) ∧ True)
theorem eqpcount (p : Prd) : Vpcount p = walk Tryz.prog ([(77, checkC)]) 0 ([]) ([]) [] Tryz.f61 (Tryz.f61.body.getD .skip) (pcountC.pat p) (pcountC.pre p) (pcountC.alts p) := by kernel_rfl

theorem bypcount (hG : GOk Tryz.prog ([(77, checkC)])) (h : ∀ (p : Prd), pcountC.cnd p → Vpcount p) : pcountC.ok Tryz.prog 61 := ok_of_walk mixed ([(77, checkC)]) hG 0 (fun (p : Prd) => []) (fun (p : Prd) => []) [] Tryz.func61 (by kernel_rfl) (by kernel_rfl) (by kernel_rfl) (fun _ => by kernel_rfl) (fun (p : Prd) hc => Eq.mp (eqpcount p) (h p hc))

@[reducible] def Vlegsr0 (i : LegI) : AObj := Sx.AObj.cells [V.d (D.v (Value.string (sb i.p.code))), V.own (0 : Nat), V.d (D.v (.int .i64 i.p.tick)), V.d (D.v (.int .i64 i.p.low)), V.d (D.v (.int .i64 i.p.high)), V.d (D.v (.int .i64 i.p.wide)), V.d (D.v (.int .i64 i.p.rule)), V.d (D.v (.int .i64 i.p.top)), V.d (D.v (.int .i64 i.p.least)), V.d (D.v (.int .i64 i.p.part)), V.own ((0 : Nat) + (1 : Nat))] (25 : Nat)
def Vlegs (i : LegI) : Prop :=
  ∃ (i_1 : Prd), sb i_1.code = sb i.p.code ∧ iE i_1.months = iE i.p.months ∧ i_1.tick = i.p.tick ∧ i_1.low = i.p.low ∧ i_1.high = i.p.high ∧ i_1.wide = i.p.wide ∧ i_1.rule = i.p.rule ∧ i_1.top = i.p.top ∧ i_1.least = i.p.least ∧ i_1.part = i.p.part ∧ iE i_1.settle = iE i.p.settle ∧ (i_1.code.length ≤ (140737488355328 : Nat) ∧ i_1.months.length ≤ (140737488355328 : Nat) ∧ i_1.settle.length ≤ (140737488355328 : Nat)) ∧ ∀ (o : Unit), True → cnd (decide (i.n < (0 : Int))) (∃ (o : Unit), (i.p.legs i.n).fst = (0 : Int) ∧ (i.p.legs i.n).snd.fst = (0 : Int) ∧ (i.p.legs i.n).snd.snd = false ∧ True) (cnd (decide (i.n ≥ (↑i_1.count : Int))) (∃ (o : Unit), (i.p.legs i.n).fst = (0 : Int) ∧ (i.p.legs i.n).snd.fst = (0 : Int) ∧ (i.p.legs i.n).snd.snd = false ∧ True) (cnd (decide (i.n < (↑(iE i.p.months).length : Int))) (∃ (o : Unit), (i.p.legs i.n).fst = i.n ∧ (i.p.legs i.n).snd.fst = i.n ∧ (i.p.legs i.n).snd.snd = false ∧ True) (∃ (i0 : Nat), (↑(firstOf i.p.months.length i0) : Int) = (↑(iE i.p.months).length : Int) ∧ (↑i0 : Int) = (0 : Int) ∧ ∃ (I : Nat → Prop), ∃ (μ : Nat → Nat), I i0 ∧ ∀ (i_2 : Nat), I i_2 → cnd (decide ((↑i_2 : Int) < (↑(iE i.p.months).length : Int))) (cnd (decide (i.n < IntKind.i64.wrap ((↑(firstOf i.p.months.length i_2) : Int) + IntKind.i64.wrap (IntKind.i64.wrap ((↑(iE i.p.months).length : Int) - (1 : Int)) - (↑i_2 : Int))))) (∃ (o : Unit), (i.p.legs i.n).fst = (↑i_2 : Int) ∧ (i.p.legs i.n).snd.fst = IntKind.i64.wrap (IntKind.i64.wrap (IntKind.i64.wrap ((↑i_2 : Int) + (1 : Int)) + i.n) - (↑(firstOf i.p.months.length i_2) : Int)) ∧ (i.p.legs i.n).snd.snd = true ∧ True) (∃ (i' : Nat), (↑(firstOf i.p.months.length i') : Int) = IntKind.i64.wrap ((↑(firstOf i.p.months.length i_2) : Int) + IntKind.i64.wrap (IntKind.i64.wrap ((↑(iE i.p.months).length : Int) - (1 : Int)) - (↑i_2 : Int))) ∧ (↑i' : Int) = IntKind.i64.wrap ((↑i_2 : Int) + (1 : Int)) ∧ I i' ∧ μ i' < μ i_2 ∧ Vlegsr0 i = Vlegsr0 i ∧ AObj.fro (1 : Nat) (iE i.p.settle) = AObj.fro (1 : Nat) (iE i.p.settle) ∧ AObj.fro (1 : Nat) (iE i.p.months) = AObj.fro (1 : Nat) (iE i.p.months))) (∃ (o : Unit), (i.p.legs i.n).fst = (0 : Int) ∧ (i.p.legs i.n).snd.fst = (0 : Int) ∧ (i.p.legs i.n).snd.snd = false ∧ True))))
theorem eqlegs (i : LegI) : Vlegs i = walk Tryz.prog ([(61, pcountC)]) 0 ([]) (legsA i) [] Tryz.f62 (Tryz.f62.body.getD .skip) (legsC.pat i) (legsC.pre i) (legsC.alts i) := by kernel_rfl

theorem bylegs (hG : GOk Tryz.prog ([(61, pcountC)])) (h : ∀ (i : LegI), legsC.cnd i → Vlegs i) : legsC.ok Tryz.prog 62 := ok_of_walk mixed ([(61, pcountC)]) hG 0 (fun (i : LegI) => []) (fun (i : LegI) => legsA i) [] Tryz.func62 (by kernel_rfl) (by kernel_rfl) (by kernel_rfl) (fun _ => by kernel_rfl) (fun (i : LegI) hc => Eq.mp (eqlegs i) (h i hc))

end Sx

namespace Sx
set_option linter.unusedVariables false
set_option linter.unusedSimpArgs false
set_option maxRecDepth 100000
open Go Cv Go.Proofs



theorem voff (i : OffI) (h : offC.cnd i) : Voff i := by
  have h : 1 ≤ i.p.tick := h
  unfold Voff; (repeat' (first | exact rfl | exact trivial | assumption | apply And.intro | (refine fun (_ : Unit) (_ : True) => ?_) | (refine Exists.intro () ?_) | omega | (dsimp only; omega)))
theorem off_ok : offC.ok Tryz.prog 98 := byoff gok0 voff

theorem find_none {α : Type} {f : α → Bool} {l : List α} (h : ∀ (k : Nat) (x : α), l[k]? = some x → f x = false) : l.findIdx? f = none := by
  rw [List.findIdx?_eq_none_iff]
  intro x hx
  obtain ⟨k, hk⟩ := List.getElem?_of_mem hx
  exact h k x hk
theorem find_some {α : Type} {f : α → Bool} {l : List α} {j : Nat} {x : α} (h1 : l[j]? = some x) (h2 : f x = true) (h : ∀ k < j, ∀ x : α, l[k]? = some x → f x = false) : l.findIdx? f = some j := by
  rw [List.findIdx?_eq_some_iff_getElem]
  obtain ⟨hj, rfl⟩ := List.getElem?_eq_some_iff.1 h1
  exact ⟨hj, h2, fun k hk => by rw [h k hk _ (List.getElem?_eq_getElem (by omega))]; simp⟩
theorem vidx (i : OffL) (h : idxC.cnd i) : Vidx i := by
  obtain ⟨h1, h2⟩ : 1 ≤ i.p.tick ∧ i.l.length ≤ 140737488355328 := h
  unfold Vidx
  simp only [iE_len]
  refine ⟨0, rfl, fun j => j ≤ i.l.length ∧ ∀ k < j, ∀ x, i.l[k]? = some x → offB i.p.tick x = false, fun j => i.l.length - j, ⟨by omega, fun k hk => by omega⟩, ?_⟩
  rintro j ⟨h3, h4⟩
  refine cndD (fun hj => ?_) (fun hj => ?_)
  · obtain ⟨n, hn⟩ := getI (l := i.l) (i := j) (by omega)
    refine ⟨⟨by omega, by omega⟩, n, elI hn, ⟨i.p, n⟩, ?_⟩
    (repeat' (first | exact rfl | exact trivial | assumption | apply And.intro | (refine fun (_ : Unit) (_ : True) => ?_) | (refine Exists.intro () ?_) | omega | (dsimp only; omega)))
    refine Cv.cnd.mk (fun e => ?_) (fun e => ?_)
    · rw [find_some hn e h4]; (repeat' (first | exact rfl | exact trivial | assumption | apply And.intro | (refine fun (_ : Unit) (_ : True) => ?_) | (refine Exists.intro () ?_) | omega | (dsimp only; omega)))
    · refine ⟨j + 1, by rw [w64 (by omega)]; rfl, ⟨by omega, fun k hk x hx => ?_⟩, by (first | omega | (dsimp only; omega)), rfl⟩
      rcases Nat.lt_or_ge k j with hk' | hk'
      · exact h4 k hk' x hx
      · obtain rfl : k = j := by omega
        rw [hn] at hx; cases hx; exact e
  · rw [find_none fun k x hx => h4 k (by have := (List.getElem?_eq_some_iff.1 hx).1; omega) x hx]; (repeat' (first | exact rfl | exact trivial | assumption | apply And.intro | (refine fun (_ : Unit) (_ : True) => ?_) | (refine Exists.intro () ?_) | omega | (dsimp only; omega)))
theorem idx_ok : idxC.ok Tryz.prog 102 := byidx (gokc off_ok gok0) vidx
theorem idxOr_any {l : List Int} {f : Int → Bool} : l.any f = decide (idxOr (l.findIdx? f) ≥ 0) := by
  cases hf : l.findIdx? f with
  | none =>
    rw [List.findIdx?_eq_none_iff] at hf
    have : l.any f = false := by rw [List.any_eq_false]; intro x hx; simp [hf x hx]
    rw [this]; rfl
  | some k =>
    rw [List.findIdx?_eq_some_iff_getElem] at hf
    obtain ⟨hk, h1, _⟩ := hf
    have : l.any f = true := by rw [List.any_eq_true]; exact ⟨_, List.getElem_mem hk, h1⟩
    rw [this, idxOr, decide_eq_true (by omega)]
theorem vcontains (i : OffL) (h : containsC.cnd i) : Vcontains i := by
  have h' : 1 ≤ i.p.tick ∧ i.l.length ≤ 140737488355328 := h
  refine ⟨i, ?_⟩
  (repeat' (first | exact rfl | exact trivial | assumption | apply And.intro | (refine fun (_ : Unit) (_ : True) => ?_) | (refine Exists.intro () ?_) | omega | (dsimp only; omega)))
  exact idxOr_any
theorem contains_ok : containsC.ok Tryz.prog 99 := bycontains (gokc idx_ok gok0) vcontains

theorem vticks (p : Prd) (h : ticksC.cnd p) : Vticks p := by
  obtain ⟨h1, h2, h3⟩ : p.small := h
  unfold Vticks
  refine cndD (fun c1 => ⟨(), by rw [ticksOk, decide_eq_false (by omega)]; rfl, trivial⟩) (fun c1 => cndD (fun c2 => ⟨(), by rw [ticksOk, decide_eq_false (show ¬ p.tick ≤ 1000 by omega)]; simp, trivial⟩) (fun c2 => ⟨⟨p, p.low⟩, ?_⟩))
  have e1 : ticksOk p = (!offB p.tick p.low && !offB p.tick p.high && !offB p.tick p.wide && !p.settle.any (offB p.tick)) := by
    rw [ticksOk, decide_eq_true (by omega), decide_eq_true (by omega)]; rfl
  rw [e1]
  (repeat' (first | exact rfl | exact trivial | assumption | apply And.intro | (refine fun (_ : Unit) (_ : True) => ?_) | (refine Exists.intro () ?_) | omega | (dsimp only; omega)))
  refine Cv.cnd.mk (fun c3 => ⟨⟨p, p.high⟩, ?_⟩) (fun c3 => ⟨(), ?_, trivial⟩)
  · dsimp only at c3
    (repeat' (first | exact rfl | exact trivial | assumption | apply And.intro | (refine fun (_ : Unit) (_ : True) => ?_) | (refine Exists.intro () ?_) | omega | (dsimp only; omega)))
    refine Cv.cnd.mk (fun c4 => ⟨⟨p, p.wide⟩, ?_⟩) (fun c4 => ⟨(), ?_, trivial⟩)
    · dsimp only at c4
      (repeat' (first | exact rfl | exact trivial | assumption | apply And.intro | (refine fun (_ : Unit) (_ : True) => ?_) | (refine Exists.intro () ?_) | omega | (dsimp only; omega)))
      refine Cv.cnd.mk (fun c5 => ⟨⟨p, p.settle⟩, ?_⟩) (fun c5 => ⟨(), ?_, trivial⟩)
      · dsimp only at c5
        (repeat' (first | exact rfl | exact trivial | assumption | apply And.intro | (refine fun (_ : Unit) (_ : True) => ?_) | (refine Exists.intro () ?_) | omega | (dsimp only; omega)))
        rw [c3, c4, c5]; simp
      · dsimp only at c5
        rw [c5]; simp
    · dsimp only at c4
      rw [c4]; simp
  · dsimp only at c3
    rw [c3]; simp
theorem ticks_ok : ticksC.ok Tryz.prog 87 := byticks (gokc off_ok (gokc contains_ok gok0)) vticks

theorem vcheck (p : Prd) (h : checkC.cnd p) : Vcheck p := by
  obtain ⟨h1, h2, h3⟩ : p.small := h
  unfold Vcheck
  simp only [iE_len]
  refine ⟨p.code, rfl, h1, fun _ _ => Cv.cnd.mk (fun c1 => ⟨(), by rw [Prd.check, if_pos c1], trivial⟩) (fun c1 => ⟨p.months, rfl, h2, fun _ _ => Cv.cnd.mk (fun c2 => ⟨(), by rw [Prd.check, if_neg (by simp [c1]), if_pos c2], trivial⟩) (fun c2 => ⟨p, ?_⟩)⟩)⟩
  (repeat' (first | exact rfl | exact trivial | assumption | apply And.intro | (refine fun (_ : Unit) (_ : True) => ?_) | (refine Exists.intro () ?_) | omega | (dsimp only; omega)))
  refine Cv.cnd.mk (fun c3 => ⟨(), by rw [Prd.check, if_neg (by simp [c1]), if_neg (by simp [c2]), if_pos c3], trivial⟩) (fun c3 => ?_)
  have e0 : p.check = if bandBad p then 23 else if settleBad p then 1 else if ruleBad p then 31 else if qtyBad p then 24 else 0 := by
    rw [Prd.check, if_neg (by simp [c1]), if_neg (by simp [c2]), if_neg (by simp [c3])]
  have b (hb : bandBad p = true) : ∃ (o : Unit), p.check = 23 ∧ True := ⟨(), by rw [e0, if_pos hb], trivial⟩
  refine cndD (fun d1 => b (by simp [bandBad, d1])) fun d1 => cndD (fun d2 => b (by simp [bandBad]; omega)) fun d2 => cndD (fun d3 => b (by simp [bandBad]; omega)) fun d3 => cndD (fun d4 => b (by simp [bandBad]; omega)) fun d4 => ?_
  rw [w64 (by omega)]
  refine cndD (fun d5 => b (by simp [bandBad]; omega)) fun d5 => ?_
  have e1 : p.check = if settleBad p then 1 else if ruleBad p then 31 else if qtyBad p then 24 else 0 := by
    rw [e0, if_neg (by simp [bandBad]; omega)]
  have s (hb : settleBad p = true) : ∃ (o : Unit), p.check = 1 ∧ True := ⟨(), by rw [e1, if_pos hb], trivial⟩
  have hm : 2 ≤ p.months.length := by
    have c2 : monthsOk p.months = true := by simpa using c2
    simp [monthsOk] at c2; omega
  refine Cv.cnd.mk (fun d6 => s (by have d6 : ¬ (p.settle.length : Int) = p.months.length := (by simpa using d6); simp [settleBad]; omega)) fun d6 => ?_
  have d6 : p.settle.length = p.months.length := by
    have : (p.settle.length : Int) = p.months.length := by simpa using d6
    omega
  refine ⟨p.settle, rfl, ⟨by omega, by omega⟩, fun _ _ => ⟨by (repeat' (first | exact rfl | exact trivial | assumption | apply And.intro | (refine fun (_ : Unit) (_ : True) => ?_) | (refine Exists.intro () ?_) | omega | (dsimp only; omega))), cndD (fun d7 => s (by simp [settleBad]; left; right; omega)) fun d7 => ⟨p.settle, rfl, ⟨by omega, by omega⟩, fun _ _ => ⟨by (repeat' (first | exact rfl | exact trivial | assumption | apply And.intro | (refine fun (_ : Unit) (_ : True) => ?_) | (refine Exists.intro () ?_) | omega | (dsimp only; omega))), cndD (fun d8 => s (by simp [settleBad]; right; omega)) fun d8 => ?_⟩⟩⟩⟩
  have e2 : p.check = if ruleBad p then 31 else if qtyBad p then 24 else 0 := by
    rw [e1, if_neg (by simp [settleBad]; omega)]
  have r (hb : ruleBad p = true) : ∃ (o : Unit), p.check = 31 ∧ True := ⟨(), by rw [e2, if_pos hb], trivial⟩
  refine cndD (fun d9 => r (by simp [ruleBad]; omega)) fun d9 => cndD (fun d10 => r (by simp [ruleBad]; omega)) fun d10 => ?_
  have e3 : p.check = if qtyBad p then 24 else 0 := by
    rw [e2, if_neg (by simp [ruleBad]; omega)]
  have q (hb : qtyBad p = true) : ∃ (o : Unit), p.check = 24 ∧ True := ⟨(), by rw [e3, if_pos hb], trivial⟩
  refine cndD (fun f1 => q (by simp [qtyBad]; omega)) fun f1 => cndD (fun f2 => q (by simp [qtyBad]; omega)) fun f2 => cndD (fun f3 => q (by simp [qtyBad]; omega)) fun f3 => cndD (fun f4 => q (by simp [qtyBad]; omega)) fun f4 => cndD (fun f5 => q (by simp [qtyBad]; omega)) fun f5 => cndD (fun f6 => q (by simp [qtyBad]; omega)) fun f6 => ?_
  exact ⟨(), by rw [e3, if_neg (by simp [qtyBad]; omega)], trivial⟩
theorem check_ok : checkC.ok Tryz.prog 77 := bycheck (gokc sym_ok (gokc months_ok (gokc ticks_ok (gokc min_ok (gokc max_ok gok0))))) vcheck

/-- What holds of a product that may be. -/
structure Prd.Ok (p : Prd) : Prop where
  sym : symOk p.code = true
  months : monthsOk p.months = true
  ticks : ticksOk p = true
  m2 : 2 ≤ p.months.length
  m6 : p.months.length ≤ 6
  t1 : 1 ≤ p.tick
  t2 : p.tick ≤ 1000
  b1 : -1000000 ≤ p.low
  b2 : p.low < p.high
  b3 : p.high ≤ 1000000
  b4 : 0 ≤ p.wide
  b5 : p.wide ≤ p.high - p.low
  s1 : p.settle.length = p.months.length
  s2 : p.low ≤ minL p.settle
  s3 : maxL p.settle ≤ p.high
  r1 : 1 ≤ p.rule
  r2 : p.rule ≤ 3
  q1 : 0 ≤ p.top
  q2 : p.top ≤ 1000000
  q3 : 1 ≤ p.least
  q4 : p.least ≤ 1000
  q5 : 0 ≤ p.part
  q6 : p.part ≤ 100
theorem check0 {p : Prd} (h : p.check = 0) : p.Ok := by
  unfold Prd.check at h
  split at h <;> first | (exfalso; revert h; decide) | skip
  rename_i c1
  split at h <;> first | (exfalso; revert h; decide) | skip
  rename_i c2
  split at h <;> first | (exfalso; revert h; decide) | skip
  rename_i c3
  split at h <;> first | (exfalso; revert h; decide) | skip
  rename_i c4
  split at h <;> first | (exfalso; revert h; decide) | skip
  rename_i c5
  split at h <;> first | (exfalso; revert h; decide) | skip
  rename_i c6
  split at h <;> first | (exfalso; revert h; decide) | skip
  rename_i c7
  simp only [Bool.not_eq_true', Bool.not_eq_false, Bool.not_eq_true] at c1 c2 c3
  have m := c2
  have t := c3
  simp [monthsOk] at m
  simp [ticksOk] at t
  simp [bandBad] at c4
  simp [settleBad] at c5
  simp [ruleBad] at c6
  simp [qtyBad] at c7
  exact ⟨c1, c2, c3, by omega, by omega, by omega, by omega, by omega, by omega, by omega, by omega, by omega, by omega, by omega, by omega, by omega, by omega, by omega, by omega, by omega, by omega, by omega, by omega⟩

theorem count_bd {n : Nat} (h : n ≤ 6) : n + n * (n - 1) / 2 ≤ 21 := by
  have : ∀ n ≤ 6, n + n * (n - 1) / 2 ≤ 21 := by decide
  exact this n h
theorem vpcount (p : Prd) (h : pcountC.cnd p) : Vpcount p := by
  obtain ⟨h1, h2, h3⟩ : p.small := h
  refine ⟨p, ?_⟩
  simp only [iE_len]
  (repeat' (first | exact rfl | exact trivial | assumption | apply And.intro | (refine fun (_ : Unit) (_ : True) => ?_) | (refine Exists.intro () ?_) | omega | (dsimp only; omega)))
  refine Cv.cnd.mk (fun c => ⟨(), by rw [Prd.count, if_neg (by simpa using c)]; rfl, trivial⟩) (fun c => ?_)
  have c : p.check = 0 := by simpa using c
  have ok := check0 c
  refine ⟨by (repeat' (first | exact rfl | exact trivial | assumption | apply And.intro | (refine fun (_ : Unit) (_ : True) => ?_) | (refine Exists.intro () ?_) | omega | (dsimp only; omega))), by decide, (), ?_, trivial⟩
  rw [Prd.count, if_pos c]
  obtain ⟨n, hn⟩ : ∃ n, p.months.length = n := ⟨_, rfl⟩
  have m2 := ok.m2
  have m6 := ok.m6
  rw [hn] at m2 m6 ⊢
  have : n = 2 ∨ n = 3 ∨ n = 4 ∨ n = 5 ∨ n = 6 := by omega
  rcases this with rfl | rfl | rfl | rfl | rfl <;> rfl
theorem pcount_ok : pcountC.ok Tryz.prog 61 := bypcount (gokc check_ok gok0) vpcount
theorem count_ne {p : Prd} (h : p.count ≠ 0) : p.check = 0 := by
  unfold Prd.count at h
  split at h
  · assumption
  · exact absurd rfl h
theorem count_le (p : Prd) : p.count ≤ 21 := by
  unfold Prd.count
  split
  · rename_i h; exact count_bd (check0 h).m6
  · omega

theorem first_bd {n m : Nat} (h : n ≤ 6) (hm : m ≤ n) : firstOf n m ≤ 21 := by
  have : ∀ n ≤ 6, ∀ m ≤ n, firstOf n m ≤ 21 := by decide
  exact this n h m hm
theorem vlegs (i : LegI) (h : legsC.cnd i) : Vlegs i := by
  obtain ⟨h1, h2, h3⟩ : i.p.small := h
  refine ⟨i.p, ?_⟩
  simp only [iE_len]
  (repeat' (first | exact rfl | exact trivial | assumption | apply And.intro | (refine fun (_ : Unit) (_ : True) => ?_) | (refine Exists.intro () ?_) | omega | (dsimp only; omega)))
  refine cndD (fun c1 => ?_) (fun c1 => cndD (fun c2 => ?_) (fun c2 => ?_))
  · rw [Prd.legs, if_pos (by omega)]; (repeat' (first | exact rfl | exact trivial | assumption | apply And.intro | (refine fun (_ : Unit) (_ : True) => ?_) | (refine Exists.intro () ?_) | omega | (dsimp only; omega)))
  · rw [Prd.legs, if_pos (by omega)]; (repeat' (first | exact rfl | exact trivial | assumption | apply And.intro | (refine fun (_ : Unit) (_ : True) => ?_) | (refine Exists.intro () ?_) | omega | (dsimp only; omega)))
  have c2 : ¬ i.n ≥ (i.p.count : Int) := c2
  have hc := count_le i.p
  have ok := check0 (count_ne (p := i.p) (by omega))
  have m6 := ok.m6
  refine cndD (fun c3 => ?_) (fun c3 => ?_)
  · rw [Prd.legs, if_neg (by omega), if_pos c3]; (repeat' (first | exact rfl | exact trivial | assumption | apply And.intro | (refine fun (_ : Unit) (_ : True) => ?_) | (refine Exists.intro () ?_) | omega | (dsimp only; omega)))
  have e0 : i.p.legs i.n = legsFrom i.p.months.length i.n.toNat i.p.months.length 0 := by
    rw [Prd.legs, if_neg (by omega), if_neg c3]
  rw [e0]
  generalize hn : i.p.months.length = n at c3 m6 ⊢
  obtain ⟨k, hk⟩ : ∃ k : Nat, i.n = k := ⟨i.n.toNat, by omega⟩
  rw [hk] at c2 c3 ⊢
  refine ⟨0, rfl, rfl, fun m => m ≤ n ∧ firstOf n m ≤ k ∧ legsFrom n k n 0 = legsFrom n k (n - m) m, fun m => n - m, ⟨by omega, by show n ≤ k; omega, rfl⟩, ?_⟩
  rintro m ⟨g1, g2, g3⟩
  have hf := first_bd m6 g1
  refine cndD (fun c4 => ?_) (fun c4 => ?_)
  · obtain ⟨r, hr⟩ : ∃ r, n - m = r + 1 := ⟨n - m - 1, by omega⟩
    have e1 : (k : Int).toNat = k := by omega
    rw [e1, g3, hr, w64 (x := (n : Int) - 1) (by omega), w64 (x := (n : Int) - 1 - m) (by omega), w64 (x := (firstOf n m : Int) + ((n : Int) - 1 - m)) (by omega), w64 (x := (m : Int) + 1) (by omega)]
    rw [hr] at g3
    refine cndD (fun c5 => ?_) (fun c5 => ?_)
    · rw [w64 (x := (m : Int) + 1 + k) (by omega), w64 (x := (m : Int) + 1 + k - (firstOf n m : Int)) (by omega), legsFrom, if_pos (by omega)]
      refine ⟨(), rfl, ?_, rfl, trivial⟩
      dsimp only; omega
    · refine ⟨m + 1, ?_, rfl, ⟨by omega, ?_, ?_⟩, by (first | omega | (dsimp only; omega)), by (repeat' (first | exact rfl | exact trivial | assumption | apply And.intro | (refine fun (_ : Unit) (_ : True) => ?_) | (refine Exists.intro () ?_) | omega | (dsimp only; omega)))⟩
      · rw [firstOf]; omega
      · rw [firstOf]; omega
      · rw [legsFrom, if_neg (by omega), show n - (m + 1) = r by omega]
  · have e1 : (k : Int).toNat = k := by omega
    rw [e1, g3, show n - m = 0 by omega]
    exact ⟨(), rfl, rfl, rfl, trivial⟩
theorem legs_ok : legsC.ok Tryz.prog 62 := bylegs (gokc pcount_ok gok0) vlegs

end Sx

namespace Sx
set_option linter.unusedVariables false
set_option maxRecDepth 100000
open Go Cv Go.Proofs

/-! ### Runes and bytes -/
/-- The bytes of a rune below 2048. -/
def encR (r : Nat) : List UInt8 := if r < 128 then [UInt8.ofNat r] else [UInt8.ofNat (192 + r / 64), UInt8.ofNat (128 + r % 64)]
def upR (r : Nat) : Bool := (decide (97 ≤ r) && decide (r ≤ 122)) || (decide (945 ≤ r) && decide (r ≤ 969) && decide (r ≠ 962))
/-- The bytes of the rune at a place. -/
def rawAt (s : List UInt8) (p : Nat) : List UInt8 := (s.drop p).take (dec1 (s.drop p)).2
def fold1 (s : List UInt8) (x : Nat × Nat) : List UInt8 := if upR x.2 then encR (x.2 - 32) else rawAt s x.1
def foldT (s : List UInt8) (l : List (Nat × Nat)) : List UInt8 := (l.map (fold1 s)).flatten
def foldF (s : List UInt8) : List UInt8 := foldT s (runesP s 0)

structure DecI where
  s : List UInt8
structure RawI where
  s : List UInt8
  p : Nat
structure BldI where
  l : List UInt8
  r : Nat

/-! ### Labels -/
def labR (r : Nat) : Bool := decide (32 ≤ r) && decide (r ≠ 127) && decide (r ≠ 65533)
def labOk (s : List UInt8) : Bool := (runes s).all labR && decide (1 ≤ (runes s).length) && decide ((runes s).length ≤ 12)
def labC : Con := con1 (List UInt8) (fun s => [sV s]) (fun _ => []) (fun s => s.length ≤ 140737488355328) (fun s => boolV (labOk s)) (fun _ => [])

def labA (s : List UInt8) : List SAnn := [{ ι := Nat × Nat, slots := fun x => [(3, i64V x.2), (7, .nm 0 0)], rows := fun x => [.iter (sb s) x.1] }]
def foldC : Con := con1 (List UInt8) (fun s => [sV s]) (fun _ => []) (fun s => s.length ≤ 1099511627776) (fun s => sV (foldF s)) (fun _ => [])

/-! ### Names -/
def letters : List UInt8 := [70, 71, 72, 74, 75, 77, 78, 81, 85, 86, 88, 90]
def codeF (c : List UInt8) (m : Int) : List UInt8 × Int :=
  if symOk c = false then ([], 12) else if m < 0 ∨ 1199 < m then ([], 1) else (c ++ [letters.getD (m % 12).toNat 0] ++ [UInt8.ofNat (48 + (m / 12).toNat / 10), UInt8.ofNat (48 + (m / 12).toNat % 10)], 0)
structure CodI where
  c : List UInt8
  m : Int
def codeC : Con := con1 CodI (fun i => [sV i.c, i64V i.m]) (fun _ => []) (fun i => i.c.length ≤ 140737488355328) (fun i => .tup [sV (codeF i.c i.m).1, i64V (codeF i.c i.m).2]) (fun _ => [])
def sprF (c : List UInt8) (a b : Int) : List UInt8 × Int :=
  if (codeF c a).2 ≠ 0 then ([], (codeF c a).2) else if (codeF c b).2 ≠ 0 then ([], (codeF c b).2) else if b ≤ a then ([], 1) else ((codeF c a).1 ++ [45] ++ (codeF c b).1, 0)
structure SpdI where
  c : List UInt8
  a : Int
  b : Int
def sprC : Con := con1 SpdI (fun i => [sV i.c, i64V i.a, i64V i.b]) (fun _ => []) (fun i => i.c.length ≤ 140737488355328) (fun i => .tup [sV (sprF i.c i.a i.b).1, i64V (sprF i.c i.a i.b).2]) (fun _ => [])
def Prd.month (p : Prd) (n : Int) : Int := p.months.getD n.toNat 0
def Prd.name (p : Prd) (i : Int) : List UInt8 :=
  if i < 0 ∨ (p.count : Int) ≤ i then [] else if (p.legs i).2.2 = true then (sprF p.code (p.month (p.legs i).1) (p.month (p.legs i).2.1)).1 else (codeF p.code (p.month (p.legs i).1)).1
def nameC : Con := con1 LegI (fun i => [prdV i.p, i64V i.n]) (fun _ => []) (fun i => i.p.small) (fun i => sV (i.p.name i.n)) (fun _ => [])
structure FndI where
  p : Prd
  s : List UInt8
def Prd.find (p : Prd) (s : List UInt8) : Int × Bool :=
  match (List.range p.count).find? (fun (n : Nat) => decide (p.name (n : Int) = s)) with
  | some n => (n, true)
  | none => (0, false)
def findC : Con := con1 FndI (fun i => [prdV i.p, sV i.s]) (fun _ => []) (fun i => i.p.small) (fun i => .tup [i64V (i.p.find i.s).1, boolV (i.p.find i.s).2]) (fun _ => [])
def findA (i : FndI) : List SAnn := [{ ι := Nat, slots := fun m => [(9, i64V m)], rows := fun _ => [] }]

end Sx

namespace Sx
set_option linter.unusedVariables false
set_option maxRecDepth 100000
open Go Cv Go.Proofs
def Vlab (s : List UInt8) : Prop :=
  ∃ (i0 : Nat × Nat), (↑i0.snd : Int) = (0 : Int) ∧ sb s = sb s ∧ i0.fst = (0 : Nat) ∧ ∃ (I : Nat × Nat → Prop), ∃ (μ : Nat × Nat → Nat), I i0 ∧ ∀ (i : Nat × Nat), I i → cnd (i.fst.blt (sb s).size) (cnd (decide ((↑(Utf8.decode (sb s) i.fst).fst : Int) < (32 : Int))) (∃ (o : Unit), labOk s = false ∧ True) (cnd ((↑(Utf8.decode (sb s) i.fst).fst : Int) == (127 : Int)) (∃ (o : Unit), labOk s = false ∧ True) (cnd ((↑(Utf8.decode (sb s) i.fst).fst : Int) == (65533 : Int)) (∃ (o : Unit), labOk s = false ∧ True) (∃ (i' : Nat × Nat), (↑i'.snd : Int) = IntKind.i64.wrap ((↑i.snd : Int) + (1 : Int)) ∧ sb s = sb s ∧ i'.fst = i.fst + (Utf8.decode (sb s) i.fst).snd ∧ I i' ∧ μ i' < μ i ∧ True)))) (cnd (decide ((↑i.snd : Int) ≥ (1 : Int))) (∃ (o : Unit), labOk s = decide ((↑i.snd : Int) ≤ (12 : Int)) ∧ True) (∃ (o : Unit), labOk s = false ∧ True))
theorem eqlab (s : List UInt8) : Vlab s = walk Tryz.prog ([]) 0 ([]) (labA s) [] Tryz.f60 (Tryz.f60.body.getD .skip) (labC.pat s) (labC.pre s) (labC.alts s) := by kernel_rfl

theorem bylab (hG : GOk Tryz.prog ([])) (h : ∀ (s : List UInt8), labC.cnd s → Vlab s) : labC.ok Tryz.prog 60 := ok_of_walk mixed ([]) hG 0 (fun (s : List UInt8) => []) (fun (s : List UInt8) => labA s) [] Tryz.func60 (by kernel_rfl) (by kernel_rfl) (by kernel_rfl) (fun _ => by kernel_rfl) (fun (s : List UInt8) hc => Eq.mp (eqlab s) (h s hc))

def Vcode (i : CodI) : Prop :=
  ∃ (i_1 : List UInt8), sb i_1 = sb i.c ∧ i_1.length ≤ (140737488355328 : Nat) ∧ ∀ (o : Unit), True → cnd (!symOk i_1) (∃ (o : Unit), sb (codeF i.c i.m).fst = ByteArray.mk #[] ∧ (codeF i.c i.m).snd = (12 : Int) ∧ True) (cnd (decide (i.m < (0 : Int))) (∃ (o : Unit), sb (codeF i.c i.m).fst = ByteArray.mk #[] ∧ (codeF i.c i.m).snd = (1 : Int) ∧ True) (cnd (decide (i.m > (1199 : Int))) (∃ (o : Unit), sb (codeF i.c i.m).fst = ByteArray.mk #[] ∧ (codeF i.c i.m).snd = (1 : Int) ∧ True) (IntKind.i64 = IntKind.i64 ∧ (12 : Int) ≠ (0 : Int) ∧ IntKind.i64 = IntKind.i64 ∧ (12 : Int) ≠ (0 : Int) ∧ IntKind.i64 = IntKind.i64 ∧ (12 : Int) ≠ (0 : Int) ∧ ((0 : Int) ≤ i.m.tmod (12 : Int) ∧ i.m.tmod (12 : Int) ≤ IntKind.i64.wrap (i.m.tmod (12 : Int) + (1 : Int)) ∧ IntKind.i64.wrap (i.m.tmod (12 : Int) + (1 : Int)) ≤ (↑(ByteArray.mk #[(70 : UInt8), (71 : UInt8), (72 : UInt8), (74 : UInt8), (75 : UInt8), (77 : UInt8), (78 : UInt8), (81 : UInt8), (85 : UInt8), (86 : UInt8), (88 : UInt8), (90 : UInt8)]).size : Int)) ∧ (↑((sb i.c).size + ((ByteArray.mk #[(70 : UInt8), (71 : UInt8), (72 : UInt8), (74 : UInt8), (75 : UInt8), (77 : UInt8), (78 : UInt8), (81 : UInt8), (85 : UInt8), (86 : UInt8), (88 : UInt8), (90 : UInt8)]).extract (i.m.tmod (12 : Int)).toNat (IntKind.i64.wrap (i.m.tmod (12 : Int) + (1 : Int))).toNat).size) : Int) ≤ IntKind.i64.max ∧ IntKind.i64 = IntKind.i64 ∧ (10 : Int) ≠ (0 : Int) ∧ IntKind.i64 = IntKind.i64 ∧ (10 : Int) ≠ (0 : Int) ∧ ∃ (b : ByteArray), (1 : Nat) = (1 : Nat) ∧ [[D.v (.int .u8 (IntKind.u8.wrap (IntKind.i64.wrap ((48 : Int) + IntKind.i64.wrap ((IntKind.i64.wrap (i.m.tdiv (12 : Int))).tdiv (10 : Int))))))], [D.v (.int .u8 (IntKind.u8.wrap (IntKind.i64.wrap ((48 : Int) + (IntKind.i64.wrap (i.m.tdiv (12 : Int))).tmod (10 : Int)))))]] = bytesE b ∧ (↑((sb i.c ++ (ByteArray.mk #[(70 : UInt8), (71 : UInt8), (72 : UInt8), (74 : UInt8), (75 : UInt8), (77 : UInt8), (78 : UInt8), (81 : UInt8), (85 : UInt8), (86 : UInt8), (88 : UInt8), (90 : UInt8)]).extract (i.m.tmod (12 : Int)).toNat (IntKind.i64.wrap (i.m.tmod (12 : Int) + (1 : Int))).toNat).size + b.size) : Int) ≤ IntKind.i64.max ∧ ∃ (o : Unit), sb (codeF i.c i.m).fst = sb i.c ++ (ByteArray.mk #[(70 : UInt8), (71 : UInt8), (72 : UInt8), (74 : UInt8), (75 : UInt8), (77 : UInt8), (78 : UInt8), (81 : UInt8), (85 : UInt8), (86 : UInt8), (88 : UInt8), (90 : UInt8)]).extract (i.m.tmod (12 : Int)).toNat (IntKind.i64.wrap (i.m.tmod (12 : Int) + (1 : Int))).toNat ++ b ∧ (codeF i.c i.m).snd = (0 : Int) ∧ True)))
theorem eqcode (i : CodI) : Vcode i = walk Tryz.prog ([(78, symC)]) 0 ([]) ([]) [] Tryz.f63 (Tryz.f63.body.getD .skip) (codeC.pat i) (codeC.pre i) (codeC.alts i) := by kernel_rfl

theorem bycode (hG : GOk Tryz.prog ([(78, symC)])) (h : ∀ (i : CodI), codeC.cnd i → Vcode i) : codeC.ok Tryz.prog 63 := ok_of_walk mixed ([(78, symC)]) hG 0 (fun (i : CodI) => []) (fun (i : CodI) => []) [] Tryz.func63 (by kernel_rfl) (by kernel_rfl) (by kernel_rfl) (fun _ => by kernel_rfl) (fun (i : CodI) hc => Eq.mp (eqcode i) (h i hc))

def Vspr (i : SpdI) : Prop :=
  ∃ (i_1 : CodI), sb i_1.c = sb i.c ∧ i_1.m = i.a ∧ i_1.c.length ≤ (140737488355328 : Nat) ∧ ∀ (o : Unit), True → cnd ((codeF i_1.c i_1.m).snd != (0 : Int)) (∃ (o : Unit), sb (sprF i.c i.a i.b).fst = ByteArray.mk #[] ∧ (sprF i.c i.a i.b).snd = (codeF i_1.c i_1.m).snd ∧ True) (∃ (i_2 : CodI), sb i_2.c = sb i.c ∧ i_2.m = i.b ∧ i_2.c.length ≤ (140737488355328 : Nat) ∧ ∀ (o : Unit), True → cnd ((codeF i_2.c i_2.m).snd != (0 : Int)) (∃ (o : Unit), sb (sprF i.c i.a i.b).fst = ByteArray.mk #[] ∧ (sprF i.c i.a i.b).snd = (codeF i_2.c i_2.m).snd ∧ True) (cnd (decide (i.a ≥ i.b)) (∃ (o : Unit), sb (sprF i.c i.a i.b).fst = ByteArray.mk #[] ∧ (sprF i.c i.a i.b).snd = (1 : Int) ∧ True) ((↑((sb (codeF i_1.c i_1.m).fst).size + (ByteArray.mk #[(45 : UInt8)]).size) : Int) ≤ IntKind.i64.max ∧ (↑((sb (codeF i_1.c i_1.m).fst ++ ByteArray.mk #[(45 : UInt8)]).size + (sb (codeF i_2.c i_2.m).fst).size) : Int) ≤ IntKind.i64.max ∧ ∃ (o : Unit), sb (sprF i.c i.a i.b).fst = sb (codeF i_1.c i_1.m).fst ++ ByteArray.mk #[(45 : UInt8)] ++ sb (codeF i_2.c i_2.m).fst ∧ (sprF i.c i.a i.b).snd = (0 : Int) ∧ True)))
theorem eqspr (i : SpdI) : Vspr i = walk Tryz.prog ([(63, codeC)]) 0 ([]) ([]) [] Tryz.f64 (Tryz.f64.body.getD .skip) (sprC.pat i) (sprC.pre i) (sprC.alts i) := by kernel_rfl

theorem byspr (hG : GOk Tryz.prog ([(63, codeC)])) (h : ∀ (i : SpdI), sprC.cnd i → Vspr i) : sprC.ok Tryz.prog 64 := ok_of_walk mixed ([(63, codeC)]) hG 0 (fun (i : SpdI) => []) (fun (i : SpdI) => []) [] Tryz.func64 (by kernel_rfl) (by kernel_rfl) (by kernel_rfl) (fun _ => by kernel_rfl) (fun (i : SpdI) hc => Eq.mp (eqspr i) (h i hc))

def Vname (i : LegI) : Prop :=
  cnd (decide (i.n < (0 : Int))) (∃ (o : Unit), sb (i.p.name i.n) = ByteArray.mk #[] ∧ True) (∃ (i_1 : Prd), sb i_1.code = sb i.p.code ∧ iE i_1.months = iE i.p.months ∧ i_1.tick = i.p.tick ∧ i_1.low = i.p.low ∧ i_1.high = i.p.high ∧ i_1.wide = i.p.wide ∧ i_1.rule = i.p.rule ∧ i_1.top = i.p.top ∧ i_1.least = i.p.least ∧ i_1.part = i.p.part ∧ iE i_1.settle = iE i.p.settle ∧ (i_1.code.length ≤ (140737488355328 : Nat) ∧ i_1.months.length ≤ (140737488355328 : Nat) ∧ i_1.settle.length ≤ (140737488355328 : Nat)) ∧ ∀ (o : Unit), True → cnd (decide (i.n ≥ (↑i_1.count : Int))) (∃ (o : Unit), sb (i.p.name i.n) = ByteArray.mk #[] ∧ True) (∃ (i_2 : LegI), sb i_2.p.code = sb i.p.code ∧ iE i_2.p.months = iE i.p.months ∧ i_2.p.tick = i.p.tick ∧ i_2.p.low = i.p.low ∧ i_2.p.high = i.p.high ∧ i_2.p.wide = i.p.wide ∧ i_2.p.rule = i.p.rule ∧ i_2.p.top = i.p.top ∧ i_2.p.least = i.p.least ∧ i_2.p.part = i.p.part ∧ iE i_2.p.settle = iE i.p.settle ∧ i_2.n = i.n ∧ (i_2.p.code.length ≤ (140737488355328 : Nat) ∧ i_2.p.months.length ≤ (140737488355328 : Nat) ∧ i_2.p.settle.length ≤ (140737488355328 : Nat)) ∧ ∀ (o : Unit), True → ((0 : Int) ≤ (i_2.p.legs i_2.n).fst ∧ (i_2.p.legs i_2.n).fst < (↑(iE i.p.months).length : Int)) ∧ ∃ (n : Int), elPart (iE i.p.months) (i_2.p.legs i_2.n).fst.toNat (0 : Nat) (1 : Nat) = some [D.v (.int .i64 n)] ∧ ∃ (i_3 : CodI), sb i_3.c = sb i.p.code ∧ i_3.m = n ∧ i_3.c.length ≤ (140737488355328 : Nat) ∧ ∀ (o : Unit), True → cnd (i_2.p.legs i_2.n).snd.snd (((0 : Int) ≤ (i_2.p.legs i_2.n).fst ∧ (i_2.p.legs i_2.n).fst < (↑(iE i.p.months).length : Int)) ∧ ∃ (n : Int), elPart (iE i.p.months) (i_2.p.legs i_2.n).fst.toNat (0 : Nat) (1 : Nat) = some [D.v (.int .i64 n)] ∧ ((0 : Int) ≤ (i_2.p.legs i_2.n).snd.fst ∧ (i_2.p.legs i_2.n).snd.fst < (↑(iE i.p.months).length : Int)) ∧ ∃ (n_1 : Int), elPart (iE i.p.months) (i_2.p.legs i_2.n).snd.fst.toNat (0 : Nat) (1 : Nat) = some [D.v (.int .i64 n_1)] ∧ ∃ (i_4 : SpdI), sb i_4.c = sb i.p.code ∧ i_4.a = n ∧ i_4.b = n_1 ∧ i_4.c.length ≤ (140737488355328 : Nat) ∧ ∀ (o : Unit), True → ∃ (o : Unit), sb (i.p.name i.n) = sb (sprF i_4.c i_4.a i_4.b).fst ∧ True) (∃ (o : Unit), sb (i.p.name i.n) = sb (codeF i_3.c i_3.m).fst ∧ True)))
theorem eqname (i : LegI) : Vname i = walk Tryz.prog ([(61, pcountC), (62, legsC), (63, codeC), (64, sprC)]) 0 ([]) ([]) [] Tryz.f47 (Tryz.f47.body.getD .skip) (nameC.pat i) (nameC.pre i) (nameC.alts i) := by kernel_rfl

theorem byname (hG : GOk Tryz.prog ([(61, pcountC), (62, legsC), (63, codeC), (64, sprC)])) (h : ∀ (i : LegI), nameC.cnd i → Vname i) : nameC.ok Tryz.prog 47 := ok_of_walk mixed ([(61, pcountC), (62, legsC), (63, codeC), (64, sprC)]) hG 0 (fun (i : LegI) => []) (fun (i : LegI) => []) [] Tryz.func47 (by kernel_rfl) (by kernel_rfl) (by kernel_rfl) (fun _ => by kernel_rfl) (fun (i : LegI) hc => Eq.mp (eqname i) (h i hc))

@[reducible] def Vfindr0 (i : FndI) : AObj := Sx.AObj.cells [V.d (D.v (Value.string (sb i.p.code))), V.own (0 : Nat), V.d (D.v (.int .i64 i.p.tick)), V.d (D.v (.int .i64 i.p.low)), V.d (D.v (.int .i64 i.p.high)), V.d (D.v (.int .i64 i.p.wide)), V.d (D.v (.int .i64 i.p.rule)), V.d (D.v (.int .i64 i.p.top)), V.d (D.v (.int .i64 i.p.least)), V.d (D.v (.int .i64 i.p.part)), V.own ((0 : Nat) + (1 : Nat))] (25 : Nat)
def Vfind (i : FndI) : Prop :=
  ∃ (i_1 : Prd), sb i_1.code = sb i.p.code ∧ iE i_1.months = iE i.p.months ∧ i_1.tick = i.p.tick ∧ i_1.low = i.p.low ∧ i_1.high = i.p.high ∧ i_1.wide = i.p.wide ∧ i_1.rule = i.p.rule ∧ i_1.top = i.p.top ∧ i_1.least = i.p.least ∧ i_1.part = i.p.part ∧ iE i_1.settle = iE i.p.settle ∧ (i_1.code.length ≤ (140737488355328 : Nat) ∧ i_1.months.length ≤ (140737488355328 : Nat) ∧ i_1.settle.length ≤ (140737488355328 : Nat)) ∧ ∀ (o : Unit), True → ∃ (i0 : Nat), (↑i0 : Int) = (0 : Int) ∧ ∃ (I : Nat → Prop), ∃ (μ : Nat → Nat), I i0 ∧ ∀ (i_2 : Nat), I i_2 → cnd (decide ((↑i_2 : Int) < (↑i_1.count : Int))) (∃ (i_3 : LegI), sb i_3.p.code = sb i.p.code ∧ iE i_3.p.months = iE i.p.months ∧ i_3.p.tick = i.p.tick ∧ i_3.p.low = i.p.low ∧ i_3.p.high = i.p.high ∧ i_3.p.wide = i.p.wide ∧ i_3.p.rule = i.p.rule ∧ i_3.p.top = i.p.top ∧ i_3.p.least = i.p.least ∧ i_3.p.part = i.p.part ∧ iE i_3.p.settle = iE i.p.settle ∧ i_3.n = (↑i_2 : Int) ∧ (i_3.p.code.length ≤ (140737488355328 : Nat) ∧ i_3.p.months.length ≤ (140737488355328 : Nat) ∧ i_3.p.settle.length ≤ (140737488355328 : Nat)) ∧ ∀ (o : Unit), True → cnd ((sb (i_3.p.name i_3.n)).toList == (sb i.s).toList) (∃ (o : Unit), (i.p.find i.s).fst = (↑i_2 : Int) ∧ (i.p.find i.s).snd = true ∧ True) (∃ (i' : Nat), (↑i' : Int) = IntKind.i64.wrap ((↑i_2 : Int) + (1 : Int)) ∧ I i' ∧ μ i' < μ i_2 ∧ Vfindr0 i = Vfindr0 i ∧ AObj.fro (1 : Nat) (iE i.p.settle) = AObj.fro (1 : Nat) (iE i.p.settle) ∧ AObj.fro (1 : Nat) (iE i.p.months) = AObj.fro (1 : Nat) (iE i.p.months))) (∃ (o : Unit), (i.p.find i.s).fst = (0 : Int) ∧ (i.p.find i.s).snd = false ∧ True)
theorem eqfind (i : FndI) : Vfind i = walk Tryz.prog ([(61, pcountC), (47, nameC)]) 0 ([]) (findA i) [] Tryz.f74 (Tryz.f74.body.getD .skip) (findC.pat i) (findC.pre i) (findC.alts i) := by kernel_rfl

theorem byfind (hG : GOk Tryz.prog ([(61, pcountC), (47, nameC)])) (h : ∀ (i : FndI), findC.cnd i → Vfind i) : findC.ok Tryz.prog 74 := ok_of_walk mixed ([(61, pcountC), (47, nameC)]) hG 0 (fun (i : FndI) => []) (fun (i : FndI) => findA i) [] Tryz.func74 (by kernel_rfl) (by kernel_rfl) (by kernel_rfl) (fun _ => by kernel_rfl) (fun (i : FndI) hc => Eq.mp (eqfind i) (h i hc))

end Sx

namespace Sx
set_option linter.unusedVariables false
set_option linter.unusedSimpArgs false
set_option maxRecDepth 100000
open Go Cv Go.Proofs

theorem sb_app (a b : List UInt8) : sb (a ++ b) = sb a ++ sb b := by
  apply ByteArray.ext
  simp [sb]
theorem sb_inj {a b : List UInt8} (h : sb a = sb b) : a = b := by
  have := congrArg (fun x : ByteArray => x.data.toList) h
  simpa [sb] using this
theorem sb_cut (a : List UInt8) (i j : Nat) : (sb a).extract i j = sb ((a.take j).drop i) := by
  apply ByteArray.ext
  simp only [sb, ByteArray.data_extract, List.extract_toArray]
  rw [List.extract_eq_drop_take', List.drop_take]
theorem sb_nil' : ByteArray.mk #[] = sb [] := rfl
theorem i64max : IntKind.i64.max = 9223372036854775807 := by decide
theorem vlab (s : List UInt8) (h : labC.cnd s) : Vlab s := by
  have h : s.length ≤ 140737488355328 := h
  have hr := runes_len s
  unfold Vlab
  refine ⟨(0, 0), rfl, rfl, rfl, fun x => x.1 ≤ s.length ∧ x.2 + (runesP s x.1).length = (runes s).length ∧ (runes s).all labR = (runesP s x.1).all fun x => labR x.2, fun x => s.length - x.1, ⟨by omega, by rw [runes, List.length_map]; simp, by rw [runes, List.all_map]; rfl⟩, ?_⟩
  rintro ⟨p, n⟩ ⟨h1, h2, h3⟩
  dsimp only at h1 h2 h3 ⊢
  refine Cv.cnd.mk (fun hp => ?_) (fun hp => ?_)
  · have hp : p < s.length := by simpa [Nat.blt_eq] using hp
    have hw := decode_w s hp
    rw [runesP_step hp, List.length_cons] at h2
    rw [runesP_step hp, List.all_cons] at h3
    generalize hc : (Utf8.decode (sb s) p).1 = c at h2 h3 ⊢
    generalize hww : (Utf8.decode (sb s) p).2 = w at h2 h3 hw ⊢
    dsimp only at h3
    have bad : labR c = false → ∃ (o : Unit), labOk s = false ∧ True := fun e => ⟨(), by rw [labOk, h3, e]; rfl, trivial⟩
    refine cndD (fun c1 => bad ?_) (fun c1 => Cv.cnd.mk (fun c2 => bad ?_) (fun c2 => Cv.cnd.mk (fun c3 => bad ?_) (fun c3 => ?_)))
    · simp [labR]; omega
    · have c2 : (c : Int) = 127 := by simpa using c2
      simp [labR]; omega
    · have c3 : (c : Int) = 65533 := by simpa using c3
      simp [labR]; omega
    · have c2 : ¬ (c : Int) = 127 := by simpa using c2
      have c3 : ¬ (c : Int) = 65533 := by simpa using c3
      have e : labR c = true := by simp [labR]; omega
      refine ⟨(p + w, n + 1), ?_, rfl, rfl, ⟨hw.2, by (first | omega | (dsimp only; omega)), by rw [h3, e]; rfl⟩, by (first | omega | (dsimp only; omega)), trivial⟩
      rw [w64 (by omega)]; rfl
  · have hp : s.length ≤ p := by have := blt_f hp; simpa using this
    rw [runesP_end hp] at h2 h3
    have h2 : n = (runes s).length := h2
    have h3 : (runes s).all labR = true := h3
    refine cndD (fun c => ⟨(), ?_, trivial⟩) (fun c => ⟨(), ?_, trivial⟩)
    · rw [labOk, h3, ← h2, decide_eq_true (show 1 ≤ n by omega)]
      simp only [Bool.true_and]
      congr 1
      simp only [eq_iff_iff]; omega
    · rw [labOk, ← h2, decide_eq_false (show ¬ 1 ≤ n by omega)]; simp
theorem lab_ok : labC.ok Tryz.prog 60 := bylab gok0 vlab

theorem letter_cut : ∀ k < 12, (ByteArray.mk #[70, 71, 72, 74, 75, 77, 78, 81, 85, 86, 88, 90]).extract k (k + 1) = sb [letters.getD k 0] := by
  intro k hk
  rw [show ByteArray.mk #[70, 71, 72, 74, 75, 77, 78, 81, 85, 86, 88, 90] = sb letters from rfl, sb_cut]
  congr 1
  have : ∀ k < 12, (letters.take (k + 1)).drop k = [letters.getD k 0] := by decide
  exact this k hk
theorem lob_dig {x : Int} (h : 0 ≤ x ∧ x ≤ 9) : lob (48 + x) = UInt8.ofNat (48 + x.toNat) := by
  unfold lob
  congr 1
  omega

theorem vcode (i : CodI) (h : codeC.cnd i) : Vcode i := by
  have h : i.c.length ≤ 140737488355328 := h
  unfold Vcode
  refine ⟨i.c, rfl, h, fun _ _ => Cv.cnd.mk (fun c1 => ?_) (fun c1 => cndD (fun c2 => ?_) (fun c2 => cndD (fun c3 => ?_) (fun c3 => ?_)))⟩
  · have c1 : symOk i.c = false := by simpa using c1
    rw [codeF, if_pos c1]; exact ⟨(), rfl, rfl, trivial⟩
  · have c1 : symOk i.c = true := by simpa using c1
    rw [codeF, if_neg (by simp [c1]), if_pos (.inl c2)]; exact ⟨(), rfl, rfl, trivial⟩
  · have c1 : symOk i.c = true := by simpa using c1
    rw [codeF, if_neg (by simp [c1]), if_pos (.inr c3)]; exact ⟨(), rfl, rfl, trivial⟩
  have c1 : symOk i.c = true := by simpa using c1
  have c3 : ¬ i.m > 1199 := c3
  have e0 : codeF i.c i.m = (i.c ++ [letters.getD (i.m % 12).toNat 0] ++ [UInt8.ofNat (48 + (i.m / 12).toNat / 10), UInt8.ofNat (48 + (i.m / 12).toNat % 10)], 0) := by
    rw [codeF, if_neg (by simp [c1]), if_neg (by omega)]
  have t1 : i.m.tmod 12 = i.m % 12 := Int.tmod_eq_emod_of_nonneg (by omega)
  have t2 : i.m.tdiv 12 = i.m / 12 := Int.tdiv_eq_ediv_of_nonneg (by omega)
  rw [t1, t2, w64 (x := i.m / 12) (by omega), w64 (x := i.m % 12 + 1) (by omega)]
  have t3 : (i.m / 12).tdiv 10 = i.m / 12 / 10 := Int.tdiv_eq_ediv_of_nonneg (by omega)
  have t4 : (i.m / 12).tmod 10 = i.m / 12 % 10 := Int.tmod_eq_emod_of_nonneg (by omega)
  rw [t3, t4, w64 (x := i.m / 12 / 10) (by omega), w64 (x := 48 + i.m / 12 / 10) (by omega), w64 (x := 48 + i.m / 12 % 10) (by omega)]
  have e1 : (i.m % 12 + 1).toNat = (i.m % 12).toNat + 1 := by omega
  rw [e1, letter_cut _ (by omega), wrap_u8, wrap_u8, lob_dig (by omega), lob_dig (by omega), i64max]
  have e2 : (ByteArray.mk #[70, 71, 72, 74, 75, 77, 78, 81, 85, 86, 88, 90]).size = 12 := rfl
  have e3 : (i.m / 12 / 10).toNat = (i.m / 12).toNat / 10 := by omega
  have e4 : (i.m / 12 % 10).toNat = (i.m / 12).toNat % 10 := by omega
  rw [e2, e3, e4, ← sb_app]
  refine ⟨rfl, by decide, rfl, by decide, rfl, by decide, ⟨by omega, by omega, by omega⟩, ?_, rfl, by decide, rfl, by decide, sb [UInt8.ofNat (48 + (i.m / 12).toNat / 10), UInt8.ofNat (48 + (i.m / 12).toNat % 10)], rfl, rfl, ?_, (), ?_, ?_, trivial⟩
  · simp only [sb_size, List.length_singleton]; omega
  · simp only [sb_size, List.length_append, List.length_cons, List.length_nil]; omega
  · rw [e0, ← sb_app]
  · rw [e0]
theorem code_ok : codeC.ok Tryz.prog 63 := bycode (gokc sym_ok gok0) vcode

theorem codeF_len (c : List UInt8) (m : Int) : (codeF c m).1.length ≤ c.length + 3 := by
  unfold codeF
  split
  · simp
  split
  · simp
  · simp
theorem vspr (i : SpdI) (h : sprC.cnd i) : Vspr i := by
  have h : i.c.length ≤ 140737488355328 := h
  unfold Vspr
  refine ⟨⟨i.c, i.a⟩, rfl, rfl, h, fun _ _ => ?_⟩
  dsimp only
  refine Cv.cnd.mk (fun c1 => ?_) (fun c1 => ⟨⟨i.c, i.b⟩, rfl, rfl, h, fun _ _ => ?_⟩)
  · have c1 : (codeF i.c i.a).2 ≠ 0 := by simpa using c1
    rw [sprF, if_pos c1]; exact ⟨(), rfl, rfl, trivial⟩
  have c1 : (codeF i.c i.a).2 = 0 := by simpa using c1
  dsimp only
  refine Cv.cnd.mk (fun c2 => ?_) (fun c2 => cndD (fun c3 => ?_) (fun c3 => ?_))
  · have c2 : (codeF i.c i.b).2 ≠ 0 := by simpa using c2
    rw [sprF, if_neg (by simp [c1]), if_pos c2]; exact ⟨(), rfl, rfl, trivial⟩
  · have c2 : (codeF i.c i.b).2 = 0 := by simpa using c2
    rw [sprF, if_neg (by simp [c1]), if_neg (by simp [c2]), if_pos c3]; exact ⟨(), rfl, rfl, trivial⟩
  · have c2 : (codeF i.c i.b).2 = 0 := by simpa using c2
    have c3 : ¬ i.a ≥ i.b := c3
    rw [sprF, if_neg (by simp [c1]), if_neg (by simp [c2]), if_neg (by omega)]
    have l1 := codeF_len i.c i.a
    have l2 := codeF_len i.c i.b
    rw [show ByteArray.mk #[45] = sb [45] from rfl, ← sb_app, ← sb_app, i64max]
    refine ⟨?_, ?_, (), rfl, rfl, trivial⟩
    · simp only [sb_size, List.length_singleton]; omega
    · simp only [sb_size, List.length_append, List.length_singleton]; omega
theorem spr_ok : sprC.ok Tryz.prog 64 := byspr (gokc code_ok gok0) vspr

/-- Legs are months; a spread's are two, the first the nearer. -/
theorem legsFrom_bd {n inst : Nat} : ∀ (k m : Nat), m + k = n → firstOf n m ≤ inst → inst < firstOf n n → ∃ a b : Nat, legsFrom n inst k m = ((a : Int), (b : Int), true) ∧ a < b ∧ b < n
  | 0, m, h1, h2, h3 => by
    obtain rfl : m = n := by omega
    omega
  | k + 1, m, h1, h2, h3 => by
    rw [legsFrom]
    split
    · rename_i h
      refine ⟨m, m + 1 + (inst - firstOf n m), by simp, by omega, ?_⟩
      omega
    · rename_i h
      exact legsFrom_bd k (m + 1) (by omega) (by rw [firstOf]; omega) h3
theorem first_all : ∀ n ≤ 6, firstOf n n = n + n * (n - 1) / 2 := by decide
theorem legs_bd {p : Prd} {n : Int} (h0 : 0 ≤ n) (h1 : n < p.count) : 0 ≤ (p.legs n).1 ∧ (p.legs n).1 < p.months.length ∧ ((p.legs n).2.2 = true → (p.legs n).1 < (p.legs n).2.1 ∧ (p.legs n).2.1 < p.months.length) := by
  rw [Prd.legs, if_neg (by omega)]
  split
  · rename_i h2
    exact ⟨h0, h2, fun h => by cases h⟩
  · rename_i h2
    have ok := check0 (count_ne (p := p) (by omega))
    have hc : p.count = p.months.length + p.months.length * (p.months.length - 1) / 2 := by
      rw [Prd.count, if_pos (count_ne (p := p) (by omega))]
    obtain ⟨a, b, e, h3, h4⟩ := legsFrom_bd (n := p.months.length) (inst := n.toNat) p.months.length 0 (by omega) (by show p.months.length ≤ n.toNat; omega) (by rw [first_all _ ok.m6, ← hc]; omega)
    rw [e]
    exact ⟨by simp, by dsimp only; omega, fun _ => ⟨by dsimp only; omega, by dsimp only; omega⟩⟩

theorem monthE {p : Prd} {n : Int} (h0 : 0 ≤ n) (h1 : n < p.months.length) : elPart (iE p.months) n.toNat 0 1 = some [D.v (.int .i64 (p.month n))] := by
  obtain ⟨v, hv⟩ := getI (l := p.months) (i := n.toNat) (by omega)
  rw [Prd.month, List.getD_eq_getElem?_getD, hv]
  exact elI hv

theorem vname (i : LegI) (h : nameC.cnd i) : Vname i := by
  obtain ⟨h1, h2, h3⟩ : i.p.small := h
  unfold Vname
  refine cndD (fun c1 => ?_) (fun c1 => ⟨i.p, ?_⟩)
  · rw [Prd.name, if_pos (.inl c1)]; exact ⟨(), rfl, trivial⟩
  (repeat' (first | exact rfl | exact trivial | assumption | apply And.intro | (refine fun (_ : Unit) (_ : True) => ?_) | (refine Exists.intro () ?_) | omega | (dsimp only; omega)))
  refine cndD (fun c2 => ?_) (fun c2 => ⟨i, ?_⟩)
  · rw [Prd.name, if_pos (.inr c2)]; exact ⟨(), rfl, trivial⟩
  have c2 : ¬ i.n ≥ (i.p.count : Int) := c2
  obtain ⟨b1, b2, b3⟩ := legs_bd (p := i.p) (n := i.n) (by omega) (by omega)
  refine ⟨rfl, rfl, rfl, rfl, rfl, rfl, rfl, rfl, rfl, rfl, rfl, rfl, ⟨h1, h2, h3⟩, fun _ _ => ⟨⟨b1, by rw [iE_len]; exact b2⟩, _, monthE b1 b2, ⟨i.p.code, i.p.month (i.p.legs i.n).1⟩, rfl, rfl, h1, fun _ _ => ?_⟩⟩
  have e0 : i.p.name i.n = if (i.p.legs i.n).2.2 = true then (sprF i.p.code (i.p.month (i.p.legs i.n).1) (i.p.month (i.p.legs i.n).2.1)).1 else (codeF i.p.code (i.p.month (i.p.legs i.n).1)).1 := by
    rw [Prd.name, if_neg (by omega)]
  refine Cv.cnd.mk (fun c3 => ?_) (fun c3 => ?_)
  · obtain ⟨b4, b5⟩ := b3 c3
    refine ⟨⟨b1, by rw [iE_len]; exact b2⟩, _, monthE b1 b2, ⟨by omega, by rw [iE_len]; exact b5⟩, _, monthE (by omega) b5, ⟨i.p.code, i.p.month (i.p.legs i.n).1, i.p.month (i.p.legs i.n).2.1⟩, rfl, rfl, rfl, h1, fun _ _ => ⟨(), ?_, trivial⟩⟩
    rw [e0, if_pos c3]
  · rw [e0, if_neg (by simp [c3])]
    exact ⟨(), rfl, trivial⟩
theorem name_ok : nameC.ok Tryz.prog 47 := byname (gokc pcount_ok (gokc legs_ok (gokc code_ok (gokc spr_ok gok0)))) vname

theorem vfind (i : FndI) (h : findC.cnd i) : Vfind i := by
  obtain ⟨h1, h2, h3⟩ : i.p.small := h
  unfold Vfind
  refine ⟨i.p, ?_⟩
  (repeat' (first | exact rfl | exact trivial | assumption | apply And.intro | (refine fun (_ : Unit) (_ : True) => ?_) | (refine Exists.intro () ?_) | omega | (dsimp only; omega)))
  have hc := count_le i.p
  refine ⟨0, rfl, fun m => m ≤ i.p.count ∧ ∀ k < m, i.p.name (k : Nat) ≠ i.s, fun m => i.p.count - m, ⟨by omega, fun k hk => by omega⟩, ?_⟩
  rintro m ⟨g1, g2⟩
  have nonef (hm : i.p.count ≤ m) : i.p.find i.s = (0, false) := by
    have : (List.range i.p.count).find? (fun (n : Nat) => decide (i.p.name (n : Int) = i.s)) = none := by
      rw [List.find?_eq_none]
      intro k hk
      simp only [List.mem_range] at hk
      simpa using g2 k (by omega)
    rw [Prd.find, this]
  refine cndD (fun c => ⟨⟨i.p, m⟩, ?_⟩) (fun c => ?_)
  · (repeat' (first | exact rfl | exact trivial | assumption | apply And.intro | (refine fun (_ : Unit) (_ : True) => ?_) | (refine Exists.intro () ?_) | omega | (dsimp only; omega)))
    refine Cv.cnd.mk (fun d => ?_) (fun d => ?_)
    · have d : i.p.name m = i.s := by
        rw [sb_toList, sb_toList] at d
        exact eq_of_beq d
      have : (List.range i.p.count).find? (fun (n : Nat) => decide (i.p.name (n : Int) = i.s)) = some m := by
        rw [List.find?_eq_some_iff_getElem]
        refine ⟨by simpa using d, m, by rw [List.length_range]; omega, by simp, fun j hj => ?_⟩
        simpa using g2 j hj
      rw [Prd.find, this]
      exact ⟨(), rfl, rfl, trivial⟩
    · have d : ¬ i.p.name m = i.s := by
        rw [sb_toList, sb_toList] at d
        intro e
        dsimp only at d
        rw [e] at d
        simp at d
      refine ⟨m + 1, by rw [w64 (by omega)]; rfl, ⟨by omega, fun k hk => ?_⟩, by (first | omega | (dsimp only; omega)), by (repeat' (first | exact rfl | exact trivial | assumption | apply And.intro | (refine fun (_ : Unit) (_ : True) => ?_) | (refine Exists.intro () ?_) | omega | (dsimp only; omega)))⟩
      rcases Nat.lt_or_ge k m with hk' | hk'
      · exact g2 k hk'
      · obtain rfl : k = m := by omega
        exact d
  · rw [nonef (by omega)]
    exact ⟨(), rfl, rfl, trivial⟩
theorem pfind_ok : findC.ok Tryz.prog 74 := byfind (gokc pcount_ok (gokc name_ok gok0)) vfind

end Sx

