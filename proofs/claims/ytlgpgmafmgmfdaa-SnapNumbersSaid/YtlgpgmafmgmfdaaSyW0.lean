/- Numbers and bytes: what the conditions of walks are proved by. No condition. -/
import Derived.Test.YtlgpgmafmgmfdaaSxM
set_option linter.unusedVariables false
set_option linter.unusedSimpArgs false
namespace Sx
open Go Cv

@[reducible] def i64V (n : Int) : V := .d (.v (.int .i64 n))
@[reducible] def u64V (n : Int) : V := .d (.v (.int .u64 n))
@[reducible] def u32V (n : Int) : V := .d (.v (.int .u32 n))
@[reducible] def boolV (b : Bool) : V := .d (.v (.bool b))
@[reducible] def strV (s : ByteArray) : V := .d (.v (.string s))
@[reducible] def roV (sz : Nat) (els : List (List D)) : V := .d (.ro sz els)
def unitV : V := .tup []

/-- A contract with one end, which hands back this, and leaves these rows. -/
@[reducible] def con1 (ι : Type) (pat : ι → List V) (pre : ι → List AObj) (cnd : ι → Prop) (res : ι → V) (post : ι → List AObj) : Con where
  ι := ι
  pat := pat
  pre := pre
  cnd := cnd
  alts := fun i => [{ o := Unit, res := fun _ => res i, post := fun _ => post i, rel := fun _ => True }]

def bE (l : List UInt8) : List (List D) := l.map fun b => [.v (.int .u8 b.toNat)]

@[simp] theorem bE_app (a b : List UInt8) : bE (a ++ b) = bE a ++ bE b := by simp [bE]
@[simp] theorem bE_nil : bE [] = [] := rfl
@[simp] theorem bE_len (a : List UInt8) : (bE a).length = a.length := by simp [bE]
theorem bE_take (a : List UInt8) (n : Nat) : bE (a.take n) = (bE a).take n := by simp [bE]
theorem bE_drop (a : List UInt8) (n : Nat) : bE (a.drop n) = (bE a).drop n := by simp [bE]
theorem bE_uni (a : List UInt8) : ∀ el ∈ bE a, el.length = 1 := by
  intro el h
  obtain ⟨b, _, rfl⟩ := List.mem_map.1 h
  rfl
theorem bytesE_bE (s : ByteArray) : bytesE s = bE s.data.toList := rfl
theorem bE_inj {a b : List UInt8} (h : bE a = bE b) : a = b := by
  have : Function.Injective fun b : UInt8 => ([.v (.int .u8 b.toNat)] : List D) := by
    intro x y h
    simp only [List.cons.injEq, D.v.injEq, Value.int.injEq, true_and, and_true] at h
    exact UInt8.toNat.inj (by omega)
  exact (List.map_inj_right (fun x y h => this h)).1 h

/-- The lowest byte of a number. -/
def lob (n : Int) : UInt8 := UInt8.ofNat (n % 256).toNat
/-- A number's lowest bytes, the lowest first. -/
def le (n : Int) : Nat → List UInt8
  | 0 => []
  | k + 1 => lob n :: le (n / 256) k

theorem le_len (k : Nat) : ∀ n : Int, (le n k).length = k := by
  induction k with
  | zero => intro n; rfl
  | succ k ih => intro n; simp [le, ih]
theorem le_succ (k : Nat) : ∀ n : Int, le n (k + 1) = le n k ++ [lob (n / 256 ^ k)] := by
  induction k with
  | zero => intro n; simp [le]
  | succ k ih =>
    intro n
    have : n / 256 / 256 ^ k = n / 256 ^ (k + 1) := by
      rw [Int.ediv_ediv_of_nonneg (by omega), Int.pow_succ, Int.mul_comm]
    rw [le, ih, le, this, List.cons_append]

theorem wrap_u8 (n : Int) : IntKind.u8.wrap n = ((lob n).toNat : Int) := by
  have : (IntKind.u8.wrap n) = n % 256 := rfl
  rw [this]
  unfold lob
  have h1 : (n % 256).toNat < 256 := by omega
  rw [UInt8.toNat_ofNat_of_lt' (by simpa using h1)]
  omega

theorem w64 {x : Int} (h : -9223372036854775808 ≤ x ∧ x ≤ 9223372036854775807) : IntKind.i64.wrap x = x := Cv.wrap_i64 h.1 h.2
theorem wu64 {x : Int} (h : 0 ≤ x ∧ x < 18446744073709551616) : IntKind.u64.wrap x = x := by
  have : IntKind.u64.wrap x = x % 18446744073709551616 := rfl
  rw [this]; omega
theorem wu32 {x : Int} (h : 0 ≤ x ∧ x < 4294967296) : IntKind.u32.wrap x = x := by
  have : IntKind.u32.wrap x = x % 4294967296 := rfl
  rw [this]; omega

theorem shr_div (k : IntKind) (a : Int) (b : Nat) (h : b ≤ k.bits) : iShr k a b = a / 2 ^ b := by
  unfold iShr
  rw [show min (Int.toNat (b : Int)) k.bits = b by simp; omega]
  rw [Int.fdiv_eq_ediv_of_nonneg]
  exact Int.pow_nonneg (by omega)

theorem cndT {t : Bool} {A B : Prop} (h1 : t = true → A) (h2 : t = false → B) : cnd t A B := Cv.cnd.mk h1 h2
theorem cndD {p : Prop} [Decidable p] {A B : Prop} (h1 : p → A) (h2 : ¬ p → B) : cnd (decide p) A B := Cv.cnd.mk (fun h => h1 (of_decide_eq_true h)) (fun h => h2 (of_decide_eq_false h))



theorem gok0 {P : Program} : GOk P [] := trivial
theorem gokc {P : Program} {f : Nat} {C : Con} {l : List (Nat × Con)} (h : C.ok P f) (hl : GOk P l) : GOk P ((f, C) :: l) := ⟨h, hl⟩

theorem mixedOf (P : Program) (h : P.follows .mixedOrders = true) : P.follows .mixedOrders = true := h

end Sx
