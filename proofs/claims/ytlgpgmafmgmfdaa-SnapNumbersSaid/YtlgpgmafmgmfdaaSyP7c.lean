/- The reference's Decode: plain facts. -/
import Derived.Test.YtlgpgmafmgmfdaaSyP7
set_option linter.unusedVariables false
set_option linter.unusedSimpArgs false
set_option maxRecDepth 100000
namespace Sx
open Go Cv Go.Proofs
open Classical

theorem bad_n {r : RB} (h : r.b = true) (k : Nat) : (r.n k).bad = true := by simp [RN.bad, RB.n, h]
theorem bad_byte {r : RB} (h : r.b = true) : r.byte.2.b = true := bad_n h 1
theorem bad_long {r : RB} (h : r.b = true) : r.long.2.b = true := bad_n h 8
theorem bad_lv {r : RB} (h : r.b = true) : r.lv.2.b = true := bad_long (bad_long (bad_long h))
theorem lvs_mono {r : RB} {k : Nat} (h : (r.lvs k).2.b = true) : ∀ j, (r.lvs (k + j)).2.b = true
  | 0 => h
  | j + 1 => bad_lv (lvs_mono h j)
theorem bad_lvs {r : RB} (h : r.b = true) (k : Nat) : (r.lvs k).2.b = true := by
  have := lvs_mono (r := r) (k := 0) h k
  rwa [Nat.zero_add] at this
theorem bad_part {r : RB} (h : r.b = true) : r.part.2.b = true := bad_lvs (bad_byte h) _
theorem side_part {r : RB} (h : r.part.2.b = true) : r.side.2.b = true := by
  unfold RB.side; split
  · exact bad_lv (bad_byte h)
  · exact bad_byte h
theorem bad_side {r : RB} (h : r.b = true) : r.side.2.b = true := side_part (bad_part h)
theorem views_mono {r : RB} {k : Nat} (h : (r.views k).2.b = true) : ∀ j, (r.views (k + j)).2.b = true
  | 0 => h
  | j + 1 => bad_side (bad_side (views_mono h j))

theorem or_shift32 {x b j : Nat} (hx : x < 256 ^ j) (hb : b < 256) (hj : j < 4) : iOr .u32 x (iShl .u32 b ((8 * j : Nat) : Int)) = ((x + b * 256 ^ j : Nat) : Int) := by
  have hp : 256 ^ j = 2 ^ (8 * j) := by rw [Nat.pow_mul]
  have hle : 256 ^ (j + 1) ≤ 256 ^ 4 := Nat.pow_le_pow_right (by omega) (by omega)
  have hbig : x + b * 256 ^ j < 256 ^ (j + 1) := by
    rw [Nat.pow_succ]
    have : b * 256 ^ j ≤ 255 * 256 ^ j := Nat.mul_le_mul_right _ (by omega)
    omega
  have h8 : (256 : Nat) ^ 4 = 4294967296 := by decide
  rw [← fShl_eq, ← fOr_eq]
  have e1 : fShl .u32 (b : Int) ((8 * j : Nat) : Int) = ((b * 256 ^ j : Nat) : Int) := by
    show wr .u32 (Int.ofNat (b * 2 ^ (Nat.min (8 * j) 32))) = _
    rw [show Nat.min (8 * j) 32 = 8 * j from Nat.min_eq_left (by omega), ← hp, wr_eq]
    exact wu32 (by show (0 : Int) ≤ ((b * 256 ^ j : Nat) : Int) ∧ ((b * 256 ^ j : Nat) : Int) < _; omega)
  rw [e1]
  show wr .u32 (Int.ofNat (Nat.lor (x % 4294967296) ((b * 256 ^ j) % 4294967296))) = _
  rw [Nat.mod_eq_of_lt (by omega), Nat.mod_eq_of_lt (by omega)]
  have e2 : Nat.lor x (b * 256 ^ j) = x + b * 256 ^ j := by
    show x ||| (b * 256 ^ j) = _
    rw [hp] at hx ⊢
    rw [Nat.or_comm, ← Nat.shiftLeft_eq, ← Nat.shiftLeft_add_eq_or_of_lt hx, Nat.add_comm]
  rw [e2, wr_eq]
  exact wu32 (by show (0 : Int) ≤ ((x + b * 256 ^ j : Nat) : Int) ∧ ((x + b * 256 ^ j : Nat) : Int) < _; omega)

theorem or4 (a b c d : UInt8) : iOr .u32 (iOr .u32 (iOr .u32 (IntKind.u32.wrap a.toNat) (iShl .u32 (IntKind.u32.wrap b.toNat) 8)) (iShl .u32 (IntKind.u32.wrap c.toNat) 16)) (iShl .u32 (IntKind.u32.wrap d.toNat) 24) = ofLe [a, b, c, d] := by
  have ha := a.toNat_lt; have hb := b.toNat_lt; have hc := c.toNat_lt; have hd := d.toNat_lt
  rw [wu32b, wu32b, wu32b, wu32b]
  have e1 : iOr .u32 (a.toNat : Int) (iShl .u32 (b.toNat : Int) 8) = ((a.toNat + b.toNat * 256 ^ 1 : Nat) : Int) := or_shift32 (j := 1) (by omega) (by omega) (by omega)
  rw [e1]
  have e2 : iOr .u32 ((a.toNat + b.toNat * 256 ^ 1 : Nat) : Int) (iShl .u32 (c.toNat : Int) 16) = ((a.toNat + b.toNat * 256 ^ 1 + c.toNat * 256 ^ 2 : Nat) : Int) := or_shift32 (j := 2) (by omega) (by omega) (by omega)
  rw [e2]
  have e3 : iOr .u32 ((a.toNat + b.toNat * 256 ^ 1 + c.toNat * 256 ^ 2 : Nat) : Int) (iShl .u32 (d.toNat : Int) 24) = ((a.toNat + b.toNat * 256 ^ 1 + c.toNat * 256 ^ 2 + d.toNat * 256 ^ 3 : Nat) : Int) := or_shift32 (j := 3) (by omega) (by omega) (by omega)
  rw [e3]
  simp only [ofLe]
  omega

theorem lob_toNat (n : Int) : ((lob n).toNat : Int) = n % 256 := (wrap_u8 n).symm
theorem ofLe_le4 {c : Int} (h : 0 ≤ c ∧ c < 4294967296) : ofLe (le c 4) = c := by
  simp only [le, ofLe, lob_toNat]
  omega
theorem lob_of (b : UInt8) (n : Int) : lob (b.toNat + 256 * n) = b := by
  apply UInt8.toNat.inj
  have h1 := lob_toNat (b.toNat + 256 * n)
  have := b.toNat_lt
  omega
theorem le_of : ∀ l : List UInt8, le (ofLe l) l.length = l
  | [] => rfl
  | b :: l => by
    have h := b.toNat_lt
    simp only [ofLe, List.length_cons, le, lob_of]
    rw [show ((b.toNat : Int) + 256 * ofLe l) / 256 = ofLe l by omega, le_of l]

theorem sum_iff {b : List UInt8} {p q r s : UInt8} (hl : 4 ≤ b.length) (h : b.drop (b.length - 4) = [p, q, r, s]) : sumFits b ↔ crcOf (b.take (b.length - 4)) = ofLe [p, q, r, s] := by
  unfold sumFits
  rw [h]
  constructor
  · rintro ⟨_, h2⟩
    rw [← h2, ofLe_le4 (crcOf_range _)]
  · intro h2
    exact ⟨hl, by rw [h2]; exact le_of [p, q, r, s]⟩

end Sx
