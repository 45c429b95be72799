/- wire: the conditions hold. -/
import Derived.Test.YtlgpgmafmgmfdaaSyV2
set_option linter.unusedVariables false
set_option linter.unusedSimpArgs false
set_option maxRecDepth 100000
namespace Sx
open Go Cv Go.Proofs

theorem le_mod (k : Nat) : ∀ n : Int, le (n % 256 ^ k) k = le n k := by
  induction k with
  | zero => intro n; rfl
  | succ k ih =>
    intro n
    have hp : (0 : Int) < 256 ^ k := Int.pow_pos (by omega)
    have h1 : lob (n % 256 ^ (k + 1)) = lob n := by
      unfold lob
      rw [Int.pow_succ, Int.mul_comm, Int.emod_emod_of_dvd n ⟨256 ^ k, rfl⟩]
    have h2 : n % 256 ^ (k + 1) / 256 = n / 256 % 256 ^ k := by
      have e : n = 256 * (n / 256) + n % 256 := (Int.mul_ediv_add_emod n 256).symm
      have e2 : n / 256 = 256 ^ k * (n / 256 / 256 ^ k) + n / 256 % 256 ^ k := (Int.mul_ediv_add_emod _ _).symm
      have hr := Int.emod_nonneg (n / 256) (show (256 : Int) ^ k ≠ 0 by omega)
      have hr2 := Int.emod_lt_of_pos (n / 256) hp
      have e3 : n % 256 ^ (k + 1) = 256 * (n / 256 % 256 ^ k) + n % 256 := by
        have : n = 256 ^ (k + 1) * (n / 256 / 256 ^ k) + (256 * (n / 256 % 256 ^ k) + n % 256) := by
          rw [Int.pow_succ, Int.mul_comm (256 ^ k) 256, Int.mul_assoc, ← Int.add_assoc, ← Int.mul_add, ← e2]
          exact e
        conv => lhs; rw [this]
        rw [Int.add_comm, Int.add_mul_emod_self_left, Int.emod_eq_of_lt]
        · omega
        · rw [Int.pow_succ]; omega
      rw [e3]
      omega
    rw [le, le, h1, h2, ih]

theorem le_wrap64 (n : Int) : le (IntKind.u64.wrap n) 8 = le n 8 := le_mod 8 n
theorem lob_wrap64 (n : Int) : lob (IntKind.u64.wrap n) = lob n := by
  have : IntKind.u64.wrap n = n % 18446744073709551616 := rfl
  unfold lob
  rw [this, Int.emod_emod_of_dvd n ⟨72057594037927936, by decide⟩]

theorem u64_range (n : Int) : 0 ≤ IntKind.u64.wrap n ∧ IntKind.u64.wrap n < 18446744073709551616 := by
  have : IntKind.u64.wrap n = n % 18446744073709551616 := rfl
  rw [this]; omega
theorem i64_range (n : Int) : -9223372036854775808 ≤ IntKind.i64.wrap n ∧ IntKind.i64.wrap n ≤ 9223372036854775807 := by
  have : IntKind.i64.wrap n = if 9223372036854775808 ≤ n % 18446744073709551616 then n % 18446744073709551616 - 18446744073709551616 else n % 18446744073709551616 := by unfold IntKind.wrap; simp [IntKind.signed, IntKind.bits]
  rw [this]
  split <;> omega

theorem vbyte (i : WN) (h : byteC.cnd i) : Vbyte i := by
  have h : i.l.length + 8 ≤ 1099511627776 := h
  exact ⟨⟨i.l, IntKind.u64.wrap i.n, 1⟩, rfl, rfl, rfl, ⟨(u64_range _).1, (u64_range _).2, by dsimp only; omega⟩, fun _ _ => ⟨(), by simp only [le, lob_wrap64], trivial⟩⟩
theorem vlong (i : WN) (h : longC.cnd i) : Vlong i := by
  have h : i.l.length + 8 ≤ 1099511627776 := h
  exact ⟨⟨i.l, IntKind.u64.wrap i.n, 8⟩, rfl, rfl, rfl, ⟨(u64_range _).1, (u64_range _).2, by dsimp only; omega⟩, fun _ _ => ⟨(), by simp only [le_wrap64], trivial⟩⟩
theorem vsum (i : WN) (h : sumC.cnd i) : Vsum i := by
  obtain ⟨h1, h2, h3⟩ := h
  have e : IntKind.u64.wrap i.n = i.n := wu64 (by omega)
  exact ⟨⟨i.l, IntKind.u64.wrap i.n, 4⟩, rfl, rfl, rfl, ⟨(u64_range _).1, (u64_range _).2, by dsimp only; omega⟩, fun _ _ => ⟨(), by simp only [e], trivial⟩⟩

theorem byte_ok : byteC.ok Try.prog 46 := bybyte (gokc put_ok gok0) vbyte
theorem long_ok : longC.ok Try.prog 45 := bylong (gokc put_ok gok0) vlong
theorem sum_ok : sumC.ok Try.prog 48 := bysum (gokc put_ok gok0) vsum

theorem cloneBO_ok : cloneBO.ok Try.prog 96 := bycloneBO gok0 fun i h => fun b hb =>
  Cv.cnd.mk (fun e => ⟨(), rfl, hb e, trivial⟩) (fun _ => ⟨by rw [Nat.zero_add]; exact h, (), rfl, rfl, trivial⟩)
theorem cloneBR_ok : cloneBR.ok Try.prog 96 := bycloneBR gok0 fun i h => fun b hb =>
  Cv.cnd.mk (fun e => ⟨(), hb e, trivial⟩) (fun _ => ⟨by rw [Nat.zero_add]; exact h, (), rfl, trivial⟩)
theorem newW_ok : newWC.ok Try.prog 44 := bynewW gok0 fun _ _ => ⟨(), rfl, trivial⟩
theorem done_ok : doneC.ok Try.prog 50 := bydone (gokc cloneBO_ok gok0) fun i h => by
  have h : i.length ≤ 1099511627776 := h
  exact ⟨_, rfl, by rw [bE_len]; omega, fun _ _ => ⟨(), rfl, rfl, trivial⟩⟩
theorem newR_ok : newRC.ok Try.prog 98 := bynewR (gokc cloneBR_ok gok0) fun i h => by
  have h : i.length ≤ 1099511627776 := h
  exact ⟨_, rfl, by rw [bE_len]; omega, fun _ _ => ⟨(), rfl, rfl, trivial⟩⟩

theorem elPart_bE {l : List UInt8} {i : Nat} {b : UInt8} (h : l[i]? = some b) : elPart (bE l) i 0 1 = some [.v (.int .u8 b.toNat)] := by
  unfold elPart bE
  rw [List.getElem?_map, h]; rfl

theorem crcS_succ {l : List UInt8} {i : Nat} {b : UInt8} (h : l[i]? = some b) : crcS (l.take (i + 1)) = crcBits 8 (iXor .u32 (crcS (l.take i)) b.toNat) := by
  unfold crcS
  rw [List.take_add_one, h]
  simp [List.foldl_append]

theorem wu32b (b : UInt8) : IntKind.u32.wrap (b.toNat : Int) = b.toNat := wu32 (by have := b.toNat_lt; omega)
theorem wu64b (b : UInt8) : IntKind.u64.wrap (b.toNat : Int) = b.toNat := wu64 (by have := b.toNat_lt; omega)

theorem vcrc (i : List UInt8) (h : crcC.cnd i) : Vcrc i := by
  have h : i.length ≤ 1099511627776 := h
  refine ⟨0, rfl, rfl, fun j => j ≤ i.length, fun j => i.length - j, by dsimp only; omega, fun j hj => cndD (fun hlt => ?_) (fun hlt => ?_)⟩
  · dsimp only at hj
    rw [bE_len] at hlt
    obtain ⟨b, hb⟩ : ∃ b, i[j]? = some b := ⟨_, List.getElem?_eq_getElem (by omega)⟩
    refine ⟨⟨by omega, by rw [bE_len]; omega⟩, b.toNat, elPart_bE hb, (iXor .u32 (crcS (i.take j)) b.toNat, 0), ?_, rfl, fun x => x.1 = iXor .u32 (crcS (i.take j)) b.toNat ∧ x.2 ≤ 8, fun x => 8 - x.2, ⟨rfl, by dsimp only; omega⟩, ?_⟩
    · simp only [crcBits, wu32b]
    rintro ⟨c, n⟩ ⟨h1, h2⟩
    dsimp only at h1 h2
    subst h1
    refine cndD (fun hn => ⟨by omega, cndD (fun hc => ?_) (fun hc => ?_)⟩) (fun hn => ?_)
    · refine ⟨(iXor .u32 (crcS (i.take j)) b.toNat, n + 1), ?_, ?_, ⟨rfl, by dsimp only at hn ⊢; omega⟩, by dsimp only at hn ⊢; omega, trivial⟩
      · simp only [crcBits, crcBit]; rw [if_pos hc]
      · rw [w64 (by dsimp only; omega)]; rfl
    · refine ⟨(iXor .u32 (crcS (i.take j)) b.toNat, n + 1), ?_, ?_, ⟨rfl, by dsimp only at hn ⊢; omega⟩, by dsimp only at hn ⊢; omega, trivial⟩
      · simp only [crcBits, crcBit]; rw [if_neg hc]
      · rw [w64 (by dsimp only; omega)]; rfl
    · dsimp only at hn
      obtain rfl : n = 8 := by omega
      refine ⟨j + 1, crcS_succ hb, ?_, by dsimp only; omega, by dsimp only; omega, trivial⟩
      rw [w64 (by omega)]; rfl
  · dsimp only at hj
    rw [bE_len] at hlt
    refine ⟨(), ?_, trivial⟩
    rw [List.take_of_length_le (by omega)]
    rfl
theorem crc_ok : crcC.ok Try.prog 49 := bycrc gok0 vcrc

theorem take_ok : takeC.ok Try.prog 157 := bytake gok0 fun i h => by
  obtain ⟨h1, h2⟩ := h
  refine Cv.cnd.mk (fun e => ?_) (fun e => cndD (fun hlt => ?_) (fun hlt => ?_))
  · have : i.bad = true := by simp [RN.bad, e]
    exact ⟨(), by simp [RN.got, this], by simp [RN.left, this], this, trivial⟩
  · rw [bE_len] at hlt
    have : i.bad = true := by simp [RN.bad]; right; omega
    exact ⟨(), by simp [RN.got, this], by simp [RN.left, this], by rw [this, bE_len]; simp; omega, trivial⟩
  · rw [bE_len] at hlt
    have : i.bad = false := by simp [RN.bad, e]; omega
    rw [bE_len]
    exact ⟨⟨by omega, by omega⟩, ⟨by omega, by omega⟩, (), by simp [RN.got, this, bE_take], by simp [RN.left, this, bE_drop], by rw [this]; simp; omega, trivial⟩

theorem ofLe_range : ∀ l : List UInt8, 0 ≤ ofLe l ∧ ofLe l < 256 ^ l.length
  | [] => by simp [ofLe]
  | b :: l => by
    obtain ⟨h1, h2⟩ := ofLe_range l
    have := b.toNat_lt
    simp only [ofLe, List.length_cons, Int.pow_succ]
    omega
theorem ofLe_snoc (b : UInt8) : ∀ l : List UInt8, ofLe (l ++ [b]) = ofLe l + b.toNat * 256 ^ l.length
  | [] => by simp [ofLe]
  | c :: l => by
    simp only [List.cons_append, ofLe, ofLe_snoc b l, List.length_cons, Int.pow_succ, Int.mul_add]
    rw [Int.mul_comm (256 ^ l.length) 256, ← Int.mul_assoc, ← Int.mul_assoc, Int.mul_comm 256 (b.toNat : Int)]
    omega

theorem or_shift {x b j : Nat} (hx : x < 256 ^ j) (hb : b < 256) (hj : j < 8) : iOr .u64 x (iShl .u64 b ((8 * j : Nat) : Int)) = ((x + b * 256 ^ j : Nat) : Int) := by
  have hp : 256 ^ j = 2 ^ (8 * j) := by rw [Nat.pow_mul]
  have hle : 256 ^ (j + 1) ≤ 256 ^ 8 := Nat.pow_le_pow_right (by omega) (by omega)
  have hbig : x + b * 256 ^ j < 256 ^ (j + 1) := by
    rw [Nat.pow_succ]
    have : b * 256 ^ j ≤ 255 * 256 ^ j := Nat.mul_le_mul_right _ (by omega)
    omega
  have h8 : (256 : Nat) ^ 8 = 18446744073709551616 := by decide
  rw [← fShl_eq, ← fOr_eq]
  have e1 : fShl .u64 (b : Int) ((8 * j : Nat) : Int) = ((b * 256 ^ j : Nat) : Int) := by
    show wr .u64 (Int.ofNat (b * 2 ^ (Nat.min (8 * j) 64))) = _
    rw [show Nat.min (8 * j) 64 = 8 * j from Nat.min_eq_left (by omega), ← hp, wr_eq]
    exact wu64 (by show (0 : Int) ≤ ((b * 256 ^ j : Nat) : Int) ∧ ((b * 256 ^ j : Nat) : Int) < _; omega)
  rw [e1]
  show wr .u64 (Int.ofNat (Nat.lor (x % 18446744073709551616) ((b * 256 ^ j) % 18446744073709551616))) = _
  rw [Nat.mod_eq_of_lt (by omega), Nat.mod_eq_of_lt (by omega)]
  have e2 : Nat.lor x (b * 256 ^ j) = x + b * 256 ^ j := by
    show x ||| (b * 256 ^ j) = _
    rw [hp] at hx ⊢
    rw [Nat.or_comm, ← Nat.shiftLeft_eq, ← Nat.shiftLeft_add_eq_or_of_lt hx, Nat.add_comm]
  rw [e2, wr_eq]
  exact wu64 (by show (0 : Int) ≤ ((x + b * 256 ^ j : Nat) : Int) ∧ ((x + b * 256 ^ j : Nat) : Int) < _; omega)

theorem got_len (i : RN) : i.got.length ≤ i.n := by
  unfold RN.got; split
  · simp
  · rw [List.length_take]; omega

theorem vgetR (i : RN) (h : getC.cnd i) : Vget i := by
  obtain ⟨h1, h2⟩ := h
  refine ⟨i, rfl, rfl, ⟨by omega, h2⟩, fun _ _ => ⟨0, rfl, rfl, fun j => j ≤ i.got.length, fun j => i.got.length - j, by dsimp only; omega, fun j hj => cndD (fun hlt => ?_) (fun hlt => ?_)⟩⟩
  · dsimp only at hj
    have hl := got_len i
    rw [bE_len] at hlt ⊢
    obtain ⟨b, hb⟩ : ∃ b, i.got[j]? = some b := ⟨_, List.getElem?_eq_getElem (by omega)⟩
    have e8 : IntKind.i64.wrap (8 * (j : Int)) = 8 * j := w64 (by omega)
    refine ⟨⟨by omega, by omega⟩, b.toNat, elPart_bE hb, by rw [e8]; omega, j + 1, ?_, ?_, by dsimp only; omega, by dsimp only; omega, rfl⟩
    · rw [e8, wu64b, List.take_add_one, hb]
      simp only [Option.toList_some]
      rw [ofLe_snoc]
      obtain ⟨r1, r2⟩ := ofLe_range (i.got.take j)
      rw [List.length_take, Nat.min_eq_left (by omega)] at r2 ⊢
      obtain ⟨x, hx⟩ : ∃ x : Nat, ofLe (i.got.take j) = x := ⟨(ofLe (i.got.take j)).toNat, by omega⟩
      rw [hx] at r2 ⊢
      have := or_shift (x := x) (b := b.toNat) (j := j) (by exact_mod_cast r2) b.toNat_lt (by omega)
      rw [show (8 * (j : Int)) = ((8 * j : Nat) : Int) by simp, this]
      simp
    · rw [w64 (by omega)]; rfl
  · dsimp only at hj
    rw [bE_len] at hlt
    exact ⟨(), by rw [List.take_of_length_le (by omega)], rfl, trivial⟩
theorem get_ok : getC.ok Try.prog 131 := byget (gokc take_ok gok0) vgetR

theorem rbyte_ok : rbyteC.ok Try.prog 100 := byrbyte (gokc get_ok gok0) fun i h => by
  have hl := got_len (i.n 1)
  have hr := ofLe_range (i.n 1).got
  have h0 : (256 : Int) ^ (i.n 1).got.length ≤ 256 ^ 1 := by
    have : (256 : Nat) ^ (i.n 1).got.length ≤ 256 ^ 1 := Nat.pow_le_pow_right (by omega) hl
    exact_mod_cast this
  exact ⟨i.n 1, rfl, rfl, ⟨by show 1 ≤ 8; omega, h⟩, fun _ _ => ⟨(), (w64 (by omega)).symm, rfl, trivial⟩⟩
theorem rlong_ok : rlongC.ok Try.prog 99 := byrlong (gokc get_ok gok0) fun i h => by
  exact ⟨i.n 8, rfl, rfl, ⟨by show 8 ≤ 8; omega, h⟩, fun _ _ => ⟨(), rfl, rfl, trivial⟩⟩
theorem rend_ok : rendC.ok Try.prog 102 := byrend gok0 fun i h => by
  refine Cv.cnd.mk (fun e => ⟨(), by rw [if_pos e], rfl, rfl, trivial⟩) (fun e => cndD (fun hlt => ⟨(), ?_, rfl, rfl, trivial⟩) (fun hlt => ⟨(), ?_, rfl, rfl, trivial⟩))
  · rw [bE_len] at hlt; rw [if_neg (by simp [e]), if_pos (by omega)]
  · rw [bE_len] at hlt; rw [if_neg (by simp [e]), if_neg (by omega)]

end Sx
