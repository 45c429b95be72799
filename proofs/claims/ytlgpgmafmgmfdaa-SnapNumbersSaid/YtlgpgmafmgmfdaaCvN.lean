/- The machine of one's own, third part: numbers, strings, operations that look at no memory. No condition. -/
import Derived.Test.YtlgpgmafmgmfdaaCvM
import Derived.Lib.Strings
set_option linter.unusedSimpArgs false
set_option linter.unusedVariables false
namespace Cv
open Go Go.RowKit

theorem keq_sound {k k' : IntKind} (h : keq k k' = true) : k = k' := by cases k <;> cases k' <;> first | rfl | cases h

theorem ieq_eq (a b : Int) : ieq a b = decide (a = b) := by
  rw [Bool.eq_iff_iff, decide_eq_true_eq]
  cases a <;> cases b
  · simp only [ieq, Nat.beq_eq, Int.ofNat.injEq]
  · exact ⟨fun h => (by cases h), fun h => (by cases h)⟩
  · exact ⟨fun h => (by cases h), fun h => (by cases h)⟩
  · simp only [ieq, Nat.beq_eq, Int.negSucc.injEq]

theorem ilt_eq (a b : Int) : ilt a b = decide (a < b) := by
  rw [Bool.eq_iff_iff, decide_eq_true_eq]
  cases a <;> cases b
  · simp only [ilt, Nat.blt_eq, Int.ofNat_eq_natCast]; omega
  · simp only [ilt, Int.ofNat_eq_natCast, Int.negSucc_eq]; exact ⟨fun h => (by cases h), fun h => (by omega)⟩
  · simp only [ilt, Int.ofNat_eq_natCast, Int.negSucc_eq]; exact ⟨fun _ => (by omega), fun _ => trivial⟩
  · simp only [ilt, Nat.blt_eq, Int.negSucc_eq]; omega

theorem wrap_small {k : IntKind} {n : Nat} (h : n < lim k) : k.wrap (.ofNat n) = .ofNat n := by
  cases k <;> simp only [lim] at h <;> simp [IntKind.wrap, IntKind.bits, IntKind.signed] <;> omega

theorem wr_eq (k : IntKind) (x : Int) : wr k x = k.wrap x := by
  cases x with
  | ofNat n =>
    simp only [wr]
    cases h : Nat.blt n (lim k)
    · rfl
    · exact (wrap_small (by simpa [Nat.blt_eq] using h)).symm
  | negSucc n => rfl

theorem modN_eq (k : IntKind) : modN k = 2 ^ k.bits := by cases k <;> rfl

theorem ofInt_ofNat (w a : Nat) : BitVec.ofInt w (Int.ofNat a) = BitVec.ofNat w a := by
  apply BitVec.eq_of_toNat_eq
  simp

theorem fAnd_eq (k : IntKind) (a b : Int) : fAnd k a b = iAnd k a b := by
  unfold fAnd
  split
  · rename_i a b
    rw [wr_eq, modN_eq]
    unfold iAnd
    rw [ofInt_ofNat, ofInt_ofNat]
    simp only [BitVec.toNat_and, BitVec.toNat_ofNat]
    rfl
  · rfl
theorem fOr_eq (k : IntKind) (a b : Int) : fOr k a b = iOr k a b := by
  unfold fOr
  split
  · rename_i a b
    rw [wr_eq, modN_eq]
    unfold iOr
    rw [ofInt_ofNat, ofInt_ofNat]
    simp only [BitVec.toNat_or, BitVec.toNat_ofNat]
    rfl
  · rfl
theorem fXor_eq (k : IntKind) (a b : Int) : fXor k a b = iXor k a b := by
  unfold fXor
  split
  · rename_i a b
    rw [wr_eq, modN_eq]
    unfold iXor
    rw [ofInt_ofNat, ofInt_ofNat]
    simp only [BitVec.toNat_xor, BitVec.toNat_ofNat]
    rfl
  · rfl
theorem fShl_eq (k : IntKind) (a b : Int) : fShl k a b = iShl k a b := by
  unfold fShl
  split
  · rename_i a b
    rw [wr_eq]
    unfold iShl
    congr 1
  · rfl
theorem fShr_eq (k : IntKind) (a b : Int) : fShr k a b = iShr k a b := by
  unfold fShr
  split
  · rename_i a b
    unfold iShr
    show ((a / 2 ^ (Nat.min b k.bits) : Nat) : Int) = (a : Int).fdiv (2 ^ (min (Int.ofNat b).toNat k.bits))
    have : (2 : Int) ^ (min (Int.ofNat b).toNat k.bits) = ((2 ^ (Nat.min b k.bits) : Nat) : Int) := by
      rw [Int.natCast_pow]; rfl
    rw [this, Int.natCast_ediv, Int.fdiv_eq_ediv_of_nonneg _ (Int.natCast_nonneg _)]
  · rfl

theorem beqs_eq : ∀ a b : List Nat, beqs a b = ((a.map Nat.toUInt8) == (b.map Nat.toUInt8))
  | [], [] => rfl
  | [], _ :: _ => rfl
  | _ :: _, [] => rfl
  | a :: l, b :: l' => by
    simp only [beqs, List.map_cons, List.cons_beq_cons, beqs_eq l l']
    congr 1
    rw [Bool.eq_iff_iff, Nat.beq_eq, beq_iff_eq, ← UInt8.toNat_inj]
    simp [Nat.toUInt8]

theorem blts_eq : ∀ a b : List Nat, blts a b = Op.bytesLess (a.map Nat.toUInt8) (b.map Nat.toUInt8)
  | [], [] => rfl
  | [], _ :: _ => rfl
  | _ :: _, [] => rfl
  | a :: l, b :: l' => by
    simp only [blts, List.map_cons, Op.bytesLess, blts_eq l l']
    have e1 : Nat.blt (a % 256) (b % 256) = decide (a.toUInt8 < b.toUInt8) := by
      rw [Bool.eq_iff_iff, Nat.blt_eq, decide_eq_true_eq, UInt8.lt_iff_toNat_lt]
      simp [Nat.toUInt8]
    have e2 : Nat.beq (a % 256) (b % 256) = (a.toUInt8 == b.toUInt8) := by
      rw [Bool.eq_iff_iff, Nat.beq_eq, beq_iff_eq, ← UInt8.toNat_inj]
      simp [Nat.toUInt8]
    rw [e1, e2]
    cases decide (a.toUInt8 < b.toUInt8) <;> rfl

theorem bs_toList (l : List Nat) : (bs l).toList = l.map Nat.toUInt8 := by rw [Lib.toList_data]; rfl
theorem bs_size (l : List Nat) : (bs l).size = l.length := by simp [bs, ByteArray.size]
theorem bs_append (a b : List Nat) : bs a ++ bs b = bs (a ++ b) := by
  apply ByteArray.ext
  simp [bs]

theorem plainL_sound {φ : Phi} : ∀ {l : List V}, plainL l = true → cvl φ l = cvl phi0 l
  | [], _ => rfl
  | v :: l, h => by
    simp only [plainL, Bool.and_eq_true] at h
    simp only [cvl, plainL_sound h.2]
    cases v <;> first | rfl | (cases h.1)

theorem aint_sound {P : Program} {φ : Phi} {op : BinOp} {t : TypeId} {x y : Operand} {k k' : IntKind} {a b : Int} {v : V} (h : aint op k k' a b = some v) (w : World) :
    ((do eqGuard op t x y (.int k a) (.int k' b); binOp op t (.int k a) (.int k' b) : Sem Value)).run P w = .ok (cv φ v) w := by
  unfold aint at h
  split at h
  · cases hb : ilt b 0
    · rw [hb] at h
      simp only [cond_false, Option.some.injEq] at h
      subst h
      rw [ilt_eq, decide_eq_false_iff_not] at hb
      simp [eqGuard, binOp, Op.shift, hb, bind, pure, Sem.bind, Sem.run, cv, fShl_eq, iShl]
    · rw [hb] at h; cases h
  · cases hb : ilt b 0
    · rw [hb] at h
      simp only [cond_false, Option.some.injEq] at h
      subst h
      rw [ilt_eq, decide_eq_false_iff_not] at hb
      simp [eqGuard, binOp, Op.shift, hb, bind, pure, Sem.bind, Sem.run, cv, fShr_eq, iShr]
    · rw [hb] at h; cases h
  · cases hk : keq k k'
    · rw [hk] at h; cases h
    rw [hk] at h
    have hk := keq_sound hk
    subst hk
    simp only [cond_true] at h
    split at h
    all_goals first
      | (cases h; done)
      | (cases hb : ieq b 0
         · rw [hb] at h
           simp only [cond_false, Option.some.injEq] at h
           subst h
           rw [ieq_eq, decide_eq_false_iff_not] at hb
           simp [eqGuard, binOp, Op.intDiv, hb, bind, pure, Sem.bind, Sem.run, cv, wr_eq]
         · rw [hb] at h; cases h)
      | (simp only [Option.some.injEq] at h
         subst h
         simp [eqGuard, binOp, Op.intArith, Op.intBits, Op.intCmp, bind, pure, Sem.bind, Sem.run, cv, wr_eq, fAnd_eq, fOr_eq, fXor_eq, iAnd, iOr, iXor, iAndNot, ieq_eq, ilt_eq]
         done)
      | (simp only [Option.some.injEq] at h
         subst h
         simp [eqGuard, binOp, Op.intArith, Op.intBits, Op.intCmp, bind, pure, Sem.bind, Sem.run, cv, wr_eq, fAnd_eq, fOr_eq, fXor_eq, iAnd, iOr, iXor, iAndNot, ieq_eq, ilt_eq]
         first | rfl | (congr 1; rw [Bool.eq_iff_iff]; simp; try omega))

end Cv
