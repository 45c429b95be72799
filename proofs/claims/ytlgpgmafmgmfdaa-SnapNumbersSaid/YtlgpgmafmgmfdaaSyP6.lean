/- The reference's bytes, and its reader: the conditions hold. -/
import Derived.Test.YtlgpgmafmgmfdaaSyV6
set_option linter.unusedVariables false
set_option linter.unusedSimpArgs false
set_option maxRecDepth 100000
namespace Sx
open Go Cv Go.Proofs
open Classical

theorem q_left {q : QN} (n : Nat) : (q.take n).r = ⟨(q.r.n n).left, (q.r.n n).bad⟩ := by
  unfold QN.take QN.r RN.left RB.n
  dsimp only
  split
  · rfl
  · rw [List.drop_drop]
theorem ok_qtake {q : QN} (h : q.ok) (n : Nat) : (q.take n).ok := by
  obtain ⟨h1, h2⟩ := h
  refine ⟨?_, h2⟩
  show (if (q.r.n n).bad then q.p else q.p + n) ≤ q.B.length
  split
  · exact h1
  · rename_i hb
    simp only [RN.bad, RB.n, QN.r, List.length_drop, Bool.or_eq_true, decide_eq_true_eq, not_or] at hb
    omega
theorem q_byte (q : QN) : (q.take 1).r = q.r.byte.2 := q_left 1
theorem q_long (q : QN) : (q.take 8).r = q.r.long.2 := q_left 8
theorem q_lv (q : QN) : q.lv.r = q.r.lv.2 := by
  show (((q.take 8).take 8).take 8).r = _
  rw [q_long, q_long, q_long]; rfl
theorem ok_qlv {q : QN} (h : q.ok) : q.lv.ok := ok_qtake (ok_qtake (ok_qtake h 8) 8) 8

theorem ifne {b : Bool} (h : ((if b = true then (10 : Int) else 0) != 0) = true) : b = true := by cases b <;> simp_all
theorem ifeq {b : Bool} (h : ((if b = true then (10 : Int) else 0) != 0) = false) : b = false := by cases b <;> simp_all

theorem qtake_ok : qtakeC.ok Try.prog 133 := byqtake gok0 fun i h => by
  obtain ⟨⟨h1, h2⟩, h3⟩ := h
  have hl : (i.q.r.n i.n).l.length = i.q.B.length - i.q.p := by show (i.q.B.drop i.q.p).length = _; rw [List.length_drop]
  have e1 : IntKind.i64.wrap ((i.q.B.length : Int) - i.q.p) = ((i.q.B.length : Int) - i.q.p) := w64 (by omega)
  have e2 : IntKind.i64.wrap ((i.q.p : Int) + i.n) = ((i.q.p + i.n : Nat) : Int) := by rw [w64 (by omega)]; rfl
  unfold Vqtake
  rw [bE_len, e1, e2]
  refine Cv.cnd.mk (fun e => ?_) (fun e => cndD (fun hlt => ?_) (fun hlt => ?_))
  · have hb := ifne e
    have : (i.q.r.n i.n).bad = true := by simp [RN.bad, RB.n, QN.r, hb]
    exact ⟨(), by simp [RN.got, this], rfl, by rw [if_pos this], by rw [if_pos this, if_pos hb], trivial⟩
  · have : (i.q.r.n i.n).bad = true := by
      simp only [RN.bad, Bool.or_eq_true, decide_eq_true_eq]
      right
      show (i.q.r.n i.n).l.length < i.n
      omega
    exact ⟨(), by simp [RN.got, this], rfl, by rw [if_pos this], by rw [if_pos this], trivial⟩
  · have hb := ifeq e
    have hn : ¬ (i.q.r.n i.n).l.length < (i.q.r.n i.n).n := by
      show ¬ (i.q.r.n i.n).l.length < i.n
      omega
    have : (i.q.r.n i.n).bad = false := by
      simp only [RN.bad, Bool.or_eq_false_iff, decide_eq_false_iff_not]
      exact ⟨hb, hn⟩
    refine ⟨⟨by omega, by omega, by omega⟩, (), ?_, rfl, by rw [this]; rfl, by rw [this, hb], trivial⟩
    simp only [RN.got, this, Bool.false_eq_true, if_false]
    rw [← bE_take, ← bE_drop]
    congr 1
    show (i.q.B.drop i.q.p).take i.n = _
    rw [Int.toNat_natCast, Int.toNat_natCast, List.drop_take]
    congr 1
    omega

theorem qbyte_ok : qbyteC.ok Try.prog 104 := byqbyte (gokc qtake_ok gok0) fun i h => by
  have hl := got_len (i.r.n 1)
  refine ⟨⟨i, 1⟩, rfl, rfl, rfl, rfl, ⟨h, (show 1 ≤ 255 by decide)⟩, fun _ _ => Cv.cnd.mk (fun e => ⟨(), ?_, rfl, rfl, rfl, trivial⟩) (fun e => ?_)⟩
  · have e : ((((bE (i.r.n 1).got).length : Nat) : Int) == 0) = true := e
    rw [bE_len] at e
    have : (i.r.n 1).got = [] := by
      rw [← List.length_eq_zero_iff]
      simpa using e
    rw [this]; rfl
  · have e : ((((bE (i.r.n 1).got).length : Nat) : Int) == 0) = false := e
    rw [bE_len] at e
    have hl : (i.r.n 1).got.length ≤ 1 := hl
    have e : (i.r.n 1).got.length ≠ 0 := by
      intro h0; rw [h0] at e; cases e
    obtain ⟨b, hb⟩ : ∃ b, (i.r.n 1).got = [b] := by
      rcases hg : (i.r.n 1).got with _ | ⟨b, _ | ⟨c, l⟩⟩
      · rw [hg] at e; exact absurd rfl e
      · exact ⟨b, rfl⟩
      · rw [hg] at hl; simp at hl
    have hb2 := b.toNat_lt
    refine ⟨⟨by omega, ?_⟩, b.toNat, ?_, (), ?_, rfl, rfl, rfl, trivial⟩
    · show (0 : Int) < (((bE (i.r.n 1).got).length : Nat) : Int)
      rw [bE_len]; omega
    · show elPart (bE (i.r.n 1).got) 0 0 1 = _
      exact elPart_bE (by rw [hb]; rfl)
    · rw [hb, w64 (by omega)]
      show (b.toNat : Int) + 256 * 0 = _
      omega

theorem qlong_ok : qlongC.ok Try.prog 103 := byqlong (gokc qtake_ok gok0) fun i h => by
  have hl : (i.r.n 8).got.length ≤ 8 := got_len (i.r.n 8)
  refine ⟨⟨i, 8⟩, rfl, rfl, rfl, rfl, ⟨h, (show 8 ≤ 255 by decide)⟩, fun _ _ => ⟨0, rfl, rfl, fun j => j ≤ (i.r.n 8).got.length, fun j => (i.r.n 8).got.length - j, Nat.zero_le _, fun j hj => ?_⟩⟩
  dsimp only at hj
  show cnd (decide ((j : Int) < (((bE (i.r.n 8).got).length : Nat) : Int))) _ _
  refine cndD (fun hlt => ?_) (fun hlt => ?_)
  · rw [bE_len] at hlt
    obtain ⟨b, hb⟩ : ∃ b, (i.r.n 8).got[j]? = some b := ⟨_, List.getElem?_eq_getElem (by omega)⟩
    have e8 : IntKind.i64.wrap (8 * (j : Int)) = 8 * j := w64 (by omega)
    have e9 : IntKind.u64.wrap (8 * (j : Int)) = 8 * j := wu64 (by omega)
    refine ⟨⟨by omega, ?_⟩, b.toNat, elPart_bE hb, by rw [e8, e9]; omega, j + 1, ?_, wj (by omega), by (first | omega | (dsimp only; omega)), by (first | omega | (dsimp only; omega)), by (repeat' (first | exact trivial | exact rfl | apply And.intro))⟩
    · show (j : Int) < (((bE (i.r.n 8).got).length : Nat) : Int)
      rw [bE_len]; omega
    · rw [e8, e9, wu64b, List.take_add_one, hb]
      simp only [Option.toList_some]
      rw [ofLe_snoc]
      obtain ⟨r1, r2⟩ := ofLe_range ((i.r.n 8).got.take j)
      rw [List.length_take, Nat.min_eq_left (by omega)] at r2 ⊢
      obtain ⟨x, hx⟩ : ∃ x : Nat, ofLe ((i.r.n 8).got.take j) = x := ⟨(ofLe ((i.r.n 8).got.take j)).toNat, by omega⟩
      rw [hx] at r2 ⊢
      have := or_shift (x := x) (b := b.toNat) (j := j) (by exact_mod_cast r2) b.toNat_lt (by omega)
      rw [show (8 * (j : Int)) = ((8 * j : Nat) : Int) by simp, this]
      simp
  · rw [bE_len] at hlt
    exact ⟨(), by rw [List.take_of_length_le (by omega)], rfl, rfl, rfl, trivial⟩

theorem qend_ok : qendC.ok Try.prog 106 := byqend gok0 fun i h => by
  have hl : i.r.l.length = i.B.length - i.p := by show (i.B.drop i.p).length = _; rw [List.length_drop]
  unfold Vqend
  rw [bE_len]
  refine Cv.cnd.mk (fun e => ⟨(), ?_, rfl, rfl, rfl, trivial⟩) (fun e => cndD (fun hlt => ⟨(), ?_, rfl, rfl, rfl, trivial⟩) (fun hlt => ⟨(), ?_, rfl, rfl, rfl, trivial⟩))
  · have hb : i.r.b = true := ifne e
    have hb2 : i.b = true := hb
    rw [RB.endOf, if_pos hb, if_pos hb2]
  · have hb : i.r.b = false := ifeq e
    rw [RB.endOf, if_neg (by rw [hb]; simp), if_pos (by omega)]
  · have hb : i.r.b = false := ifeq e
    rw [RB.endOf, if_neg (by rw [hb]; simp), if_neg (by omega)]

theorem qlv_ok : qlvC.ok Try.prog 105 := byqlv (gokc qlong_ok gok0) fun i h => by
  refine ⟨i, rfl, rfl, rfl, h, fun _ _ => ⟨i.take 8, rfl, rfl, rfl, ok_qtake h 8, fun _ _ => ⟨(i.take 8).take 8, rfl, rfl, rfl, ok_qtake (ok_qtake h 8) 8, fun _ _ => ⟨(), rfl, ?_, ?_, rfl, rfl, rfl, trivial⟩⟩⟩⟩
  · show i.r.long.2.long.1 = (i.take 8).r.long.1
    rw [q_long]
  · show i.r.long.2.long.2.long.1 = ((i.take 8).take 8).r.long.1
    rw [q_long, q_long]

theorem le_take : ∀ (k m : Nat) (n : Int), k ≤ m → (le n m).take k = le n k
  | 0, m, n, h => by simp [le]
  | k + 1, m + 1, n, h => by simp only [le, List.take_succ_cons]; rw [le_take k m _ (by omega)]
theorem le_wrap {k : Nat} (h : k ≤ 8) (n : Int) : le (IntKind.u64.wrap n) k = le n k := by
  rw [← le_take k 8 _ h, le_wrap64, le_take k 8 _ h]

theorem fbyte_ok : fbyteC.ok Try.prog 51 := byfbyte gok0 fun i h => by
  have h : i.l.length + 8 ≤ 1099511627776 := h
  refine ⟨by rw [bE_len]; omega, by rw [List.nil_append, bE_len]; omega, (), ?_, trivial⟩
  rw [bE_app, wrap_u8]; rfl

theorem flong_ok : flongC.ok Try.prog 52 := byflong gok0 fun i h => by
  have h : i.l.length + 8 ≤ 1099511627776 := h
  refine ⟨by rw [bE_len]; omega, 0, rfl, by simp [le], fun j => j ≤ 8, fun j => 8 - j, by decide, fun j hj => cndD (fun hlt => ?_) (fun hlt => ?_)⟩
  · dsimp only at hj
    have hu := u64_range i.n
    refine ⟨by omega, ?_, j + 1, ?_, ?_, by (first | omega | (dsimp only; omega)), by (first | omega | (dsimp only; omega)), trivial⟩
    · rw [bE_len, List.length_append, le_len]; omega
    · rw [wu64 (by omega)]; omega
    · rw [wrap_u8, shr_div .u64 _ (8 * j) (by show 8 * j ≤ 64; omega), show (2 : Int) ^ (8 * j) = 256 ^ j by rw [show (256 : Int) = 2 ^ 8 from rfl, ← Int.pow_mul], ← le_wrap (k := j + 1) (by omega) i.n, le_succ, le_wrap (by omega), ← List.append_assoc, bE_app]
      rfl
  · dsimp only at hj
    obtain rfl : j = 8 := by omega
    exact ⟨(), rfl, trivial⟩

theorem flv_ok : flvC.ok Try.prog 53 := byflv (gokc flong_ok gok0) fun i h => by
  have h : i.l.length + 24 ≤ 1099511627776 := h
  refine ⟨⟨i.l, i.v.price⟩, rfl, rfl, (show i.l.length + 8 ≤ 1099511627776 by omega), fun _ _ => ⟨rfl, rfl, ⟨i.l ++ le i.v.price 8, i.v.qty⟩, rfl, rfl, ?_, fun _ _ => ⟨rfl, ⟨i.l ++ le i.v.price 8 ++ le i.v.qty 8, i.v.count⟩, rfl, rfl, ?_, fun _ _ => ⟨(), ?_, trivial⟩⟩⟩⟩
  · show _ + 8 ≤ _
    rw [List.length_append, le_len]; omega
  · show _ + 8 ≤ _
    rw [List.length_append, List.length_append, le_len, le_len]; omega
  · simp only [encLv, List.append_assoc]

theorem and1 (c : Int) : iAnd .u32 c 1 = 0 ∨ iAnd .u32 c 1 = 1 := by
  have : iAnd .u32 c 1 = IntKind.u32.wrap ((BitVec.ofInt 32 c &&& BitVec.ofInt 32 1).toNat : Int) := rfl
  rw [this]
  have h1 : (BitVec.ofInt 32 c &&& BitVec.ofInt 32 1).toNat ≤ 1 := by
    rw [BitVec.toNat_and]; exact Nat.and_le_right
  rw [wu32 (by omega)]
  omega
theorem bit_pos {c : Int} (h : iAnd .u32 c 1 = 1) : crcBit c = iXor .u32 (iShr .u32 c 1) 3988292384 := by rw [crcBit, if_pos (by omega)]
theorem bit_neg {c : Int} (h : iAnd .u32 c 1 ≠ 1) : crcBit c = iShr .u32 c 1 := by
  rw [crcBit, if_neg]
  rcases and1 c with h1 | h1 <;> omega
theorem xor_flip (a b : Int) : iXor .u32 a b = iXor .u32 b a := by
  show IntKind.u32.wrap ((BitVec.ofInt 32 a ^^^ BitVec.ofInt 32 b).toNat : Int) = IntKind.u32.wrap ((BitVec.ofInt 32 b ^^^ BitVec.ofInt 32 a).toNat : Int)
  rw [BitVec.xor_comm]

theorem vfcrc (i : List UInt8) (h : i.length ≤ 1099511627776) : Vfcrc i := by
  refine ⟨0, rfl, rfl, fun j => j ≤ i.length, fun j => i.length - j, by dsimp only; omega, fun j hj => cndD (fun hlt => ?_) (fun hlt => ?_)⟩
  · dsimp only at hj
    rw [bE_len] at hlt
    obtain ⟨b, hb⟩ : ∃ b, i[j]? = some b := ⟨_, List.getElem?_eq_getElem (by omega)⟩
    refine ⟨⟨by omega, by rw [bE_len]; omega⟩, b.toNat, elPart_bE hb, (iXor .u32 (crcS (i.take j)) b.toNat, 0), ?_, rfl, fun x => x.1 = iXor .u32 (crcS (i.take j)) b.toNat ∧ x.2 ≤ 8, fun x => 8 - x.2, ⟨rfl, by dsimp only; omega⟩, ?_⟩
    · simp only [crcBits, wu32b]
    rintro ⟨c, n⟩ ⟨h1, h2⟩
    dsimp only at h1 h2
    subst h1
    refine cndD (fun hn => ?_) (fun hn => ?_)
    · dsimp only at hn
      refine Cv.cnd.mk (fun hc => ⟨by omega, ?_⟩) (fun hc => ⟨by omega, ?_⟩)
      · have hc : iAnd .u32 (crcBits n (iXor .u32 (crcS (i.take j)) b.toNat)) 1 = 1 := by simpa using hc
        refine ⟨(iXor .u32 (crcS (i.take j)) b.toNat, n + 1), ?_, wj (by omega), ⟨rfl, by (first | omega | (dsimp only; omega))⟩, by (first | omega | (dsimp only; omega)), by (repeat' (first | exact trivial | exact rfl | apply And.intro))⟩
        show crcBit _ = _
        exact bit_pos hc
      · have hc : iAnd .u32 (crcBits n (iXor .u32 (crcS (i.take j)) b.toNat)) 1 ≠ 1 := by simpa using hc
        refine ⟨(iXor .u32 (crcS (i.take j)) b.toNat, n + 1), ?_, wj (by omega), ⟨rfl, by (first | omega | (dsimp only; omega))⟩, by (first | omega | (dsimp only; omega)), by (repeat' (first | exact trivial | exact rfl | apply And.intro))⟩
        show crcBit _ = _
        exact bit_neg hc
    · dsimp only at hn
      obtain rfl : n = 8 := by omega
      refine ⟨j + 1, crcS_succ hb, ?_, by dsimp only; omega, by dsimp only; omega, by (repeat' (first | exact trivial | exact rfl | apply And.intro))⟩
      rw [w64 (by omega)]; rfl
  · dsimp only at hj
    rw [bE_len] at hlt
    refine ⟨(), ?_, by (repeat' (first | exact trivial | exact rfl | apply And.intro))⟩
    rw [List.take_of_length_le (by omega)]
    exact xor_flip _ _

theorem vfcrcO (i : List UInt8) (h : i.length ≤ 1099511627776) : VfcrcO i := by
  refine ⟨0, rfl, rfl, fun j => j ≤ i.length, fun j => i.length - j, by dsimp only; omega, fun j hj => cndD (fun hlt => ?_) (fun hlt => ?_)⟩
  · dsimp only at hj
    rw [bE_len] at hlt
    obtain ⟨b, hb⟩ : ∃ b, i[j]? = some b := ⟨_, List.getElem?_eq_getElem (by omega)⟩
    refine ⟨⟨by omega, by rw [bE_len]; omega⟩, b.toNat, elPart_bE hb, (iXor .u32 (crcS (i.take j)) b.toNat, 0), ?_, rfl, fun x => x.1 = iXor .u32 (crcS (i.take j)) b.toNat ∧ x.2 ≤ 8, fun x => 8 - x.2, ⟨rfl, by dsimp only; omega⟩, ?_⟩
    · simp only [crcBits, wu32b]
    rintro ⟨c, n⟩ ⟨h1, h2⟩
    dsimp only at h1 h2
    subst h1
    refine cndD (fun hn => ?_) (fun hn => ?_)
    · dsimp only at hn
      refine Cv.cnd.mk (fun hc => ⟨by omega, ?_⟩) (fun hc => ⟨by omega, ?_⟩)
      · have hc : iAnd .u32 (crcBits n (iXor .u32 (crcS (i.take j)) b.toNat)) 1 = 1 := by simpa using hc
        refine ⟨(iXor .u32 (crcS (i.take j)) b.toNat, n + 1), ?_, wj (by omega), ⟨rfl, by (first | omega | (dsimp only; omega))⟩, by (first | omega | (dsimp only; omega)), by (repeat' (first | exact trivial | exact rfl | apply And.intro))⟩
        show crcBit _ = _
        exact bit_pos hc
      · have hc : iAnd .u32 (crcBits n (iXor .u32 (crcS (i.take j)) b.toNat)) 1 ≠ 1 := by simpa using hc
        refine ⟨(iXor .u32 (crcS (i.take j)) b.toNat, n + 1), ?_, wj (by omega), ⟨rfl, by (first | omega | (dsimp only; omega))⟩, by (first | omega | (dsimp only; omega)), by (repeat' (first | exact trivial | exact rfl | apply And.intro))⟩
        show crcBit _ = _
        exact bit_neg hc
    · dsimp only at hn
      obtain rfl : n = 8 := by omega
      refine ⟨j + 1, crcS_succ hb, ?_, by dsimp only; omega, by dsimp only; omega, by (repeat' (first | exact trivial | exact rfl | apply And.intro))⟩
      rw [w64 (by omega)]; rfl
  · dsimp only at hj
    rw [bE_len] at hlt
    refine ⟨(), ?_, by (repeat' (first | exact trivial | exact rfl | apply And.intro))⟩
    rw [List.take_of_length_le (by omega)]
    exact xor_flip _ _
theorem fcrc_ok : fcrcC.ok Try.prog 54 := byfcrc gok0 vfcrc
theorem fcrcO_ok : fcrcO.ok Try.prog 54 := byfcrcO gok0 vfcrcO

theorem rbetter_ok : rbetterC.ok Try.prog 57 := byrbetter gok0 fun i _ => by
  refine Cv.cnd.mk (fun e => ⟨(), ?_, trivial⟩) (fun e => ⟨(), ?_, trivial⟩)
  · have e : i.side = 1 := by simpa using e
    simp [betterB, e]
  · have e : i.side ≠ 1 := by simpa using e
    simp [betterB, e]

/-- What a side must be, but for its levels' order. -/
def SdHead (s : Sd) : Prop := s.levels.length ≤ 255 ∧ (s.has = true → 1 ≤ s.imp.qty ∧ 1 ≤ s.imp.count) ∧ (s.has = false → s.imp = ⟨0, 0, 0⟩)
theorem impZ (l : Lv) : (l.price == 0 && (l.qty == 0 && (l.count == 0 && true))) = true ↔ l = ⟨0, 0, 0⟩ := by
  cases l
  simp

theorem vrright (v : Vw) (h : rrightC.cnd v) : Vrright v := by
  obtain ⟨h1, h2⟩ : VwSmall v := h
  unfold Vrright
  rw [List.length_map]
  refine cndD (fun hg => ⟨(), vwF fun hr => by have := hr.2; omega, trivial⟩) (fun hg => ?_)
  refine ⟨0, rfl, fun j => j ≤ v.length ∧ ∀ k b, k < j → v[k]? = some b → SdRight 1 b.1 ∧ SdRight 2 b.2, fun j => v.length - j, ⟨by omega, by intro k b hk; omega⟩, fun j hj => cndD (fun hlt => ?_) (fun hlt => ?_)⟩
  · obtain ⟨hj1, hj2⟩ := hj
    obtain ⟨x, hx⟩ := getD (l := v) (i := j) (by omega)
    have hm := List.mem_of_getElem? hx

    refine ⟨⟨by omega, by omega⟩, _, _, _, _, _, elSub (g := 0) hx (by show 0 + 5 ≤ 10; decide) rfl, true, fun b => b = true ↔ ¬ SdHead x.1, ?_, ?_⟩
    · rw [List.length_map]
      refine cndD (fun hl => ⟨true, rfl, iff_of_true rfl fun hc => by have := hc.1; omega, by (repeat' (first | exact trivial | exact rfl | apply And.intro))⟩) (fun hl => Cv.cnd.mk (fun hh => cndD (fun hq => ⟨true, rfl, iff_of_true rfl fun hc => by have := (hc.2.1 hh).1; omega, by (repeat' (first | exact trivial | exact rfl | apply And.intro))⟩)
        (fun hq => cndD (fun hc => ⟨true, rfl, iff_of_true rfl fun hd => by have := (hd.2.1 hh).2; omega, by (repeat' (first | exact trivial | exact rfl | apply And.intro))⟩) (fun hc => Cv.cnd.mk (fun hn => by rw [hh] at hn; cases hn) (fun hn => ⟨false, rfl, ?_, by (repeat' (first | exact trivial | exact rfl | apply And.intro))⟩))))
        (fun hh => Cv.cnd.mk (fun hn => ⟨_, rfl, ?_, by (repeat' (first | exact trivial | exact rfl | apply And.intro))⟩) (fun hn => by rw [hh] at hn; cases hn)))
      · refine iff_of_false (by simp) (not_not_intro ⟨by omega, fun _ => ⟨by omega, by omega⟩, fun hf => by rw [hh] at hf; cases hf⟩)
      · dsimp only
        rw [Bool.not_eq_true', ← Bool.not_eq_true, impZ]
        exact not_congr ⟨fun hz => ⟨by omega, (fun hf => by rw [hh] at hf; cases hf), fun _ => hz⟩, fun hc => hc.2.2 hh⟩
    · intro b hb
      refine Cv.cnd.mk (fun e => ⟨(), vwF fun hr => ?_, trivial⟩) (fun e => ?_)
      · have := (hr.1 x hm).1
        exact hb.1 e ⟨this.2.1, this.2.2.1, this.2.2.2⟩
      have hd1 : SdHead x.1 := by
        apply Classical.byContradiction
        intro hn
        rw [hb.2 hn] at e; cases e
      clear hb e b
      have hl1 := hd1.1
      refine ⟨0, rfl, fun j => j ≤ x.1.levels.length ∧ ∀ k, k < j → LvAt 1 x.1.levels k, fun j => x.1.levels.length - j, ⟨by omega, by intro k hk; omega⟩, fun k hk => cndD (fun hlt2 => ?_) (fun hlt2 => ?_)⟩
      · obtain ⟨hk1, hk2⟩ := hk
        rw [List.length_map] at hlt2 ⊢
        obtain ⟨y, hy⟩ := getD (l := x.1.levels) (i := k) (by omega)
        have next : LvAt 1 x.1.levels k → (fun j => j ≤ x.1.levels.length ∧ ∀ k, k < j → LvAt 1 x.1.levels k) (k + 1) := fun hl => ⟨by omega, fun m hm => by
          rcases Nat.lt_or_ge m k with h' | h'
          · exact hk2 m h'
          · obtain rfl : m = k := by omega
            exact hl⟩
        refine ⟨⟨by omega, by omega⟩, y.price, y.qty, y.count, elAt hy rfl, cndD (fun hq => ⟨(), vwF fun hr => by have := ((hr.1 x hm).1.1 k y hy).1; omega, trivial⟩) (fun hq => cndD (fun hc => ⟨(), vwF fun hr => by have := ((hr.1 x hm).1.1 k y hy).2.1; omega, trivial⟩) (fun hc => cndD (fun hp => ?_) (fun hp => ⟨k + 1, wj (by omega), next (LvAt.of hy (by omega) (by omega) fun m b hm' _ => by omega), by (first | omega | (dsimp only; omega)), by (repeat' (first | exact trivial | exact rfl | apply And.intro))⟩)))⟩
        have w0 : IntKind.i64.wrap ((k : Int) - 1) = ((k - 1 : Nat) : Int) := by rw [w64 (by omega)]; omega
        obtain ⟨z, hz⟩ := getD (l := x.1.levels) (i := k - 1) (by omega)
        refine ⟨⟨by rw [w0]; omega, by rw [w0]; omega⟩, z.price, by rw [w0]; exact elSub (n := 1) hz (by show 0 + 0 + 1 ≤ 3; omega) rfl, ⟨1, z.price, y.price⟩, rfl, rfl, rfl, trivial, fun _ _ => ?_⟩
        refine Cv.cnd.mk (fun hb => ⟨(), vwF fun hr => ?_, trivial⟩) (fun hb => ⟨k + 1, wj (by omega), next (LvAt.of hy (by omega) (by omega) ?_), by (first | omega | (dsimp only; omega)), by (repeat' (first | exact trivial | exact rfl | apply And.intro))⟩)
        · have := ((hr.1 x hm).1.1 k y hy).2.2 (k - 1) z (by omega) hz
          simp only [Bool.not_eq_true'] at hb
          rw [hb] at this; cases this
        · intro m b hm' hb'
          obtain rfl : m = k - 1 := by omega
          rw [hz] at hb'; cases hb'
          simpa using hb
      obtain ⟨hk1, hk2⟩ := hk
      rw [List.length_map] at hlt2
      obtain rfl : k = x.1.levels.length := by omega
      have sr1 : SdRight 1 x.1 := ⟨(fun k => by
        rcases Nat.lt_or_ge k x.1.levels.length with h' | h'
        · exact hk2 k h'
        · intro a ha; rw [List.getElem?_eq_none h'] at ha; cases ha), hd1.1, hd1.2.1, hd1.2.2⟩
      clear hk1 hk2 hlt2

      refine ⟨⟨by omega, by omega⟩, _, _, _, _, _, elSub (g := 5) hx (by show 5 + 5 ≤ 10; decide) rfl, true, fun b => b = true ↔ ¬ SdHead x.2, ?_, ?_⟩
      · rw [List.length_map]
        refine cndD (fun hl => ⟨true, rfl, iff_of_true rfl fun hc => by have := hc.1; omega, by (repeat' (first | exact trivial | exact rfl | apply And.intro))⟩) (fun hl => Cv.cnd.mk (fun hh => cndD (fun hq => ⟨true, rfl, iff_of_true rfl fun hc => by have := (hc.2.1 hh).1; omega, by (repeat' (first | exact trivial | exact rfl | apply And.intro))⟩)
          (fun hq => cndD (fun hc => ⟨true, rfl, iff_of_true rfl fun hd => by have := (hd.2.1 hh).2; omega, by (repeat' (first | exact trivial | exact rfl | apply And.intro))⟩) (fun hc => Cv.cnd.mk (fun hn => by rw [hh] at hn; cases hn) (fun hn => ⟨false, rfl, ?_, by (repeat' (first | exact trivial | exact rfl | apply And.intro))⟩))))
          (fun hh => Cv.cnd.mk (fun hn => ⟨_, rfl, ?_, by (repeat' (first | exact trivial | exact rfl | apply And.intro))⟩) (fun hn => by rw [hh] at hn; cases hn)))
        · refine iff_of_false (by simp) (not_not_intro ⟨by omega, fun _ => ⟨by omega, by omega⟩, fun hf => by rw [hh] at hf; cases hf⟩)
        · dsimp only
          rw [Bool.not_eq_true', ← Bool.not_eq_true, impZ]
          exact not_congr ⟨fun hz => ⟨by omega, (fun hf => by rw [hh] at hf; cases hf), fun _ => hz⟩, fun hc => hc.2.2 hh⟩
      · intro b hb
        refine Cv.cnd.mk (fun e => ⟨(), vwF fun hr => ?_, trivial⟩) (fun e => ?_)
        · have := (hr.1 x hm).2
          exact hb.1 e ⟨this.2.1, this.2.2.1, this.2.2.2⟩
        have hd2 : SdHead x.2 := by
          apply Classical.byContradiction
          intro hn
          rw [hb.2 hn] at e; cases e
        clear hb e b
        have hl2 := hd2.1
        refine ⟨0, rfl, fun j => j ≤ x.2.levels.length ∧ ∀ k, k < j → LvAt 2 x.2.levels k, fun j => x.2.levels.length - j, ⟨by omega, by intro k hk; omega⟩, fun k hk => cndD (fun hlt2 => ?_) (fun hlt2 => ?_)⟩
        · obtain ⟨hk1, hk2⟩ := hk
          rw [List.length_map] at hlt2 ⊢
          obtain ⟨y, hy⟩ := getD (l := x.2.levels) (i := k) (by omega)
          have next : LvAt 2 x.2.levels k → (fun j => j ≤ x.2.levels.length ∧ ∀ k, k < j → LvAt 2 x.2.levels k) (k + 1) := fun hl => ⟨by omega, fun m hm => by
            rcases Nat.lt_or_ge m k with h' | h'
            · exact hk2 m h'
            · obtain rfl : m = k := by omega
              exact hl⟩
          refine ⟨⟨by omega, by omega⟩, y.price, y.qty, y.count, elAt hy rfl, cndD (fun hq => ⟨(), vwF fun hr => by have := ((hr.1 x hm).2.1 k y hy).1; omega, trivial⟩) (fun hq => cndD (fun hc => ⟨(), vwF fun hr => by have := ((hr.1 x hm).2.1 k y hy).2.1; omega, trivial⟩) (fun hc => cndD (fun hp => ?_) (fun hp => ⟨k + 1, wj (by omega), next (LvAt.of hy (by omega) (by omega) fun m b hm' _ => by omega), by (first | omega | (dsimp only; omega)), by (repeat' (first | exact trivial | exact rfl | apply And.intro))⟩)))⟩
          have w0 : IntKind.i64.wrap ((k : Int) - 1) = ((k - 1 : Nat) : Int) := by rw [w64 (by omega)]; omega
          obtain ⟨z, hz⟩ := getD (l := x.2.levels) (i := k - 1) (by omega)
          refine ⟨⟨by rw [w0]; omega, by rw [w0]; omega⟩, z.price, by rw [w0]; exact elSub (n := 1) hz (by show 0 + 0 + 1 ≤ 3; omega) rfl, ⟨2, z.price, y.price⟩, rfl, rfl, rfl, trivial, fun _ _ => ?_⟩
          refine Cv.cnd.mk (fun hb => ⟨(), vwF fun hr => ?_, trivial⟩) (fun hb => ⟨k + 1, wj (by omega), next (LvAt.of hy (by omega) (by omega) ?_), by (first | omega | (dsimp only; omega)), by (repeat' (first | exact trivial | exact rfl | apply And.intro))⟩)
          · have := ((hr.1 x hm).2.1 k y hy).2.2 (k - 1) z (by omega) hz
            simp only [Bool.not_eq_true'] at hb
            rw [hb] at this; cases this
          · intro m b hm' hb'
            obtain rfl : m = k - 1 := by omega
            rw [hz] at hb'; cases hb'
            simpa using hb
        obtain ⟨hk1, hk2⟩ := hk
        rw [List.length_map] at hlt2
        obtain rfl : k = x.2.levels.length := by omega
        have sr2 : SdRight 2 x.2 := ⟨(fun k => by
          rcases Nat.lt_or_ge k x.2.levels.length with h' | h'
          · exact hk2 k h'
          · intro a ha; rw [List.getElem?_eq_none h'] at ha; cases ha), hd2.1, hd2.2.1, hd2.2.2⟩
        clear hk1 hk2 hlt2

        refine ⟨j + 1, wj (by omega), ⟨by omega, fun k b hk hb' => ?_⟩, by (first | omega | (dsimp only; omega)), by (repeat' (first | exact trivial | exact rfl | apply And.intro))⟩
        rcases Nat.lt_or_ge k j with h' | h'
        · exact hj2 k b h' hb'
        · obtain rfl : k = j := by omega
          rw [hx] at hb'; cases hb'
          exact ⟨sr1, sr2⟩
  · obtain ⟨hj1, hj2⟩ := hj
    obtain rfl : j = v.length := by omega
    have hr : VwRight v := ⟨fun b hb => by
      obtain ⟨k, hk⟩ := List.getElem?_of_mem hb
      exact hj2 k b (List.getElem?_eq_some_iff.1 hk).1 hk, by omega⟩
    exact ⟨(), decide_eq_true hr, trivial⟩
theorem rright_ok : rrightC.ok Try.prog 14 := byrright (gokc rbetter_ok gok0) vrright

end Sx
