/- Views, read from bytes: the conditions hold. -/
import Derived.Test.YtlgpgmafmgmfdaaSyV5
set_option linter.unusedVariables false
set_option linter.unusedSimpArgs false
set_option maxRecDepth 100000
namespace Sx
open Go Cv Go.Proofs
open Classical



theorem left_len (i : RN) : i.left.length ≤ i.l.length := by
  unfold RN.left; split
  · omega
  · rw [List.length_drop]; omega
theorem byte_range (r : RB) : 0 ≤ r.byte.1 ∧ r.byte.1 ≤ 255 := by
  have hr := ofLe_range (r.n 1).got
  have hl := got_len (r.n 1)
  have h0 : (256 : Int) ^ (r.n 1).got.length ≤ 256 ^ 1 := by
    have : (256 : Nat) ^ (r.n 1).got.length ≤ 256 ^ 1 := Nat.pow_le_pow_right (by omega) hl
    exact_mod_cast this
  exact ⟨hr.1, by show ofLe _ ≤ 255; omega⟩
theorem ok_byte {r : RB} (h : r.ok) : r.byte.2.ok := Nat.le_trans (left_len _) h
theorem ok_long {r : RB} (h : r.ok) : r.long.2.ok := Nat.le_trans (left_len _) h
theorem ok_lv {r : RB} (h : r.ok) : r.lv.2.ok := ok_long (ok_long (ok_long h))
theorem ok_lvs {r : RB} (h : r.ok) : ∀ k, (r.lvs k).2.ok
  | 0 => h
  | k + 1 => ok_lv (ok_lvs h k)
theorem ok_part {r : RB} (h : r.ok) : r.part.2.ok := ok_lvs (ok_byte h) _
theorem ok_side {r : RB} (h : r.ok) : r.side.2.ok := by
  unfold RB.side; split
  · exact ok_lv (ok_byte (ok_part h))
  · exact ok_byte (ok_part h)
theorem ok_views {r : RB} (h : r.ok) : ∀ k, (r.views k).2.ok
  | 0 => h
  | k + 1 => ok_side (ok_side (ok_views h k))
theorem lvs_len {r : RB} : ∀ k, (r.lvs k).1.length = k
  | 0 => rfl
  | k + 1 => by show ((r.lvs k).1 ++ [_]).length = _; rw [List.length_append, lvs_len k]; rfl
theorem side_len {r : RB} : r.side.1.1.levels.length ≤ 255 := by
  have : r.part.1.length ≤ 255 := by
    show (r.byte.2.lvs r.byte.1.toNat).1.length ≤ 255
    rw [lvs_len]; have := byte_range r; omega
  unfold RB.side; split <;> exact this
theorem views_len {r : RB} : ∀ k, (r.views k).1.1.length = k
  | 0 => rfl
  | k + 1 => by show ((r.views k).1.1 ++ [_]).length = _; rw [List.length_append, views_len k]; rfl
theorem views_side {r : RB} : ∀ k, ∀ b ∈ (r.views k).1.1, b.1.levels.length ≤ 255 ∧ b.2.levels.length ≤ 255
  | 0, b, h => nomatch h
  | k + 1, b, h => by
    have h : b ∈ (r.views k).1.1 ++ [_] := h
    rw [List.mem_append, List.mem_singleton] at h
    rcases h with h | rfl
    · exact views_side k b h
    · exact ⟨side_len, side_len⟩

theorem lget_ok : lgetC.ok Try.prog 132 := bylget (gokc rlong_ok gok0) fun i h =>
  ⟨i, rfl, h, fun _ _ => ⟨i.long.2, rfl, ok_long h, fun _ _ => ⟨i.long.2.long.2, rfl, ok_long (ok_long h), fun _ _ => ⟨(), rfl, rfl, rfl, rfl, trivial⟩⟩⟩⟩

theorem wj {j : Nat} (h : j ≤ 100000) : ((j + 1 : Nat) : Int) = IntKind.i64.wrap ((j : Int) + 1) := by rw [w64 (by omega)]; rfl

theorem vside (i : RB) (h : sideC.cnd i) : Vside i := by
  have hb := byte_range i
  have hp : i.part = i.byte.2.lvs i.byte.1.toNat := rfl
  refine ⟨i, rfl, h, fun _ _ => ⟨0, rfl, rfl, rfl, rfl, rfl, rfl, rfl, fun j => j ≤ i.byte.1.toNat, fun j => i.byte.1.toNat - j, Nat.zero_le _, fun j hj => cndD (fun hlt => ?_) (fun hlt => ?_)⟩⟩
  · dsimp only at hj
    have hlt : (j : Int) < i.byte.1 := hlt
    refine ⟨(i.byte.2.lvs j).2, rfl, ok_lvs (ok_byte h) j, fun _ _ => ⟨trivial, trivial, ?_, j + 1, wj (by omega), rfl, rfl, rfl, rfl, rfl, ?_, by (first | omega | (dsimp only; omega)), by (first | omega | (dsimp only; omega)), by (repeat' (first | exact trivial | exact rfl | apply And.intro))⟩⟩
    · rw [List.length_map]
      show ((i.byte.2.lvs j).1.length + 1) * 24 ≤ _
      rw [lvs_len]; omega
    · show List.map lvE (i.byte.2.lvs (j + 1)).1 = _
      show List.map lvE ((i.byte.2.lvs j).1 ++ [(i.byte.2.lvs j).2.lv.1]) = _
      rw [List.map_append]; rfl
  · dsimp only at hj
    have hlt : ¬ (j : Int) < i.byte.1 := hlt
    obtain rfl : j = i.byte.1.toNat := by omega
    refine ⟨i.part.2, rfl, ok_part h, fun _ _ => Cv.cnd.mk (fun e => ?_) (fun e => ?_)⟩
    · have e : i.part.2.byte.1 = 1 := by
        have e : (i.part.2.byte.1 == 1) = true := e
        simpa using e
      have hs : i.side = ((⟨i.part.1, i.part.2.byte.2.lv.1, true⟩, true), i.part.2.byte.2.lv.2) := if_pos e
      refine ⟨i.part.2.byte.2, rfl, ok_byte (ok_part h), fun _ _ => ⟨(), ?_⟩⟩
      rw [hs]
      refine ⟨rfl, rfl, rfl, rfl, rfl, ?_, rfl, trivial⟩
      show true = decide (i.part.2.byte.1 ≤ 1)
      rw [e]; rfl
    · have e : ¬ i.part.2.byte.1 = 1 := by
        have e : (i.part.2.byte.1 == 1) = false := e
        simpa using e
      have hs : i.side = ((⟨i.part.1, ⟨0, 0, 0⟩, false⟩, decide (i.part.2.byte.1 ≤ 1)), i.part.2.byte.2) := if_neg e
      refine ⟨(), ?_⟩
      rw [hs]
      exact ⟨rfl, rfl, rfl, rfl, rfl, rfl, rfl, trivial⟩
theorem side_ok : sideC.ok Try.prog 101 := byside (gokc rbyte_ok (gokc lget_ok gok0)) vside

theorem bytesE_mk (l : List UInt8) : bE l = bytesE ⟨l.toArray⟩ := rfl

theorem dec_not {b : List UInt8} (h : ¬ sumFits b) : decV b = [] ∧ decN b = 0 ∧ decE b = 14 := by
  refine ⟨?_, ?_, ?_⟩
  · rw [decV, if_neg fun x => h x.1]
  · rw [decN, if_neg fun x => h x.1]
  · rw [decE, if_neg h]
theorem dec_form {b : List UInt8} (h : sumFits b) (h2 : ¬ formFits b) : decV b = [] ∧ decN b = 0 ∧ decE b = 12 := by
  refine ⟨?_, ?_, ?_⟩
  · rw [decV, if_neg fun x => h2 x.2]
  · rw [decN, if_neg fun x => h2 x.2]
  · rw [decE, if_pos h, if_neg h2]
theorem dec_fits {b : List UInt8} (h : sumFits b) (h2 : formFits b) : decV b = (bodyRB b).all.1.1 ∧ decN b = (bodyRB b).long.1 ∧ decE b = 0 := by
  refine ⟨?_, ?_, ?_⟩
  · rw [decV, if_pos ⟨h, h2⟩]
  · rw [decN, if_pos ⟨h, h2⟩]
  · rw [decE, if_pos h, if_pos h2]

theorem vdec (b : List UInt8) (h : decC.cnd b) : Vdec b := by
  have h : b.length ≤ 1099511627776 := h
  have e0 : ((bE b).length : Int) = b.length := by rw [bE_len]
  have e1 : IntKind.i64.wrap (((bE b).length : Int) - 4) = (b.length : Int) - 4 := by rw [w64 (by omega), e0]
  unfold Vdec
  rw [e1, e0]
  refine cndD (fun hlt => ?_) (fun hlt => ?_)
  · obtain ⟨a1, a2, a3⟩ := dec_not (b := b) fun x => by have := x.1; omega
    exact ⟨(), by rw [a1]; rfl, a2, a3, trivial⟩
  have en : ((b.length : Int) - 4).toNat = b.length - 4 := by omega
  rw [en, ← bE_take, ← bE_drop]
  have hc := crcOf_range (b.take (b.length - 4))
  have hx : (b.take (b.length - 4)).length ≤ 1099511627776 := by rw [List.length_take]; omega
  have hr : (bodyRB b).ok := hx
  have hall : (bodyRB b).head.2.ok := ok_byte (ok_long hr)
  have hn := byte_range (bodyRB b).long.2
  refine ⟨(), trivial, fun _ _ => ⟨⟨by omega, by omega⟩, b.take (b.length - 4), rfl, hx, fun _ _ => ⟨⟨[], crcOf (b.take (b.length - 4))⟩, rfl, rfl, ⟨(show 0 + 8 ≤ 1099511627776 by omega), hc.1, hc.2⟩, fun _ _ => ⟨⟨by omega, by omega⟩, _, rfl, bytesE_mk _, le (crcOf (b.take (b.length - 4))) 4, rfl, (by rw [le_len]; omega), fun _ _ => ⟨⟨_, rfl, bytesE_mk _, rfl⟩, _, rfl, bytesE_mk _, Cv.cnd.mk (fun e => ?_) (fun e => ?_)⟩⟩⟩⟩⟩
  · rw [ByteArray.toList_eq, ByteArray.toList_eq] at e
    obtain ⟨a1, a2, a3⟩ := dec_not (b := b) fun x => by
      simp at e
      exact e x.2
    exact ⟨(), by rw [a1]; rfl, a2, a3, trivial⟩
  rw [ByteArray.toList_eq, ByteArray.toList_eq] at e
  have hs : sumFits b := ⟨by omega, by simpa using e⟩
  refine ⟨⟨by omega, by omega⟩, b.take (b.length - 4), rfl, hx, fun _ _ => ⟨bodyRB b, rfl, hr, fun _ _ => ⟨(bodyRB b).long.2, rfl, ok_long hr, fun _ _ => ⟨0, rfl, rfl, rfl, rfl, fun j => j ≤ (bodyRB b).head.1.toNat, fun j => (bodyRB b).head.1.toNat - j, Nat.zero_le _, fun j hj => cndD (fun hlt => ?_) (fun hlt => ?_)⟩⟩⟩⟩
  · dsimp only at hj
    have hlt : (j : Int) < (bodyRB b).head.1 := hlt
    have hn : 0 ≤ (bodyRB b).head.1 ∧ (bodyRB b).head.1 ≤ 255 := hn
    have o1 : ((bodyRB b).head.2.views j).2.ok := ok_views hall j
    have hl : ((List.map bothE ((bodyRB b).head.2.views j).1.1).length + 1) * 112 ≤ 70368744177664 := by rw [List.length_map, views_len]; omega
    have nb : ((bodyRB b).head.2.views (j + 1)).1.2 = (((bodyRB b).head.2.views j).1.2 && ((bodyRB b).head.2.views j).2.side.1.2 && ((bodyRB b).head.2.views j).2.side.2.side.1.2) := rfl
    have nl : List.map bothE ((bodyRB b).head.2.views (j + 1)).1.1 = List.map bothE ((bodyRB b).head.2.views j).1.1 ++ [bothE (((bodyRB b).head.2.views j).2.side.1.1, ((bodyRB b).head.2.views j).2.side.2.side.1.1)] := by
      show List.map bothE (((bodyRB b).head.2.views j).1.1 ++ [_]) = _
      rw [List.map_append]; rfl
    refine ⟨((bodyRB b).head.2.views j).2, rfl, o1, fun _ _ => Cv.cnd.mk (fun f1 => ?_) (fun f1 => ?_)⟩
    · have f1 : ((bodyRB b).head.2.views j).1.2 = true := f1
      refine ⟨((bodyRB b).head.2.views j).2.side.2, rfl, ok_side o1, fun _ _ => Cv.cnd.mk (fun f2 => ⟨hl, j + 1, ?_, wj (by omega), rfl, nl, by (first | omega | (dsimp only; omega)), by (first | omega | (dsimp only; omega)), by (repeat' (first | exact trivial | exact rfl | apply And.intro))⟩) (fun f2 => ⟨hl, j + 1, ?_, wj (by omega), rfl, nl, by (first | omega | (dsimp only; omega)), by (first | omega | (dsimp only; omega)), by (repeat' (first | exact trivial | exact rfl | apply And.intro))⟩)⟩
      · refine nb.trans ?_
        rw [f1, f2]; rfl
      · refine nb.trans ?_
        rw [f1, f2]; rfl
    · have f1 : ((bodyRB b).head.2.views j).1.2 = false := f1
      refine ⟨((bodyRB b).head.2.views j).2.side.2, rfl, ok_side o1, fun _ _ => ⟨hl, j + 1, ?_, wj (by omega), rfl, nl, by (first | omega | (dsimp only; omega)), by (first | omega | (dsimp only; omega)), by (repeat' (first | exact trivial | exact rfl | apply And.intro))⟩⟩
      refine nb.trans ?_
      rw [f1]; rfl
  · dsimp only at hj
    have hlt : ¬ (j : Int) < (bodyRB b).head.1 := hlt
    have hn : 0 ≤ (bodyRB b).head.1 ∧ (bodyRB b).head.1 ≤ 255 := hn
    obtain rfl : j = (bodyRB b).head.1.toNat := by omega
    have no : ∀ h2 : ¬ formFits b, (∃ (o : Unit), List.map bothE (decV b) = [] ∧ decN b = 0 ∧ decE b = 12 ∧ True) := fun h2 => by
      obtain ⟨a1, a2, a3⟩ := dec_form hs h2
      exact ⟨(), by rw [a1]; rfl, a2, a3, trivial⟩
    refine Cv.cnd.mk (fun f => no fun x => ?_) (fun f => ?_)
    · have x1 : ((bodyRB b).head.2.views (bodyRB b).head.1.toNat).1.2 = true := x.1
      have f : (!((bodyRB b).head.2.views (bodyRB b).head.1.toNat).1.2) = true := f
      rw [x1] at f; cases f
    have f : ((bodyRB b).head.2.views (bodyRB b).head.1.toNat).1.2 = true := by
      have f : (!((bodyRB b).head.2.views (bodyRB b).head.1.toNat).1.2) = false := f
      simpa using f
    refine ⟨(bodyRB b).all.2, rfl, ok_views hall _, fun _ _ => Cv.cnd.mk (fun g => no fun x => ?_) (fun g => ?_)⟩
    · have x2 : (bodyRB b).all.2.endOf = 0 := x.2.1
      have g : ((bodyRB b).all.2.endOf != 0) = true := g
      rw [x2] at g; cases g
    have g : (bodyRB b).all.2.endOf = 0 := by
      have g : ((bodyRB b).all.2.endOf != 0) = false := g
      simpa using g
    refine ⟨(bodyRB b).all.1.1, rfl, ⟨?_, ?_⟩, fun _ _ => Cv.cnd.mk (fun q => no fun x => ?_) (fun q => ?_)⟩
    · show ((bodyRB b).head.2.views (bodyRB b).head.1.toNat).1.1.length ≤ _
      rw [views_len]; omega
    · intro y hy
      have := views_side (r := (bodyRB b).head.2) _ y hy
      omega
    · have := x.2.2
      simp only [vwRight, Bool.not_eq_true', decide_eq_false_iff_not] at q
      exact q this
    · have q : VwRight (bodyRB b).all.1.1 := by simpa [vwRight] using q
      obtain ⟨a1, a2, a3⟩ := dec_fits hs ⟨f, g, q⟩
      refine ⟨(), ?_, a2, a3, trivial⟩
      rw [a1]; rfl
theorem dec_ok : decC.ok Try.prog 58 := bydec (gokc newW_ok (gokc crc_ok (gokc sum_ok (gokc done_ok (gokc newR_ok (gokc rlong_ok (gokc rbyte_ok (gokc side_ok (gokc rend_ok (gokc rightV_ok gok0)))))))))) vdec

end Sx
