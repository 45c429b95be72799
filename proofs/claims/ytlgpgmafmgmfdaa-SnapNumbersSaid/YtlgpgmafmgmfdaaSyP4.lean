/- Views, and their bytes: Encode. -/
import Derived.Test.YtlgpgmafmgmfdaaSyP3
set_option linter.unusedVariables false
set_option linter.unusedSimpArgs false
set_option maxRecDepth 100000
namespace Sx
open Go Cv Go.Proofs
open Classical

theorem fmap_len {α : Type} {f : α → List UInt8} {c : Nat} : ∀ {l : List α}, (∀ x ∈ l, (f x).length ≤ c) → (l.flatMap f).length ≤ c * l.length
  | [], _ => by simp
  | a :: l, h => by
    have h1 := h a (by simp)
    have h2 := fmap_len (l := l) fun x hx => h x (by simp [hx])
    simp only [List.flatMap_cons, List.length_append, List.length_cons, Nat.mul_add, Nat.mul_one]
    omega
theorem flat_succ {α β : Type} {f : α → List β} {l : List α} {k : Nat} {x : α} (h : l[k]? = some x) : (l.take (k + 1)).flatMap f = (l.take k).flatMap f ++ f x := by
  rw [List.take_add_one, h]; simp

theorem encLv_len (l : Lv) : (encLv l).length = 24 := by simp [encLv, le_len]
theorem encLvs_len (l : List Lv) : (l.flatMap encLv).length ≤ 24 * l.length := fmap_len fun x _ => by rw [encLv_len]; omega
theorem encSd_len {s : Sd} (h : s.levels.length ≤ 255) : (encSd s).length ≤ 6146 := by
  have := encLvs_len s.levels
  unfold encSd
  rw [List.length_append, List.length_append, List.length_singleton]
  split
  · rw [List.length_append, encLv_len, List.length_singleton]; omega
  · rw [List.length_singleton]; omega
theorem SdRight.len {n : Int} {s : Sd} (h : SdRight n s) : s.levels.length ≤ 255 := h.2.1
theorem encTake_len {v : Vw} (h : VwRight v) (j : Nat) : ((v.take j).flatMap encBoth).length ≤ 3134460 := by
  have h1 : ∀ x ∈ v.take j, (encBoth x).length ≤ 12292 := fun x hx => by
    have := h.1 x (List.mem_of_mem_take hx)
    have a := encSd_len this.1.len
    have b := encSd_len this.2.len
    unfold encBoth
    rw [List.length_append]; omega
  have h2 := fmap_len h1
  have h3 := h.2
  rw [List.length_take] at h2
  omega

theorem u32_range (n : Int) : 0 ≤ IntKind.u32.wrap n ∧ IntKind.u32.wrap n < 4294967296 := by
  have : IntKind.u32.wrap n = n % 4294967296 := rfl
  rw [this]; omega
theorem crcOf_range (l : List UInt8) : 0 ≤ crcOf l ∧ crcOf l < 4294967296 := u32_range _



theorem venc (i : EncI) (h : encC.cnd i) : Venc i := by
  refine ⟨i.v, rfl, h, fun _ _ => Cv.cnd.mk (fun e => ?_) (fun e => ?_)⟩
  · have hn : ¬ VwRight i.v := by simpa [vwRight] using e
    exact ⟨(), by rw [encOut, if_neg hn]; rfl, by rw [encErr, if_neg hn], trivial⟩
  have hr : VwRight i.v := by simpa [vwRight] using e
  have hB : ∀ j, (le i.seq 8 ++ [lob i.v.length] ++ (i.v.take j).flatMap encBoth).length ≤ 3134470 := fun j => by
    have := encTake_len hr j
    simp only [List.length_append, le_len, List.length_cons, List.length_nil]; omega
  refine ⟨(), trivial, fun _ _ => ⟨⟨[], i.seq⟩, rfl, rfl, (show 0 + 8 ≤ 1099511627776 by omega), fun _ _ => ⟨⟨le i.seq 8, i.v.length⟩, by rw [List.length_map], rfl, (show (le i.seq 8).length + 8 ≤ 1099511627776 by rw [le_len]; omega), fun _ _ => ⟨0, rfl, by simp, fun j => j ≤ i.v.length, fun j => i.v.length - j, by dsimp only; omega, fun j hj => cndD (fun hlt => ?_) (fun hlt => ?_)⟩⟩⟩⟩
  · dsimp only at hj
    rw [List.length_map] at hlt ⊢
    obtain ⟨x, hx⟩ := getD (l := i.v) (i := j) (by omega)
    have hm := hr.1 x (List.mem_of_getElem? hx)
    have l1 := hm.1.len
    have l2 := hm.2.len
    have hl := hr.2
    have w1 : IntKind.i64.wrap ((j : Int) + 1) = ((j + 1 : Nat) : Int) := by rw [w64 (by omega)]; rfl
    have hBj := hB j
    have hBs : le i.seq 8 ++ [lob i.v.length] ++ (i.v.take (j + 1)).flatMap encBoth = le i.seq 8 ++ [lob i.v.length] ++ (i.v.take j).flatMap encBoth ++ encBoth x := by
      rw [flat_succ hx]; simp only [List.append_assoc]
    generalize hb : le i.seq 8 ++ [lob i.v.length] ++ (i.v.take j).flatMap encBoth = B at hBj hBs
    -- one side's levels
    have lv : ∀ (C : List UInt8) (l : List Lv) (k : Nat), C.length ≤ 5000000 → l.length ≤ 255 → ((C ++ (l.take k).flatMap encLv).length + 24 ≤ 1099511627776) := fun C l k hC hl => by
      have := encLvs_len (l.take k)
      rw [List.length_append]
      rw [List.length_take] at this
      omega
    have lw : ∀ (k : Nat), k < 255 → IntKind.i64.wrap ((k : Int) + 1) = ((k + 1 : Nat) : Int) := fun k hk => by rw [w64 (by omega)]; rfl
    have le1 := encLvs_len x.1.levels
    have le2 := encLvs_len x.2.levels
    refine ⟨⟨by omega, by omega⟩, _, _, _, _, _, _, _, _, _, _, elAt hx rfl, ⟨B, x.1.levels.length⟩, by rw [List.length_map], rfl, by show B.length + 8 ≤ _; omega, fun _ _ => ⟨(B ++ [lob x.1.levels.length], x.1.levels, 0), rfl, by simp, fun y => ∃ k, k ≤ x.1.levels.length ∧ y = (B ++ [lob x.1.levels.length], x.1.levels, k), fun y => x.1.levels.length - y.2.2, ⟨0, by omega, by (repeat' (first | exact trivial | exact rfl | apply And.intro))⟩, ?_⟩⟩
    rintro _ ⟨k, hk, rfl⟩
    dsimp only
    refine cndD (fun hlt1 => ?_) (fun hlt1 => ?_)
    · rw [List.length_map] at hlt1 ⊢
      obtain ⟨y, hy⟩ := getD (l := x.1.levels) (i := k) (by omega)
      refine ⟨⟨by omega, by omega⟩, _, _, _, elAt hy rfl, ⟨_, y⟩, rfl, rfl, rfl, rfl, lv _ _ _ (by rw [List.length_append]; simp; omega) l1, fun _ _ => ⟨(_, _, k + 1), (lw k (by omega)).symm, ?_, ⟨k + 1, by omega, by (repeat' (first | exact trivial | exact rfl | apply And.intro))⟩, by dsimp only; omega, by (repeat' (first | exact trivial | exact rfl | apply And.intro))⟩⟩
      dsimp only
      rw [flat_succ hy]; simp only [List.append_assoc]
    · rw [List.length_map] at hlt1
      obtain rfl : k = x.1.levels.length := by omega
      rw [List.take_of_length_le (Nat.le_refl _)]
      have e1 : encSd x.1 = [lob x.1.levels.length] ++ x.1.levels.flatMap encLv ++ (if x.1.has then [lob 1] ++ encLv x.1.imp else [lob 0]) := rfl
      have e2 : encSd x.2 = [lob x.2.levels.length] ++ x.2.levels.flatMap encLv ++ (if x.2.has then [lob 1] ++ encLv x.2.imp else [lob 0]) := rfl
      have bl : ∀ C : List UInt8, C = B ++ encSd x.1 → C.length ≤ 4000000 := fun C e => by
        subst e
        have := encSd_len l1
        rw [List.length_append]; omega
      refine Cv.cnd.mk (fun hh => ?_) (fun hh => ?_)
      · have hh : x.1.has = false := by simpa using hh
        rw [hh, if_neg (by simp)] at e1
        refine ⟨⟨B ++ [lob x.1.levels.length] ++ x.1.levels.flatMap encLv, 0⟩, rfl, rfl, (by dsimp only [WN.ok]; simp only [List.length_append, List.length_cons, List.length_nil]; omega), fun _ _ => ?_⟩
        have eC : B ++ [lob x.1.levels.length] ++ x.1.levels.flatMap encLv ++ [lob 0] = B ++ encSd x.1 := by rw [e1]; simp only [List.append_assoc]
        generalize B ++ [lob x.1.levels.length] ++ x.1.levels.flatMap encLv ++ [lob 0] = C at eC
        (
        have hC := bl C eC
        refine ⟨⟨C, x.2.levels.length⟩, by rw [List.length_map], rfl, (show C.length + 8 ≤ 1099511627776 by omega), fun _ _ => ⟨(C ++ [lob x.2.levels.length], x.2.levels, 0), rfl, by simp, fun y => ∃ k, k ≤ x.2.levels.length ∧ y = (C ++ [lob x.2.levels.length], x.2.levels, k), fun y => x.2.levels.length - y.2.2, ⟨0, by omega, by (repeat' (first | exact trivial | exact rfl | apply And.intro))⟩, ?_⟩⟩
        rintro _ ⟨k, hk, rfl⟩
        dsimp only
        refine cndD (fun hlt2 => ?_) (fun hlt2 => ?_)
        · rw [List.length_map] at hlt2 ⊢
          obtain ⟨y, hy⟩ := getD (l := x.2.levels) (i := k) (by omega)
          refine ⟨⟨by omega, by omega⟩, _, _, _, elAt hy rfl, ⟨_, y⟩, rfl, rfl, rfl, rfl, lv _ _ _ (by rw [List.length_append]; simp; omega) l2, fun _ _ => ⟨(_, _, k + 1), (lw k (by omega)).symm, ?_, ⟨k + 1, by omega, by (repeat' (first | exact trivial | exact rfl | apply And.intro))⟩, by dsimp only; omega, by (repeat' (first | exact trivial | exact rfl | apply And.intro))⟩⟩
          dsimp only
          rw [flat_succ hy]; simp only [List.append_assoc]
        · rw [List.length_map] at hlt2
          obtain rfl : k = x.2.levels.length := by omega
          rw [List.take_of_length_le (Nat.le_refl _)]
          refine Cv.cnd.mk (fun hh2 => ?_) (fun hh2 => ?_)
          · have hh2 : x.2.has = false := by simpa using hh2
            rw [hh2, if_neg (by simp)] at e2
            refine ⟨⟨C ++ [lob x.2.levels.length] ++ x.2.levels.flatMap encLv, 0⟩, rfl, rfl, (by dsimp only [WN.ok]; simp only [List.length_append, List.length_cons, List.length_nil]; omega), fun _ _ => ⟨j + 1, w1.symm, ?_, (by omega), (by omega), by (repeat' (first | exact trivial | exact rfl | apply And.intro))⟩⟩
            rw [hBs, encBoth, ← List.append_assoc, ← eC, e2]
            simp only [List.append_assoc]
          · have hh2 : x.2.has = true := by simpa using hh2
            rw [hh2, if_pos rfl] at e2
            refine ⟨⟨C ++ [lob x.2.levels.length] ++ x.2.levels.flatMap encLv, 1⟩, rfl, rfl, (by dsimp only [WN.ok]; simp only [List.length_append, List.length_cons, List.length_nil]; omega), fun _ _ => ⟨⟨_, x.2.imp⟩, rfl, rfl, rfl, rfl, (by simp only [List.length_append, List.length_cons, List.length_nil]; omega), fun _ _ => ⟨j + 1, w1.symm, ?_, (by omega), (by omega), by (repeat' (first | exact trivial | exact rfl | apply And.intro))⟩⟩⟩
            rw [hBs, encBoth, ← List.append_assoc, ← eC, e2]
            simp only [List.append_assoc])
      · have hh : x.1.has = true := by simpa using hh
        rw [hh, if_pos rfl] at e1
        refine ⟨⟨B ++ [lob x.1.levels.length] ++ x.1.levels.flatMap encLv, 1⟩, rfl, rfl, (by dsimp only [WN.ok]; simp only [List.length_append, List.length_cons, List.length_nil]; omega), fun _ _ => ⟨⟨_, x.1.imp⟩, rfl, rfl, rfl, rfl, (by simp only [List.length_append, List.length_cons, List.length_nil]; omega), fun _ _ => ?_⟩⟩
        have eC : B ++ [lob x.1.levels.length] ++ x.1.levels.flatMap encLv ++ [lob 1] ++ encLv x.1.imp = B ++ encSd x.1 := by rw [e1]; simp only [List.append_assoc]
        generalize B ++ [lob x.1.levels.length] ++ x.1.levels.flatMap encLv ++ [lob 1] ++ encLv x.1.imp = C at eC
        (
        have hC := bl C eC
        refine ⟨⟨C, x.2.levels.length⟩, by rw [List.length_map], rfl, (show C.length + 8 ≤ 1099511627776 by omega), fun _ _ => ⟨(C ++ [lob x.2.levels.length], x.2.levels, 0), rfl, by simp, fun y => ∃ k, k ≤ x.2.levels.length ∧ y = (C ++ [lob x.2.levels.length], x.2.levels, k), fun y => x.2.levels.length - y.2.2, ⟨0, by omega, by (repeat' (first | exact trivial | exact rfl | apply And.intro))⟩, ?_⟩⟩
        rintro _ ⟨k, hk, rfl⟩
        dsimp only
        refine cndD (fun hlt2 => ?_) (fun hlt2 => ?_)
        · rw [List.length_map] at hlt2 ⊢
          obtain ⟨y, hy⟩ := getD (l := x.2.levels) (i := k) (by omega)
          refine ⟨⟨by omega, by omega⟩, _, _, _, elAt hy rfl, ⟨_, y⟩, rfl, rfl, rfl, rfl, lv _ _ _ (by rw [List.length_append]; simp; omega) l2, fun _ _ => ⟨(_, _, k + 1), (lw k (by omega)).symm, ?_, ⟨k + 1, by omega, by (repeat' (first | exact trivial | exact rfl | apply And.intro))⟩, by dsimp only; omega, by (repeat' (first | exact trivial | exact rfl | apply And.intro))⟩⟩
          dsimp only
          rw [flat_succ hy]; simp only [List.append_assoc]
        · rw [List.length_map] at hlt2
          obtain rfl : k = x.2.levels.length := by omega
          rw [List.take_of_length_le (Nat.le_refl _)]
          refine Cv.cnd.mk (fun hh2 => ?_) (fun hh2 => ?_)
          · have hh2 : x.2.has = false := by simpa using hh2
            rw [hh2, if_neg (by simp)] at e2
            refine ⟨⟨C ++ [lob x.2.levels.length] ++ x.2.levels.flatMap encLv, 0⟩, rfl, rfl, (by dsimp only [WN.ok]; simp only [List.length_append, List.length_cons, List.length_nil]; omega), fun _ _ => ⟨j + 1, w1.symm, ?_, (by omega), (by omega), by (repeat' (first | exact trivial | exact rfl | apply And.intro))⟩⟩
            rw [hBs, encBoth, ← List.append_assoc, ← eC, e2]
            simp only [List.append_assoc]
          · have hh2 : x.2.has = true := by simpa using hh2
            rw [hh2, if_pos rfl] at e2
            refine ⟨⟨C ++ [lob x.2.levels.length] ++ x.2.levels.flatMap encLv, 1⟩, rfl, rfl, (by dsimp only [WN.ok]; simp only [List.length_append, List.length_cons, List.length_nil]; omega), fun _ _ => ⟨⟨_, x.2.imp⟩, rfl, rfl, rfl, rfl, (by simp only [List.length_append, List.length_cons, List.length_nil]; omega), fun _ _ => ⟨j + 1, w1.symm, ?_, (by omega), (by omega), by (repeat' (first | exact trivial | exact rfl | apply And.intro))⟩⟩⟩
            rw [hBs, encBoth, ← List.append_assoc, ← eC, e2]
            simp only [List.append_assoc])
  · dsimp only at hj
    rw [List.length_map] at hlt
    obtain rfl : j = i.v.length := by omega
    have hBj := hB i.v.length
    rw [List.take_of_length_le (Nat.le_refl _)] at hBj ⊢
    have hc := crcOf_range (encBody i.v i.seq)
    have hl : (encBody i.v i.seq).length ≤ 3134470 := hBj
    have hl2 : (encBody i.v i.seq ++ le (crcOf (encBody i.v i.seq)) 4).length ≤ 1099511627776 := by rw [List.length_append, le_len]; omega
    exact ⟨encBody i.v i.seq, rfl, (by omega), fun _ _ => ⟨encBody i.v i.seq, rfl, (by omega), fun _ _ => ⟨⟨encBody i.v i.seq, _⟩, rfl, rfl, ⟨(by dsimp only; omega), hc.1, hc.2⟩, fun _ _ => ⟨_, rfl, hl2, fun _ _ => ⟨(), by rw [encOut, if_pos hr]; rfl, by rw [encErr, if_pos hr], trivial⟩⟩⟩⟩⟩

theorem enc_ok : encC.ok Try.prog 10 := byenc (gokc rightV_ok (gokc newW_ok (gokc long_ok (gokc byte_ok (gokc putL_ok (gokc done_ok (gokc crc_ok (gokc sum_ok gok0)))))))) venc

end Sx
