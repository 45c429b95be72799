/- The reference's views, and the law's: the conditions hold. -/
import Derived.Test.YtlgpgmafmgmfdaaSyV7
set_option linter.unusedVariables false
set_option linter.unusedSimpArgs false
set_option maxRecDepth 100000
namespace Sx
open Go Cv Go.Proofs
open Classical

theorem llv_ok : llvC.ok Try.prog 55 := byllv gok0 fun i _ => ⟨(), rfl, rfl, rfl, trivial⟩

theorem sameF {v w : Vw} (h : v ≠ w) : sameB v w = false := decide_eq_false h
theorem lvBeq (a b : Lv) : (a.price == b.price && (a.qty == b.qty && (a.count == b.count && true))) = true ↔ a = b := by
  cases a; cases b
  simp
theorem lvEta (l : Lv) : (⟨l.price, l.qty, l.count⟩ : Lv) = l := rfl

theorem lvE_inj {a b : List Lv} (h : a.map lvE = b.map lvE) : a = b :=
  (List.map_inj_right (fun x y h => by
    simp only [lvE, List.cons.injEq, D.v.injEq, Value.int.injEq, true_and, and_true] at h
    cases x; cases y
    simp_all)).1 h

theorem sdEq {a b : Sd} (h1 : a.levels = b.levels) (h2 : a.imp = b.imp) (h3 : a.has = b.has) : a = b := by
  cases a; cases b; simp_all



theorem vsame (i : V2) (h : sameC.cnd i) : Vsame i := by
  obtain ⟨⟨s1, s2⟩, ⟨s3, s4⟩⟩ := h
  unfold Vsame
  rw [List.length_map, List.length_map]
  refine Cv.cnd.mk (fun e => ⟨(), sameF fun hc => by rw [hc] at e; simp at e, trivial⟩) (fun e => ?_)
  have hlen : i.v.length = i.w.length := by
    have e : (i.v.length : Int) = i.w.length := by simpa using e
    omega
  refine ⟨0, rfl, fun j => j ≤ i.v.length ∧ i.v.take j = i.w.take j, fun j => i.v.length - j, ⟨Nat.zero_le _, rfl⟩, fun j hj => cndD (fun hlt => ?_) (fun hlt => ?_)⟩
  · obtain ⟨hj1, hj2⟩ := hj
    obtain ⟨x, hx⟩ := getD (l := i.v) (i := j) (by omega)
    obtain ⟨y, hy⟩ := getD (l := i.w) (i := j) (by omega)
    have hxy : i.v = i.w → x = y := fun hc => by rw [hc, hy] at hx; cases hx; rfl
    have b1 : (0 : Int) ≤ (j : Int) ∧ (j : Int) < (i.v.length : Int) := ⟨by omega, by omega⟩
    have b2 : (0 : Int) ≤ (j : Int) ∧ (j : Int) < (i.w.length : Int) := ⟨by omega, by omega⟩
    refine ⟨⟨x.1, y.1⟩, fun d => d.a = x.1 ∧ d.b = y.1, ⟨b1, _, _, _, _, _, elSub (g := 0) hx (by show 0 + 5 ≤ 10; decide) rfl, b2, _, _, _, _, _, elSub (g := 0) hy (by show 0 + 5 ≤ 10; decide) rfl, ?_⟩, ?_⟩
    · refine ⟨⟨trivial, ⟨b2, rfl⟩, trivial, trivial, ⟨b1, rfl⟩, trivial, trivial, ⟨b2, rfl⟩, trivial, trivial, ⟨b1, rfl⟩, trivial, trivial, ⟨b2, rfl⟩, trivial, ⟨x.1, y.1⟩, rfl, rfl, rfl, rfl, rfl, rfl, rfl, rfl, rfl, rfl, ⟨rfl, rfl⟩, by (repeat' (first | exact trivial | exact rfl | apply And.intro))⟩, ⟨trivial, ⟨b2, rfl⟩, trivial, trivial, ⟨b1, rfl⟩, trivial, trivial, ⟨b2, rfl⟩, trivial, trivial, ⟨b1, rfl⟩, trivial, trivial, ⟨b2, rfl⟩, trivial, ⟨x.1, y.1⟩, rfl, rfl, rfl, rfl, rfl, rfl, rfl, rfl, rfl, rfl, ⟨rfl, rfl⟩, by (repeat' (first | exact trivial | exact rfl | apply And.intro))⟩⟩
    have dif : i.v = i.w → x.1 = y.1 := fun hc => by rw [hxy hc]
    have small := (s2 x (List.mem_of_getElem? hx)).1
    (
      rintro ⟨a, b⟩ ⟨ha, hb⟩
      dsimp only at ha hb ⊢
      refine Cv.cnd.mk (fun e => ⟨(), sameF fun hc => ?_, trivial⟩) (fun e => Cv.cnd.mk (fun e2 => ⟨(), sameF fun hc => ?_, trivial⟩) (fun e2 => Cv.cnd.mk (fun e3 => ⟨(), sameF fun hc => ?_, trivial⟩) (fun e3 => ?_)))
      · have := dif hc; rw [ha, hb, this] at e; simp at e
      · have := dif hc; rw [ha, hb, this] at e2; simp at e2
      · have := dif hc; rw [ha, hb, this] at e3; simp at e3
      have h1 : a.has = b.has := by simpa using e
      have h2 : a.imp = b.imp := by
        rw [← lvBeq]; simpa using e2
      have h3 : a.levels.length = b.levels.length := by
        simp only [List.length_map] at e3
        have e3 : (a.levels.length : Int) = b.levels.length := by simpa using e3
        omega
      have hal : a.levels.length ≤ 1099511627776 := by rw [ha]; exact small
      refine ⟨0, rfl, fun k => k ≤ a.levels.length ∧ a.levels.take k = b.levels.take k, fun k => a.levels.length - k, ⟨Nat.zero_le _, rfl⟩, fun k hk => cndD (fun hlt2 => ?_) (fun hlt2 => ?_)⟩
      · obtain ⟨hk1, hk2⟩ := hk
        rw [List.length_map] at hlt2 ⊢
        obtain ⟨p, hp⟩ := getD (l := a.levels) (i := k) (by omega)
        obtain ⟨q, hq⟩ := getD (l := b.levels) (i := k) (by omega)
        refine ⟨⟨by omega, by omega⟩, p.price, p.qty, p.count, elAt hp rfl, ⟨by omega, by rw [List.length_map]; omega⟩, q.price, q.qty, q.count, elAt hq rfl, Cv.cnd.mk (fun e4 => ⟨(), sameF fun hc => ?_, trivial⟩) (fun e4 => ⟨k + 1, ?_, ⟨by omega, ?_⟩, by (first | omega | (dsimp only; omega)), by (repeat' (first | exact trivial | exact rfl | apply And.intro))⟩)⟩
        · have := dif hc
          rw [← ha, ← hb] at this
          rw [this, hq] at hp
          cases hp
          simp at e4
        · rw [w64 (by omega)]; rfl
        · have : p = q := by rw [← lvBeq]; simpa using e4
          rw [List.take_add_one, List.take_add_one, hk2, hp, hq, this]
      obtain ⟨hk1, hk2⟩ := hk
      rw [List.length_map] at hlt2
      have hl : a.levels = b.levels := by
        have e1 : k = a.levels.length := by omega
        rw [e1, List.take_of_length_le (Nat.le_refl _), List.take_of_length_le (by omega)] at hk2
        exact hk2
      have hab := sdEq hl h2 h1)
    have hab1 : x.1 = y.1 := by rw [← ha, ← hb, hab]
    clear dif small hab hl h1 h2 h3 e2 e3 hal ha hb hk1 hk2 hlt2
    refine ⟨⟨x.2, y.2⟩, fun d => d.a = x.2 ∧ d.b = y.2, ⟨b1, _, _, _, _, _, elSub (g := 5) hx (by show 5 + 5 ≤ 10; decide) rfl, b2, _, _, _, _, _, elSub (g := 5) hy (by show 5 + 5 ≤ 10; decide) rfl, ?_⟩, ?_⟩
    · refine ⟨⟨trivial, ⟨b2, rfl⟩, trivial, trivial, ⟨b1, rfl⟩, trivial, trivial, ⟨b2, rfl⟩, trivial, trivial, ⟨b1, rfl⟩, trivial, trivial, ⟨b2, rfl⟩, trivial, ⟨x.2, y.2⟩, rfl, rfl, rfl, rfl, rfl, rfl, rfl, rfl, rfl, rfl, ⟨rfl, rfl⟩, by (repeat' (first | exact trivial | exact rfl | apply And.intro))⟩, ⟨trivial, ⟨b2, rfl⟩, trivial, trivial, ⟨b1, rfl⟩, trivial, trivial, ⟨b2, rfl⟩, trivial, trivial, ⟨b1, rfl⟩, trivial, trivial, ⟨b2, rfl⟩, trivial, ⟨x.2, y.2⟩, rfl, rfl, rfl, rfl, rfl, rfl, rfl, rfl, rfl, rfl, ⟨rfl, rfl⟩, by (repeat' (first | exact trivial | exact rfl | apply And.intro))⟩⟩
    have dif : i.v = i.w → x.2 = y.2 := fun hc => by rw [hxy hc]
    have small := (s2 x (List.mem_of_getElem? hx)).2
    (
      rintro ⟨a, b⟩ ⟨ha, hb⟩
      dsimp only at ha hb ⊢
      refine Cv.cnd.mk (fun e => ⟨(), sameF fun hc => ?_, trivial⟩) (fun e => Cv.cnd.mk (fun e2 => ⟨(), sameF fun hc => ?_, trivial⟩) (fun e2 => Cv.cnd.mk (fun e3 => ⟨(), sameF fun hc => ?_, trivial⟩) (fun e3 => ?_)))
      · have := dif hc; rw [ha, hb, this] at e; simp at e
      · have := dif hc; rw [ha, hb, this] at e2; simp at e2
      · have := dif hc; rw [ha, hb, this] at e3; simp at e3
      have h1 : a.has = b.has := by simpa using e
      have h2 : a.imp = b.imp := by
        rw [← lvBeq]; simpa using e2
      have h3 : a.levels.length = b.levels.length := by
        simp only [List.length_map] at e3
        have e3 : (a.levels.length : Int) = b.levels.length := by simpa using e3
        omega
      have hal : a.levels.length ≤ 1099511627776 := by rw [ha]; exact small
      refine ⟨0, rfl, fun k => k ≤ a.levels.length ∧ a.levels.take k = b.levels.take k, fun k => a.levels.length - k, ⟨Nat.zero_le _, rfl⟩, fun k hk => cndD (fun hlt2 => ?_) (fun hlt2 => ?_)⟩
      · obtain ⟨hk1, hk2⟩ := hk
        rw [List.length_map] at hlt2 ⊢
        obtain ⟨p, hp⟩ := getD (l := a.levels) (i := k) (by omega)
        obtain ⟨q, hq⟩ := getD (l := b.levels) (i := k) (by omega)
        refine ⟨⟨by omega, by omega⟩, p.price, p.qty, p.count, elAt hp rfl, ⟨by omega, by rw [List.length_map]; omega⟩, q.price, q.qty, q.count, elAt hq rfl, Cv.cnd.mk (fun e4 => ⟨(), sameF fun hc => ?_, trivial⟩) (fun e4 => ⟨k + 1, ?_, ⟨by omega, ?_⟩, by (first | omega | (dsimp only; omega)), by (repeat' (first | exact trivial | exact rfl | apply And.intro))⟩)⟩
        · have := dif hc
          rw [← ha, ← hb] at this
          rw [this, hq] at hp
          cases hp
          simp at e4
        · rw [w64 (by omega)]; rfl
        · have : p = q := by rw [← lvBeq]; simpa using e4
          rw [List.take_add_one, List.take_add_one, hk2, hp, hq, this]
      obtain ⟨hk1, hk2⟩ := hk
      rw [List.length_map] at hlt2
      have hl : a.levels = b.levels := by
        have e1 : k = a.levels.length := by omega
        rw [e1, List.take_of_length_le (Nat.le_refl _), List.take_of_length_le (by omega)] at hk2
        exact hk2
      have hab := sdEq hl h2 h1)
    have hab2 : x.2 = y.2 := by rw [← ha, ← hb, hab]
    refine ⟨j + 1, ?_, ⟨by omega, ?_⟩, by (first | omega | (dsimp only; omega)), by (repeat' (first | exact trivial | exact rfl | apply And.intro))⟩
    · rw [w64 (by omega)]; rfl
    · have : x = y := by cases x; cases y; simp_all
      rw [List.take_add_one, List.take_add_one, hj2, hx, hy, this]
  · obtain ⟨hj1, hj2⟩ := hj
    refine ⟨(), ?_, trivial⟩
    have e1 : j = i.v.length := by omega
    rw [e1, List.take_of_length_le (Nat.le_refl _), List.take_of_length_le (by omega)] at hj2
    exact decide_eq_true hj2
theorem same_ok : sameC.ok Try.prog 60 := bysame gok0 vsame



theorem vin (v : Vw) (h : inC.cnd v) : Vin v := by
  obtain ⟨s1, s2⟩ : VwTiny v := h
  unfold Vin
  refine ⟨0, rfl, rfl, fun j => j ≤ v.length, fun j => v.length - j, Nat.zero_le _, fun j hj => cndD (fun hlt => ?_) (fun hlt => ?_)⟩
  · dsimp only at hj
    rw [List.length_map] at hlt ⊢
    obtain ⟨x, hx⟩ := getD (l := v) (i := j) (by omega)
    obtain ⟨l1, l2⟩ := s2 x (List.mem_of_getElem? hx)
    have b1 : (0 : Int) ≤ (j : Int) ∧ (j : Int) < (v.length : Int) := ⟨by omega, by omega⟩
    refine ⟨b1, _, _, _, _, _, elSub (g := 0) hx (by show 0 + 5 ≤ 10; decide) rfl, x.1.imp, rfl, rfl, rfl, trivial, fun _ _ => ⟨⟨⟨[], x.1.imp, x.1.has⟩, ⟨[], ⟨0, 0, 0⟩, false⟩, 0⟩, rfl, rfl, rfl, rfl, rfl, rfl, rfl, rfl, rfl, rfl, rfl,
      fun d => d.k ≤ x.1.levels.length ∧ d.a = ⟨x.1.levels.take d.k, x.1.imp, x.1.has⟩ ∧ d.b = ⟨[], ⟨0, 0, 0⟩, false⟩, fun d => x.1.levels.length - d.k, ⟨Nat.zero_le _, rfl, rfl⟩, ?_⟩⟩
    rintro ⟨a, b, k⟩ ⟨hk, ha, hb⟩
    dsimp only at hk ha hb ⊢
    refine cndD (fun hlt1 => ?_) (fun hlt1 => ?_)
    · rw [List.length_map] at hlt1 ⊢
      obtain ⟨p, hp⟩ := getD (l := x.1.levels) (i := k) (by omega)
      have hal : a.levels.length ≤ x.1.levels.length := by rw [ha]; simp only [List.length_take]; omega
      refine ⟨⟨by omega, by omega⟩, p.price, p.qty, p.count, elAt hp rfl, p, rfl, rfl, rfl, trivial, fun _ _ => ⟨trivial, trivial, ?_, ⟨⟨a.levels ++ [p], a.imp, a.has⟩, b, k + 1⟩, ?_, rfl, rfl, rfl, rfl, rfl, rfl, rfl, rfl, ?_, rfl, ⟨by (first | omega | (dsimp only; omega)), ?_, hb⟩, by (first | omega | (dsimp only; omega)), by (repeat' (first | exact trivial | exact rfl | apply And.intro))⟩⟩
      · rw [List.length_map]; omega
      · rw [w64 (by omega)]; rfl
      · show List.map lvE (a.levels ++ [p]) = _
        rw [List.map_append]; rfl
      · show (⟨a.levels ++ [p], a.imp, a.has⟩ : Sd) = ⟨x.1.levels.take (k + 1), _, _⟩
        rw [ha, List.take_add_one, hp]; rfl
    have hax : a = x.1 := by
      rw [List.length_map] at hlt1
      rw [ha, List.take_of_length_le (by omega)]
    refine ⟨b1, _, _, _, _, _, elSub (g := 5) hx (by show 5 + 5 ≤ 10; decide) rfl, x.2.imp, rfl, rfl, rfl, trivial, fun _ _ => ⟨⟨a, ⟨[], x.2.imp, x.2.has⟩, 0⟩, rfl, rfl, rfl, rfl, rfl, rfl, rfl, rfl, rfl, rfl, by rw [hb],
      fun d => d.k ≤ x.2.levels.length ∧ d.a = x.1 ∧ d.b = ⟨x.2.levels.take d.k, x.2.imp, x.2.has⟩, fun d => x.2.levels.length - d.k, ⟨Nat.zero_le _, hax, rfl⟩, ?_⟩⟩
    clear hlt1 ha hb hk hax
    rintro ⟨a, b, k⟩ ⟨hk, ha, hb⟩
    dsimp only at hk ha hb ⊢
    refine cndD (fun hlt1 => ?_) (fun hlt1 => ?_)
    · rw [List.length_map] at hlt1 ⊢
      obtain ⟨p, hp⟩ := getD (l := x.2.levels) (i := k) (by omega)
      have hal : b.levels.length ≤ x.2.levels.length := by rw [hb]; simp only [List.length_take]; omega
      refine ⟨⟨by omega, by omega⟩, p.price, p.qty, p.count, elAt hp rfl, p, rfl, rfl, rfl, trivial, fun _ _ => ⟨trivial, trivial, ?_, ⟨a, ⟨b.levels ++ [p], b.imp, b.has⟩, k + 1⟩, ?_, rfl, rfl, rfl, rfl, rfl, rfl, rfl, rfl, rfl, ?_, ⟨by (first | omega | (dsimp only; omega)), ha, ?_⟩, by (first | omega | (dsimp only; omega)), by (repeat' (first | exact trivial | exact rfl | apply And.intro))⟩⟩
      · rw [List.length_map]; omega
      · rw [w64 (by omega)]; rfl
      · show List.map lvE (b.levels ++ [p]) = _
        rw [List.map_append]; rfl
      · show (⟨b.levels ++ [p], b.imp, b.has⟩ : Sd) = ⟨x.2.levels.take (k + 1), _, _⟩
        rw [hb, List.take_add_one, hp]; rfl
    have hbx : b = x.2 := by
      rw [List.length_map] at hlt1
      rw [hb, List.take_of_length_le (by omega)]
    refine ⟨?_, j + 1, ?_, ?_, by (first | omega | (dsimp only; omega)), by (first | omega | (dsimp only; omega)), by (repeat' (first | exact trivial | exact rfl | apply And.intro))⟩
    · rw [List.length_map, List.length_take]; omega
    · rw [w64 (by omega)]; rfl
    · rw [List.take_add_one, hx, List.map_append, ha, hbx]; rfl
  · dsimp only at hj
    rw [List.length_map] at hlt
    refine ⟨(), ?_, trivial⟩
    rw [List.take_of_length_le (by omega)]
theorem in_ok : inC.ok Try.prog 12 := byin (gokc llv_ok gok0) vin

def vBad : Vw := [(⟨[⟨0, 0, 0⟩], ⟨0, 0, 0⟩, false⟩, ⟨[], ⟨0, 0, 0⟩, false⟩)]
theorem vBad_not : ¬ VwRight vBad := fun h => by
  have := ((h.1 _ (List.mem_singleton.2 rfl)).1.1 0 _ rfl).1
  simp at this
theorem right_nil : VwRight [] := ⟨fun b hb => by simp at hb, by simp⟩
theorem known_ok : knownC.ok Try.prog 16 := byknown (gokc enc_ok gok0) fun _ _ => by
  have e0 : encOut [] 7 = encBody [] 7 ++ le (crcOf (encBody [] 7)) 4 := by rw [encOut, if_pos right_nil]
  have l0 : (encOut [] 7).length = 13 := by rw [e0, List.length_append, le_len]; rfl
  have e1 : encErr [] = 0 := by rw [encErr, if_pos right_nil]
  have e2 : encErr vBad = 12 := by rw [encErr, if_neg vBad_not]
  refine ⟨⟨[], 7⟩, rfl, rfl, ⟨by simp, fun b hb => by simp at hb⟩, fun _ _ => ⟨⟨vBad, 7⟩, rfl, rfl, ⟨by simp [vBad], fun b hb => by
    obtain rfl : b = _ := List.mem_singleton.1 hb
    simp⟩, fun _ _ => Cv.cnd.mk (fun _ => Cv.cnd.mk (fun _ => ⟨(), by rw [e2]; rfl, trivial⟩) (fun f => ?_)) (fun f => ?_)⟩⟩
  · dsimp only at f
    rw [e1] at f; cases f
  · dsimp only at f
    rw [bE_len, l0] at f; cases f

theorem le4 {c : Int} (h0 : 0 ≤ c) : bE (le c 4) = [[D.v (Value.int IntKind.u8 (IntKind.u8.wrap c))], [D.v (Value.int IntKind.u8 (IntKind.u8.wrap (iShr IntKind.u32 c 8)))], [D.v (Value.int IntKind.u8 (IntKind.u8.wrap (iShr IntKind.u32 c 16)))], [D.v (Value.int IntKind.u8 (IntKind.u8.wrap (iShr IntKind.u32 c 24)))]] := by
  have s8 : iShr .u32 c 8 = c / 256 := shr_div .u32 c 8 (by decide)
  have s16 : iShr .u32 c 16 = c / 256 / 256 := by
    have : iShr .u32 c 16 = c / 65536 := shr_div .u32 c 16 (by decide)
    rw [this]; omega
  have s24 : iShr .u32 c 24 = c / 256 / 256 / 256 := by
    have : iShr .u32 c 24 = c / 16777216 := shr_div .u32 c 24 (by decide)
    rw [this]; omega
  rw [s8, s16, s24, wrap_u8, wrap_u8, wrap_u8, wrap_u8]
  rfl



theorem vfenc (i : EncI) (h : fencC.cnd i) : Vfenc i := by
  refine ⟨i.v, rfl, h, fun _ _ => Cv.cnd.mk (fun e => ?_) (fun e => ?_)⟩
  · have hn : ¬ VwRight i.v := by simpa [vwRight] using e
    exact ⟨(), by rw [encOut, if_neg hn]; rfl, by rw [encErr, if_neg hn], trivial⟩
  have hr : VwRight i.v := by simpa [vwRight] using e
  have hB : ∀ j, (le i.seq 8 ++ [lob i.v.length] ++ (i.v.take j).flatMap encBoth).length ≤ 3134470 := fun j => by
    have := encTake_len hr j
    simp only [List.length_append, le_len, List.length_cons, List.length_nil]; omega
  refine ⟨⟨[], i.seq⟩, rfl, rfl, (show 0 + 8 ≤ 1099511627776 by omega), fun _ _ => ⟨rfl, trivial, ⟨le i.seq 8, i.v.length⟩, rfl, by rw [List.length_map], (show (le i.seq 8).length + 8 ≤ 1099511627776 by rw [le_len]; omega), fun _ _ => ⟨0, rfl, by simp, fun j => j ≤ i.v.length, fun j => i.v.length - j, Nat.zero_le _, fun j hj => cndD (fun hlt => ?_) (fun hlt => ?_)⟩⟩⟩
  · dsimp only at hj
    rw [List.length_map] at hlt ⊢
    obtain ⟨x, hx⟩ := getD (l := i.v) (i := j) (by omega)
    have hm := hr.1 x (List.mem_of_getElem? hx)
    have l1 := hm.1.len
    have l2 := hm.2.len
    have hl := hr.2
    have w1 : IntKind.i64.wrap ((j : Int) + 1) = ((j + 1 : Nat) : Int) := by rw [w64 (by omega)]; rfl
    have hBj := hB j
    have hBs : le i.seq 8 ++ [lob i.v.length] ++ (i.v.take (j + 1)).flatMap encBoth = le i.seq 8 ++ [lob i.v.length] ++ (i.v.take j).flatMap encBoth ++ encBoth x := by
      rw [flat_succ hx]; simp only [List.append_assoc]
    generalize hb : le i.seq 8 ++ [lob i.v.length] ++ (i.v.take j).flatMap encBoth = B at hBj hBs
    have lv : ∀ (C : List UInt8) (l : List Lv) (k : Nat), C.length ≤ 5000000 → l.length ≤ 255 → ((C ++ (l.take k).flatMap encLv).length + 24 ≤ 1099511627776) := fun C l k hC hl => by
      have := encLvs_len (l.take k)
      rw [List.length_append]
      rw [List.length_take] at this
      omega
    have lw : ∀ (k : Nat), k < 255 → IntKind.i64.wrap ((k : Int) + 1) = ((k + 1 : Nat) : Int) := fun k hk => by rw [w64 (by omega)]; rfl
    have hC : B.length ≤ 4000000 := by omega
    revert hBs
    generalize hBC : B = C at hC
    intro hBs
    (
      have el : ((x.1)).levels.length ≤ 255 := by first | exact l1 | exact l2
      have efl := encLvs_len ((x.1)).levels
      refine ⟨C, rfl, fun l => l = C ++ encSd (x.1), ⟨⟨by omega, by omega⟩, _, _, _, _, _, elSub (g := 0) hx (by show 0 + 5 ≤ 10; decide) rfl, ⟨C, ((x.1)).levels.length⟩, rfl, by rw [List.length_map], (show C.length + 8 ≤ 1099511627776 by omega), fun _ _ => ⟨(C ++ [lob ((x.1)).levels.length], ((x.1)).levels, 0), rfl, by simp, fun y => ∃ k, k ≤ ((x.1)).levels.length ∧ y = (C ++ [lob ((x.1)).levels.length], ((x.1)).levels, k), fun y => ((x.1)).levels.length - y.2.2, ⟨0, by omega, rfl⟩, ?_⟩⟩, ?_⟩
      · rintro _ ⟨k, hk, rfl⟩
        dsimp only
        refine cndD (fun hlt1 => ?_) (fun hlt1 => ?_)
        · rw [List.length_map] at hlt1 ⊢
          obtain ⟨y, hy⟩ := getD (l := ((x.1)).levels) (i := k) (by omega)
          refine ⟨⟨by omega, by omega⟩, _, _, _, elAt hy rfl, ⟨_, y⟩, rfl, rfl, rfl, rfl, lv _ _ _ (by rw [List.length_append]; simp; omega) el, fun _ _ => ⟨(_, _, k + 1), (lw k (by omega)).symm, ?_, ⟨k + 1, by omega, rfl⟩, by (first | omega | (dsimp only; omega)), by (repeat' (first | exact trivial | exact rfl | apply And.intro))⟩⟩
          dsimp only
          rw [flat_succ hy]; simp only [List.append_assoc]
        · rw [List.length_map] at hlt1
          obtain rfl : k = ((x.1)).levels.length := by omega
          rw [List.take_of_length_le (Nat.le_refl _)]
          have e1 : encSd (x.1) = [lob ((x.1)).levels.length] ++ ((x.1)).levels.flatMap encLv ++ (if ((x.1)).has then [lob 1] ++ encLv ((x.1)).imp else [lob 0]) := rfl
          refine Cv.cnd.mk (fun hh => ?_) (fun hh => ?_)
          · rw [hh, if_pos rfl] at e1
            refine ⟨⟨C ++ [lob ((x.1)).levels.length] ++ ((x.1)).levels.flatMap encLv, 1⟩, rfl, rfl, (by dsimp only [WN.ok]; simp only [List.length_append, List.length_cons, List.length_nil]; omega), fun _ _ => ⟨by (repeat' (first | exact trivial | exact rfl | apply And.intro)), ⟨_, ((x.1)).imp⟩, rfl, rfl, rfl, rfl, (by simp only [List.length_append, List.length_cons, List.length_nil]; omega), fun _ _ => ⟨_, rfl, ?_, by (repeat' (first | exact trivial | exact rfl | apply And.intro))⟩⟩⟩
            dsimp only
            rw [e1]; simp only [List.append_assoc]
          · rw [hh, if_neg (by simp)] at e1
            refine ⟨⟨C ++ [lob ((x.1)).levels.length] ++ ((x.1)).levels.flatMap encLv, 0⟩, rfl, rfl, (by dsimp only [WN.ok]; simp only [List.length_append, List.length_cons, List.length_nil]; omega), fun _ _ => ⟨_, rfl, ?_, by (repeat' (first | exact trivial | exact rfl | apply And.intro))⟩⟩
            dsimp only
            rw [e1]; simp only [List.append_assoc])
    intro D hD
    have hE := encSd_len l1
    have hC : D.length ≤ 4000000 := by rw [hD, List.length_append, ← hBC]; omega
    clear lv hb
    have lv : ∀ (C : List UInt8) (l : List Lv) (k : Nat), C.length ≤ 5000000 → l.length ≤ 255 → ((C ++ (l.take k).flatMap encLv).length + 24 ≤ 1099511627776) := fun C l k hC hl => by
      have := encLvs_len (l.take k)
      rw [List.length_append]
      rw [List.length_take] at this
      omega
    have hBs : le i.seq 8 ++ [lob i.v.length] ++ (i.v.take (j + 1)).flatMap encBoth = D ++ encSd x.2 := by
      rw [hBs, hD, encBoth, List.append_assoc]
    clear hD hBC
    rename_i C0
    revert hBs
    generalize D = C at hC
    intro hBs
    (
      have el : ((x.2)).levels.length ≤ 255 := by first | exact l1 | exact l2
      have efl := encLvs_len ((x.2)).levels
      refine ⟨C, rfl, fun l => l = C ++ encSd (x.2), ⟨⟨by omega, by omega⟩, _, _, _, _, _, elSub (g := 5) hx (by show 5 + 5 ≤ 10; decide) rfl, ⟨C, ((x.2)).levels.length⟩, rfl, by rw [List.length_map], (show C.length + 8 ≤ 1099511627776 by omega), fun _ _ => ⟨(C ++ [lob ((x.2)).levels.length], ((x.2)).levels, 0), rfl, by simp, fun y => ∃ k, k ≤ ((x.2)).levels.length ∧ y = (C ++ [lob ((x.2)).levels.length], ((x.2)).levels, k), fun y => ((x.2)).levels.length - y.2.2, ⟨0, by omega, rfl⟩, ?_⟩⟩, ?_⟩
      · rintro _ ⟨k, hk, rfl⟩
        dsimp only
        refine cndD (fun hlt1 => ?_) (fun hlt1 => ?_)
        · rw [List.length_map] at hlt1 ⊢
          obtain ⟨y, hy⟩ := getD (l := ((x.2)).levels) (i := k) (by omega)
          refine ⟨⟨by omega, by omega⟩, _, _, _, elAt hy rfl, ⟨_, y⟩, rfl, rfl, rfl, rfl, lv _ _ _ (by rw [List.length_append]; simp; omega) el, fun _ _ => ⟨(_, _, k + 1), (lw k (by omega)).symm, ?_, ⟨k + 1, by omega, rfl⟩, by (first | omega | (dsimp only; omega)), by (repeat' (first | exact trivial | exact rfl | apply And.intro))⟩⟩
          dsimp only
          rw [flat_succ hy]; simp only [List.append_assoc]
        · rw [List.length_map] at hlt1
          obtain rfl : k = ((x.2)).levels.length := by omega
          rw [List.take_of_length_le (Nat.le_refl _)]
          have e1 : encSd (x.2) = [lob ((x.2)).levels.length] ++ ((x.2)).levels.flatMap encLv ++ (if ((x.2)).has then [lob 1] ++ encLv ((x.2)).imp else [lob 0]) := rfl
          refine Cv.cnd.mk (fun hh => ?_) (fun hh => ?_)
          · rw [hh, if_pos rfl] at e1
            refine ⟨⟨C ++ [lob ((x.2)).levels.length] ++ ((x.2)).levels.flatMap encLv, 1⟩, rfl, rfl, (by dsimp only [WN.ok]; simp only [List.length_append, List.length_cons, List.length_nil]; omega), fun _ _ => ⟨by (repeat' (first | exact trivial | exact rfl | apply And.intro)), ⟨_, ((x.2)).imp⟩, rfl, rfl, rfl, rfl, (by simp only [List.length_append, List.length_cons, List.length_nil]; omega), fun _ _ => ⟨_, rfl, ?_, by (repeat' (first | exact trivial | exact rfl | apply And.intro))⟩⟩⟩
            dsimp only
            rw [e1]; simp only [List.append_assoc]
          · rw [hh, if_neg (by simp)] at e1
            refine ⟨⟨C ++ [lob ((x.2)).levels.length] ++ ((x.2)).levels.flatMap encLv, 0⟩, rfl, rfl, (by dsimp only [WN.ok]; simp only [List.length_append, List.length_cons, List.length_nil]; omega), fun _ _ => ⟨_, rfl, ?_, by (repeat' (first | exact trivial | exact rfl | apply And.intro))⟩⟩
            dsimp only
            rw [e1]; simp only [List.append_assoc])
    rintro _ rfl
    refine ⟨j + 1, w1.symm, by rw [hBs], by (first | omega | (dsimp only; omega)), by (first | omega | (dsimp only; omega)), by (repeat' (first | exact trivial | exact rfl | apply And.intro))⟩
  · dsimp only at hj
    rw [List.length_map] at hlt
    obtain rfl : j = i.v.length := by omega
    have hBj := hB i.v.length
    rw [List.take_of_length_le (Nat.le_refl _)] at hBj ⊢
    have hc := crcOf_range (encBody i.v i.seq)
    have hl : (encBody i.v i.seq).length ≤ 3134470 := hBj
    refine ⟨encBody i.v i.seq, rfl, (by omega), fun _ _ => ⟨by decide, by decide, by decide, by rw [bE_len]; omega, (), ?_, by rw [encErr, if_pos hr], trivial⟩⟩
    rw [encOut, if_pos hr, bE_app, le4 hc.1]
theorem fenc_ok : fencC.ok Try.prog 11 := byfenc (gokc rright_ok (gokc flong_ok (gokc fbyte_ok (gokc flv_ok (gokc fcrcO_ok gok0))))) vfenc

end Sx
