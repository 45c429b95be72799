/- Texts of ours, one behind the other: a walk that the kernel reckons, and contracts of functions. No condition. -/
import Derived.Laws.AppendOwn
import Derived.Lib.AppendZerosOnto
import Derived.Lib.Overlaps
import Derived.Test.YtphifgepggjcnaaM5

namespace Sx
set_option linter.unusedSimpArgs false
set_option linter.unusedVariables false
open Go Go.RowKit Cv

/-! ### Copies -/
theorem run_copyB {P : Program} {dT sT ty e sz by_ : Nat} {z : Array Value} (hi : slInfo P dT = some (e, sz, by_, z)) {w : World} {g o dLen dCap b so sLen sCap n : Nat} {cur src : List Value} {T T' : TypeId} {fr : Nat × Nat}
    (hg : w.heap[g]? = some (.cells cur.toArray T (0, 0))) (hs : w.heap[b]? = some (.cells src.toArray T' fr)) (hn : Nat.min sLen dLen = n) (h1 : so + n * sz ≤ src.length) (h2 : o + n * sz ≤ cur.length)
    (hone : ∀ v ∈ (src.drop so).take (n * sz), v.oneC = true) :
    Runs P (Builtin.copy_ #[dT, sT] ty #[.slice (some ⟨g, o, none⟩) dLen dCap, .slice (some ⟨b, so, none⟩) sLen sCap]) w (.int .i64 n) (World.setB w g (.cells (spl cur o ((src.drop so).take (n * sz))).toArray T (0, 0))) := by
  obtain ⟨i, zv, q1, q2, rfl, rfl, q5, rfl⟩ := slInfo_some hi
  have hl : ((src.drop so).take (n * i.size)).length = n * i.size := by rw [List.length_take, List.length_drop]; omega
  have hst := run_storeCells (P := P) ((src.drop so).take (n * i.size)) 0 o cur w hg (by rw [hl]; omega) hone
  simp only [Nat.add_zero] at hst
  unfold Runs Builtin.copy_
  simp only [List.getElem?_toArray, List.getElem?_cons_zero, List.getElem?_cons_succ, bind, pure, run_bind, Sem.bind, Sem.run, Cv.run_underlying q1, Cv.run_sizeOf q2, Builtin.lenOf, hn, Builtin.firstCells, run_loadCells hs h1, hst]
  rfl

/-! ### Two rows are apart -/
theorem Hp.apart {k : Ko} {w : World} {b c : Nat} {o o' : Obj} {L : List HP} (H : Hp k w (pt b o :: pt c o' :: L)) : b ≠ c := by
  obtain ⟨hk, hs, hh⟩ := H
  cases hh with
  | cons ha hsub hd hr =>
    cases hr with
    | cons hb hsub2 hd2 hr2 =>
      intro e
      subst e
      have := hd _ List.mem_cons_self b
      rw [show _ = one b o from ha, show _ = one b o' from hb] at this
      simp [one] at this

/-! ### The text of slices.Insert -/
def VIns (P : Program) (tS tI sz fO fR : Nat) (s : Option Addr) (sn sk : Nat) (i : Int) (v : Option Addr) (vn vk : Nat) (w : World) (R : Ending → World → Prop) : Prop :=
slN s sn sk (some i) none sz fun a1 na1 ka1 =>
cnd (((vn : Int) : Int) == 0) (
R (.returned (.slice s sn sk)) w) (
cnd ((i : Int) == (sn : Int)) (
∃ (a2 : Option Addr) (na2 ka2 : Nat), ∃ w3 : World, Runs P (Builtin.append_ #[tS, tS] tS #[.slice s sn sk, .slice v vn vk]) w (.slice a2 na2 ka2) w3 ∧
R (.returned (.slice a2 na2 ka2)) w3) (
cnd (decide ((IntKind.i64.wrap ((sn : Int) + (vn : Int)) : Int) > (sk : Int))) (
slN s sn sk none (some i) sz fun a4 na4 ka4 =>
∃ (a5 : Option Addr) (na5 ka5 : Nat), ∃ w6 : World, Runs P (Builtin.append_ #[tS, tI] tS #[.slice a4 na4 ka4, .int .i64 (IntKind.i64.wrap (IntKind.i64.wrap ((sn : Int) + (vn : Int)) - i))]) w (.slice a5 na5 ka5) w6 ∧
slN a5 na5 ka5 (some i) none sz fun a7 na7 ka7 =>
∃ x8 : Int, ∃ w9 : World, Runs P (Builtin.copy_ #[tS, tS] tI #[.slice a7 na7 ka7, .slice v vn vk]) w6 (.int .i64 x8) w9 ∧
DrewN w9 fun w10 =>
slN a5 na5 ka5 (some (IntKind.i64.wrap (i + (vn : Int)))) none sz fun a11 na11 ka11 =>
slN s sn sk (some i) none sz fun a12 na12 ka12 =>
∃ x13 : Int, ∃ w14 : World, Runs P (Builtin.copy_ #[tS, tS] tI #[.slice a11 na11 ka11, .slice a12 na12 ka12]) w10 (.int .i64 x13) w14 ∧
R (.returned (.slice a5 na5 ka5)) w14) (
slN s sn sk none (some (IntKind.i64.wrap ((sn : Int) + (vn : Int)))) sz fun a15 na15 ka15 =>
slN a15 na15 ka15 (some (IntKind.i64.wrap (i + (vn : Int)))) none sz fun a16 na16 ka16 =>
∃ c17 : Bool, ∃ w18 : World, Cv.Ext P fO #[.slice v vn vk, .slice a16 na16 ka16] w (.bool c17) w18 ∧
cnd (!c17) (
DrewN w18 fun w19 =>
slN a15 na15 ka15 (some (IntKind.i64.wrap (i + (vn : Int)))) none sz fun a20 na20 ka20 =>
slN a15 na15 ka15 (some i) none sz fun a21 na21 ka21 =>
∃ x22 : Int, ∃ w23 : World, Runs P (Builtin.copy_ #[tS, tS] tI #[.slice a20 na20 ka20, .slice a21 na21 ka21]) w19 (.int .i64 x22) w23 ∧
slN a15 na15 ka15 (some i) none sz fun a24 na24 ka24 =>
∃ x25 : Int, ∃ w26 : World, Runs P (Builtin.copy_ #[tS, tS] tI #[.slice a24 na24 ka24, .slice v vn vk]) w23 (.int .i64 x25) w26 ∧
R (.returned (.slice a15 na15 ka15)) w26) (
slN a15 na15 ka15 (some (sn : Int)) none sz fun a27 na27 ka27 =>
∃ x28 : Int, ∃ w29 : World, Runs P (Builtin.copy_ #[tS, tS] tI #[.slice a27 na27 ka27, .slice v vn vk]) w18 (.int .i64 x28) w29 ∧
slN a15 na15 ka15 (some i) none sz fun a30 na30 ka30 =>
Calls P fR #[.slice a30 na30 ka30, .int .i64 (vn : Int)] w29 fun e32 w31 => e32 = .returned (.tuple #[]) ∧
R (.returned (.slice a15 na15 ka15)) w31))))

/-- Cells taken over: into the middle, then the new ones ahead. -/
theorem ins_cells {α : Type} {l m : Nat} {xs r ys : List α} (hl : l ≤ xs.length) (hy : ys.length = m) (hr : m ≤ r.length) :
    ((xs ++ r).take (l + m) ++ xs.drop l ++ (xs ++ r).drop (l + m + (xs.drop l).length)).take l ++ ys ++ ((xs ++ r).take (l + m) ++ xs.drop l ++ (xs ++ r).drop (l + m + (xs.drop l).length)).drop (l + ys.length) = (xs.take l ++ ys ++ xs.drop l) ++ r.drop m := by
  have e1 : (xs ++ r).drop (l + m + (xs.drop l).length) = r.drop m := by
    rw [List.length_drop, show l + m + (xs.length - l) = xs.length + m by omega, List.drop_append]
    simp
  have e2 : ((xs ++ r).take (l + m) ++ xs.drop l ++ r.drop m).take l = xs.take l := by
    rw [List.append_assoc, List.take_append_of_le_length (by rw [List.length_take, List.length_append]; omega), List.take_take, Nat.min_eq_left (by omega), List.take_append_of_le_length hl]
  have e3 : ((xs ++ r).take (l + m) ++ xs.drop l ++ r.drop m).drop (l + ys.length) = xs.drop l ++ r.drop m := by
    have : ((xs ++ r).take (l + m)).length = l + m := by rw [List.length_take, List.length_append]; omega
    rw [List.append_assoc, hy, List.drop_append, this, Nat.sub_self, List.drop_zero, List.drop_eq_nil_of_le (by omega), List.nil_append]
  rw [e1, e2, e3]
  simp

theorem spl_app (A Z Y : List Value) : spl (A ++ Z) A.length Y = A ++ Y ++ Z.drop Y.length := by
  simp only [spl]
  rw [List.take_left, List.drop_append]
  simp

theorem add_at {b o n c i : Nat} (h : c ≠ i) : (if c = i then (some ⟨b, o, none⟩ : Option Addr) else (some ⟨b, o, none⟩ : Option Addr).map (·.add n)) = some ⟨b, o + n, none⟩ := by
  rw [if_neg h, Option.map_some, add_mk]

/-- What slices.Insert asks of the library's own 'overlaps'. -/
def OvApart (P : Program) (fO : Nat) : Prop := ∀ (w : World) (va sb so la ca lb cb : Nat) (c c' : Array Value) (T T' : TypeId), va ≠ sb → w.heap[va]? = some (.cells c T (0, 0)) → w.heap[sb]? = some (.cells c' T' (0, 0)) → c'.size ≠ 0 →
  Cv.Ext P fO #[.slice (some ⟨va, 0, none⟩) la ca, .slice (some ⟨sb, so, none⟩) lb cb] w (.bool false) w

theorem ovApart {P : Program} {fO tS tB e sz by_ : Nat} {z : Array Value} {fn : Func} (hf : P.funcs[fO]? = some fn) (hname : (fn.name == "runtime.NumGoroutine") = false) (hb : fn.body.isNone = true) (hn : Extern.findNext fn = none) (he : Extern.find fn = some (Extern.SlicesOverlaps.overlaps #[tS, tS] #[tB]))
    (hi : slInfo P tS = some (e, sz, by_, z)) : OvApart P fO := by
  obtain ⟨i, zv, q1, q2, rfl, rfl, q5, rfl⟩ := slInfo_some hi
  intro w va sb so la ca lb cb c c' T T' hne h1 h2 h3
  unfold Cv.Ext
  rw [run_callFunc_extern hf hname hb hn he, Lib.run_overlaps_apart w tS tB e q1 i.size (fun w => Cv.run_sizeOf q2 w) ⟨va, 0, none⟩ ⟨sb, so, none⟩ la ca lb cb hne T T' c.size c'.size (by simp [World.shape?, h1]) (by simp [World.shape?, h2]) h3 (by simp [World.frozen?, h1]) (by simp [World.frozen?, h1])]
  rfl

theorem vins {P : Program} {tS tI e sz by_ fO fR : Nat} {z : Array Value} (hi : slInfo P tS = some (e, sz, by_, z)) (hz : z.size = sz) (hby : 0 < by_) (hsz : 0 < sz) (h2 : srcT P tS = true) (hti : P.underlying tI = some (.int .i64)) (hov : OvApart P fO)
    {k : Ko} {w : World} {L : List HP} {s v : Option Addr} {sn sk vn vk i : Nat} {xs ys : List Value} (H : Hp k w (slO e sz s sn sk xs :: slO e sz v vn vk ys :: L)) (h1 : ∀ u ∈ xs, u.oneC = true) (hy : ∀ u ∈ ys, u.oneC = true) (hin : i ≤ sn) (hv : 0 < vn)
    (hb : (sn + vn) * by_ ≤ 70368744177664) :
    VIns P tS tI sz fO fR s sn sk i v vn vk w fun en w' => ∃ a kk, en = .returned (.slice a (sn + vn) kk) ∧ Hp k w' (slO e sz a (sn + vn) kk (xs.take (i * sz) ++ ys ++ xs.drop (i * sz)) :: slO e sz v vn vk ys :: L) := by
  obtain ⟨hxl, hnk⟩ := H.len
  obtain ⟨hyl, hvk⟩ := H.swap.len
  have hnm : sn + vn ≤ 70368744177664 := Nat.le_trans (Nat.le_mul_of_pos_right _ hby) hb
  have w1 : IntKind.i64.wrap ((sn : Int) + (vn : Int)) = ((sn + vn : Nat) : Int) := by rw [Cv.wrap_i64 (by omega) (by omega)]; simp
  have w2 : IntKind.i64.wrap ((i : Int) + (vn : Int)) = ((i + vn : Nat) : Int) := by rw [Cv.wrap_i64 (by omega) (by omega)]; simp
  have w3 : IntKind.i64.wrap (((sn + vn : Nat) : Int) - (i : Int)) = ((sn + vn - i : Nat) : Int) := by rw [Cv.wrap_i64 (by omega) (by omega)]; omega
  have hle : i * sz ≤ xs.length := by rw [hxl]; exact Nat.mul_le_mul_right _ hin
  have htl : (xs.take (i * sz)).length = i * sz := by rw [List.length_take]; omega
  have hdl : (xs.drop (i * sz)).length = (sn - i) * sz := by rw [List.length_drop, hxl, Nat.sub_mul]
  have hsum : (i + vn) * sz = i * sz + vn * sz := Nat.add_mul _ _ _
  have hsum2 : (sn + vn) * sz = i * sz + vn * sz + (sn - i) * sz := by rw [← Nat.add_mul, ← Nat.add_mul]; congr 1; omega
  have hfin : (xs.take (i * sz) ++ ys ++ xs.drop (i * sz)).length = (sn + vn) * sz := by
    rw [List.length_append, List.length_append, htl, hyl, hdl, hsum2]
  unfold VIns
  simp only [slN, w1, w2, w3, Int.toNat_natCast]
  refine ⟨⟨by omega, by omega, hnk⟩, Cv.cnd.mk (fun c => absurd c (by simp; omega)) fun _ => Cv.cnd.mk (fun c => ?_) fun c => Cv.cnd.mk (fun hc => ?_) fun hc => ?_⟩
  · have c : i = sn := by have : (i : Int) = (sn : Int) := by simpa using c
                          omega
    subst c
    obtain ⟨a', c', w', r1, r2⟩ := H.append (rt := tS) hi h2 (x := .slice v vn vk) (m := vn) (ys := ys) (.inl ⟨v, vk, rfl, H.swap.satR⟩) hy hz hby hb
    refine ⟨a', _, c', w', r1, a', c', rfl, ?_⟩
    rw [List.take_of_length_le (by omega), List.drop_eq_nil_of_le (by omega), List.append_nil]
    exact r2
  · have c : i < sn := by have : ¬ (i : Int) = (sn : Int) := by simpa using c
                          omega
    have hc : sk < sn + vn := by have := of_decide_eq_true hc; omega
    obtain ⟨inf, zv, q1, q2, q3, q4, q5, q6⟩ := slInfo_some hi
    subst q3 q4 q6
    rcases H.slcases with ⟨_, e0, _⟩ | ⟨b, r, rfl, g1, g2, g3, H0⟩
    · omega
    rcases H0.swap.slcases with ⟨_, e0, _⟩ | ⟨vb, rv, rfl, g4, g5, g6, H1⟩
    · omega
    have hold : (Builtin.firstCells inf.size i (.slice (some ⟨b, 0, none⟩) i sk)).run P w.drew = .ok (xs.take (i * inf.size)).toArray w.drew := by
      have hbk := (H1.drew).swap.get
      have := run_loadCells (P := P) (o := 0) (n := i * inf.size) hbk (by rw [List.length_append]; omega)
      unfold Builtin.firstCells
      rw [this, List.drop_zero, List.take_append_of_le_length hle]
    have hfit2 := nextcap_le (need := sn + vn) (cap := sk) (by omega)
    have hfit3 := Nat.mul_le_mul_right inf.bytes hfit2
    have e2 : 2 * (sn + vn) * inf.bytes = 2 * ((sn + vn) * inf.bytes) := by rw [Nat.mul_assoc]
    have hkb : (sn + vn - i) * inf.bytes ≤ (sn + vn) * inf.bytes := Nat.mul_le_mul_right _ (by omega)
    have hgr := Lib.run_append_grow_zeros (P := P) w tS tI tS e inf zv .i64 .i64 q1 hti q2 q5 (some ⟨b, 0, none⟩) i sk (xs.take (i * inf.size)) hold (sn + vn - i) (by omega) hsz (by omega) (by omega) (by omega) (by rw [show i + (sn + vn - i) = sn + vn by omega]; omega)
    rw [show i + (sn + vn - i) = sn + vn by omega] at hgr
    have hG : sn + vn ≤ grownCap w (sn + vn) sk e := grownCap_ge w (sn + vn) sk e
    generalize grownCap w (sn + vn) sk e = G at hgr hG
    have harr : (xs.take (i * inf.size)).toArray ++ Builtin.zeroCells zv.cells (sn + vn - i) ++ Builtin.zeroCells zv.cells (G - (sn + vn)) = (xs.take (i * inf.size) ++ ((Builtin.zeroCells zv.cells (sn + vn - i)).toList ++ (Builtin.zeroCells zv.cells (G - (sn + vn))).toList)).toArray := by
      apply Array.ext'; simp
    rw [harr] at hgr
    have hZl : ((Builtin.zeroCells zv.cells (sn + vn - i)).toList ++ (Builtin.zeroCells zv.cells (G - (sn + vn))).toList).length = (sn + vn - i) * inf.size + (G - (sn + vn)) * inf.size := by
      rw [List.length_append, Array.length_toList, Array.length_toList, size_zeroCells, size_zeroCells, hz]
    generalize (Builtin.zeroCells zv.cells (sn + vn - i)).toList ++ (Builtin.zeroCells zv.cells (G - (sn + vn))).toList = Z at hgr hZl
    have hZ2 : (sn + vn - i) * inf.size = vn * inf.size + (sn - i) * inf.size := by rw [← Nat.add_mul]; congr 1; omega
    have H2 := (H1.drew).new (.cells (xs.take (i * inf.size) ++ Z).toArray e)
    have hB : w.drew.heap.size = w.heap.size := rfl
    rw [hB] at H2
    have hc1 := run_copyB (P := P) (sT := tS) (ty := tI) hi (g := w.heap.size) (o := 0 + i * inf.size) (dLen := sn + vn - i) (dCap := G - i) (b := vb) (so := 0) (sLen := vn) (sCap := vk) (n := vn) H2.get H2.swap.get (Nat.min_eq_left (by omega)) (by rw [List.length_append]; omega) (by rw [List.length_append, htl, hZl]; omega) (by
      rw [List.drop_zero, List.take_append_of_le_length (by omega), List.take_of_length_le (by omega)]; exact hy)
    rw [List.drop_zero, List.take_append_of_le_length (by omega), List.take_of_length_le (show ys.length ≤ vn * inf.size by omega), Nat.zero_add] at hc1
    have es1 : spl (xs.take (i * inf.size) ++ Z) (i * inf.size) ys = xs.take (i * inf.size) ++ ys ++ Z.drop ys.length := by
      have := spl_app (xs.take (i * inf.size)) Z ys
      rwa [htl] at this
    rw [es1] at hc1
    have H3 := (H2.upd (.cells (xs.take (i * inf.size) ++ ys ++ Z.drop ys.length).toArray e)).drew
    have hg4 : (xs ++ r).drop (i * inf.size) = xs.drop (i * inf.size) ++ r := List.drop_append_of_le_length hle
    have hc2 := run_copyB (P := P) (sT := tS) (ty := tI) hi (g := w.heap.size) (o := 0 + (i + vn) * inf.size) (dLen := sn + vn - (i + vn)) (dCap := G - (i + vn)) (b := b) (so := 0 + i * inf.size) (sLen := sn - i) (sCap := sk - i) (n := sn - i) H3.get H3.swap.drop.swap.get (Nat.min_eq_left (by omega)) (by rw [List.length_append, hxl, Nat.zero_add, ← Nat.add_mul]; exact Nat.le_trans (Nat.mul_le_mul_right _ (by omega)) (Nat.le_add_right _ _)) (by
      rw [List.length_append, List.length_append, htl, hyl, List.length_drop, hZl]; omega) (by
      rw [Nat.zero_add, hg4, List.take_append_of_le_length (by omega), List.take_of_length_le (by omega)]
      exact fun u hu => h1 u (List.mem_of_mem_drop hu))
    rw [Nat.zero_add, Nat.zero_add, hg4, List.take_append_of_le_length (by omega), List.take_of_length_le (show (xs.drop (i * inf.size)).length ≤ (sn - i) * inf.size by omega)] at hc2
    have es2 : spl (xs.take (i * inf.size) ++ ys ++ Z.drop ys.length) ((i + vn) * inf.size) (xs.drop (i * inf.size)) = xs.take (i * inf.size) ++ ys ++ xs.drop (i * inf.size) ++ (Z.drop ys.length).drop (xs.drop (i * inf.size)).length := by
      have := spl_app (xs.take (i * inf.size) ++ ys) (Z.drop ys.length) (xs.drop (i * inf.size))
      rwa [show (xs.take (i * inf.size) ++ ys).length = (i + vn) * inf.size by rw [List.length_append, htl, hyl, hsum]] at this
    rw [es2] at hc2
    refine ⟨⟨by omega, by omega⟩, _, _, _, _, hgr, ?_⟩
    rw [add_at (show G ≠ i by omega), Nat.zero_add]
    refine ⟨⟨by omega, by omega, hG⟩, _, _, hc1, ?_⟩
    rintro _ rfl
    rw [add_at (show G ≠ i + vn by omega), add_at (show sk ≠ i by omega), Nat.zero_add, Nat.zero_add]
    refine ⟨⟨by omega, by omega, hG⟩, ⟨by omega, by omega, hnk⟩, _, _, hc2, _, _, rfl, ?_⟩
    have H4 := H3.upd (.cells (xs.take (i * inf.size) ++ ys ++ xs.drop (i * inf.size) ++ (Z.drop ys.length).drop (xs.drop (i * inf.size)).length).toArray e)
    have H5 := H4.slmk (n := sn + vn) (c := G) (sz := inf.size) hfin (by
      rw [List.length_append, hfin, List.length_drop, List.length_drop, hZl, hyl, hdl]
      have : G * inf.size = (sn + vn) * inf.size + (G - (sn + vn)) * inf.size := by rw [← Nat.add_mul]; congr 1; omega
      omega) hG
    have H6 := H5.swap.slmk (n := vn) (c := vk) (sz := inf.size) g4 g5 g6
    exact (H6.swap.perm (List.Perm.trans ((List.Perm.swap _ _ _).cons _) (List.Perm.swap _ _ _))).drop
  · have c : i < sn := by have : ¬ (i : Int) = (sn : Int) := by simpa using c
                          omega
    have hc : sn + vn ≤ sk := by have := of_decide_eq_false hc; omega
    rcases H.slcases with ⟨_, e0, _⟩ | ⟨b, r, rfl, g1, g2, g3, H0⟩
    · omega
    rcases H0.swap.slcases with ⟨_, e0, _⟩ | ⟨vb, rv, rfl, g4, g5, g6, H1⟩
    · omega
    have hrl : vn * sz ≤ r.length := by
      have e1 : (sn + vn) * sz ≤ sk * sz := Nat.mul_le_mul_right _ hc
      rw [List.length_append, g1] at g2
      rw [Nat.add_mul] at e1
      omega
    have H2 := H1.swap
    have hne : vb ≠ b := Hp.apart H1
    have hg4 : (xs ++ r).drop (i * sz) = xs.drop (i * sz) ++ r := List.drop_append_of_le_length hle
    have hex := hov w vb b (0 + (i + vn) * sz) vn vk (sn + vn - (i + vn)) (sk - (i + vn)) (ys ++ rv).toArray (xs ++ r).toArray e e hne H1.get H2.get (by
      rw [List.size_toArray, List.length_append, g1]
      have := Nat.mul_pos (show 0 < sn by omega) hsz
      omega)
    have H3 := H2.drew
    have hc1 := run_copyB (P := P) (sT := tS) (ty := tI) hi (g := b) (o := 0 + (i + vn) * sz) (dLen := sn + vn - (i + vn)) (dCap := sk - (i + vn)) (b := b) (so := 0 + i * sz) (sLen := sn + vn - i) (sCap := sk - i) (n := sn - i) H3.get H3.get (by rw [show sn + vn - (i + vn) = sn - i by omega]; exact Nat.min_eq_right (by omega)) (by
      rw [List.length_append, g1, Nat.zero_add, ← Nat.add_mul]; exact Nat.le_trans (Nat.mul_le_mul_right _ (by omega)) (Nat.le_add_right _ _)) (by
      rw [List.length_append, g1, Nat.zero_add, ← Nat.add_mul, show i + vn + (sn - i) = sn + vn by omega, Nat.add_mul]; omega) (by
      rw [Nat.zero_add, hg4, List.take_append_of_le_length (by omega), List.take_of_length_le (by omega)]
      exact fun u hu => h1 u (List.mem_of_mem_drop hu))
    rw [Nat.zero_add, Nat.zero_add, hg4, List.take_append_of_le_length (by omega), List.take_of_length_le (show (xs.drop (i * sz)).length ≤ (sn - i) * sz by omega)] at hc1
    have H4 := H3.upd (.cells (spl (xs ++ r) ((i + vn) * sz) (xs.drop (i * sz))).toArray e)
    have hcl : (spl (xs ++ r) ((i + vn) * sz) (xs.drop (i * sz))).length = (xs ++ r).length := by
      simp only [spl, List.length_append, List.length_take, hdl]
      rw [List.length_drop, List.length_append, g1, hsum]
      have : sn * sz = i * sz + (sn - i) * sz := by rw [← Nat.add_mul]; congr 1; omega
      omega
    have hc2 := run_copyB (P := P) (sT := tS) (ty := tI) hi (g := b) (o := 0 + i * sz) (dLen := sn + vn - i) (dCap := sk - i) (b := vb) (so := 0) (sLen := vn) (sCap := vk) (n := vn) H4.get H4.swap.get (Nat.min_eq_left (by omega)) (by rw [List.length_append]; omega) (by
      rw [hcl, List.length_append, Nat.zero_add]; omega) (by
      rw [List.drop_zero, List.take_append_of_le_length (by omega), List.take_of_length_le (by omega)]; exact hy)
    rw [List.drop_zero, List.take_append_of_le_length (by omega), List.take_of_length_le (show ys.length ≤ vn * sz by omega), Nat.zero_add] at hc2
    have es : spl (spl (xs ++ r) ((i + vn) * sz) (xs.drop (i * sz))) (i * sz) ys = (xs.take (i * sz) ++ ys ++ xs.drop (i * sz)) ++ r.drop (vn * sz) := by
      have := ins_cells (l := i * sz) (m := vn * sz) (xs := xs) (r := r) (ys := ys) hle hyl hrl
      simp only [spl, hsum]
      exact this
    rw [es] at hc2
    refine ⟨⟨by omega, by omega⟩, ⟨by omega, by omega, by omega⟩, false, w, ?_, Cv.cnd.mk (fun _ => ?_) (fun c => absurd c (by decide))⟩
    · rw [add_at (show sk ≠ i + vn by omega)]; exact hex
    rintro _ rfl
    rw [add_at (show sk ≠ i + vn by omega), add_at (show sk ≠ i by omega), Nat.zero_add, Nat.zero_add]
    refine ⟨⟨by omega, by omega, by omega⟩, ⟨by omega, by omega, by omega⟩, _, _, hc1, ⟨by omega, by omega, by omega⟩, _, _, hc2, _, _, rfl, ?_⟩
    have H5 := H4.upd (.cells (xs.take (i * sz) ++ ys ++ xs.drop (i * sz) ++ r.drop (vn * sz)).toArray e)
    have H6 := H5.slmk (n := sn + vn) (c := sk) (sz := sz) hfin (by
      rw [List.length_append, hfin, List.length_drop, ← g2, List.length_append, g1, Nat.add_mul]
      omega) hc
    exact (H6.swap.slmk (n := vn) (c := vk) (sz := sz) g4 g5 g6).swap

/-! ### The contract -/
structure InsI where
  els : List (List D)
  el : List D
  i : Nat
def insX (e sz by_ : Nat) : Con where
  ι := InsI
  pat := fun i => [.own 0, .d (.v (.int .i64 i.i)), .own 1]
  pre := fun i => [.own e sz i.els, .own e sz [i.el]]
  cnd := fun i => i.i ≤ i.els.length ∧ (i.els.length + 1) * by_ ≤ 70368744177664
  alts := fun i => [{ o := Unit, res := fun _ => .own 2, post := fun _ => [.gone, .gone, .own e sz (i.els.take i.i ++ i.el :: i.els.drop i.i)], rel := fun _ => True }]

theorem insX_ok {P : Program} (hm : P.follows .mixedOrders = true) {tS tI e sz by_ fI fO fR : Nat} {z : Array Value} {fn : Func} {c : Code} (hf : P.funcs[fI]? = some fn) (hb : fn.body = some c) (hbd : hasBody P fI = true) (hok : okC fn.ntmps c = true) (hfx : okF [] c = true) (hsz3 : Nat.ble 3 fn.ntmps = true)
    (hi : slInfo P tS = some (e, sz, by_, z)) (hz : z.size = sz) (hby : 0 < by_) (hsz : 0 < sz) (h2 : srcT P tS = true) (hti : P.underlying tI = some (.int .i64)) (hov : OvApart P fO)
    (heq : ∀ (s : Option Addr) (sn sk : Nat) (i : Int) (v : Option Addr) (vn vk : Nat) (w : World) (R : Ending → World → Prop), VIns P tS tI sz fO fR s sn sk i v vn vk w R = cwp P [] c (fnPost P fn R) (initEnv [.slice s sn sk, .int .i64 i, .slice v vn vk]) w) :
    (insX e sz by_).ok P fI := by
  intro i hc k L E w ys R hv
  obtain ⟨c1, c2⟩ : i.i ≤ i.els.length ∧ (i.els.length + 1) * by_ ≤ 70368744177664 := hc
  simp only [insX, VRL, VR, DR] at hv
  obtain ⟨y0, _, rfl, ⟨l0, e0, _⟩, y1, _, rfl, ⟨rfl, _⟩, y2, _, rfl, ⟨l2, e2, _⟩, rfl⟩ := hv
  obtain ⟨s, sk, xs, sub0, g1, hxs, hu, H⟩ := R.ownOpen (n := 0) (t := e) (sz := sz) (els := i.els) rfl
  rw [e0] at g1; cases g1
  have hk2 : ∃ v vk zs, y2 = .slice v 1 vk ∧ DRL E.F i.el zs ∧ i.el.length = sz ∧ Hp k w (slO e sz s i.els.length sk xs :: slO e sz v 1 vk zs :: fz E.F :: L) := by
    obtain ⟨hk, hs, hh⟩ := H
    cases hh with
    | cons ha hsub hd hr =>
      simp only [insX, rowsOf, rdel, List.map_cons, List.map_nil, List.cons_append, List.nil_append] at hr
      cases hr with
      | cons hb2 hsub2 hd2 hr2 =>
        rcases hb2 with ⟨q, _⟩ | ⟨⟨hv2, sub2⟩, q1, q2⟩
        · cases q
        · simp only at q1
          rw [e2] at q1; cases q1
          simp only [rowHP] at q2
          obtain ⟨a, kk, zs, rfl, q3, q4, q5⟩ := q2
          simp only [List.flatten_cons, List.flatten_nil, List.append_nil] at q3
          exact ⟨a, kk, zs, rfl, q3, q4 _ List.mem_cons_self, hk, _, .cons ha hsub hd (.cons q5 hsub2 hd2 hr2)⟩
  obtain ⟨v, vk, zs, rfl, hzs, hel, H2⟩ := hk2
  have hv := vins (fR := fR) (fO := fO) hi hz hby hsz h2 hti hov (i := i.i) H2 hxs.one hzs.one c1 (by omega) c2
  have hcall := calls_of_vc (args := [.slice s i.els.length sk, .int .i64 i.i, .slice v 1 vk]) hm hf hb [] hok hfx hsz3 (heq s i.els.length sk i.i v 1 vk w _) hv
  refine does_call' hbd (hcall.mono ?_)
  rintro en w' ⟨a, kk, rfl, H3⟩
  have H4 : Hp k w' (slO e sz a (i.els.take i.i ++ i.el :: i.els.drop i.i).length kk (xs.take (i.i * sz) ++ zs ++ xs.drop (i.i * sz)) :: (([] : List (Nat × AObj)).map (rHP E) ++ fz E.F :: L)) := by
    have : (i.els.take i.i ++ i.el :: i.els.drop i.i).length = i.els.length + 1 := by
      rw [List.length_append, List.length_cons, List.length_take, List.length_drop]; omega
    rw [this]
    exact H3.swap.drop
  obtain ⟨E', r1, r2, r3⟩ := ownClose (nx := 2) R.nx (by
    rw [List.flatten_append, List.flatten_cons, ← flat_take i.i hu, ← flat_drop i.i hu, ← List.append_assoc]
    exact ((hxs.take _).append hzs).append (hxs.drop _)) (fun x hx => by
      rcases List.mem_append.1 hx with hx | hx
      · exact hu x (List.mem_of_mem_take hx)
      · rcases List.mem_cons.1 hx with rfl | hx
        · exact hel
        · exact hu x (List.mem_of_mem_drop hx)) H4
  have hl : (i.els.take i.i ++ i.el :: i.els.drop i.i).length = i.els.length + 1 := by
    rw [List.length_append, List.length_cons, List.length_take, List.length_drop]; omega
  rw [hl] at r3
  refine ⟨_, rfl, _, List.mem_singleton.2 rfl, (), trivial, E', r1, r3, ⟨r2.nx, ?_⟩⟩
  have q1 := ((@hp_pure k w' True _).2 ⟨trivial, r2.hp⟩).imp (B := rHP E' (1, .gone)) fun x hx => .inl ⟨rfl, hx.2⟩
  have q2 := ((@hp_pure k w' True _).2 ⟨trivial, q1⟩).imp (B := rHP E' (0, .gone)) fun x hx => .inl ⟨rfl, hx.2⟩
  exact q2

end Sx

namespace Sx
set_option linter.unusedVariables false
set_option maxRecDepth 100000
open Go Cv Go.Proofs

def bbetterC : Con := con1 I3' (fun i => [i64V i.side, i64V i.x, i64V i.y]) (fun _ => []) (fun _ => True) (fun i => boolV (btr i.side i.x i.y)) (fun _ => [])

/-! ### Arenas -/
@[reducible] def slotV (s : Slot) : V := .agg [boolV s.used, i64V s.n, i64V s.id, i64V s.qty, boolV s.top, i64V s.queue, i64V s.ahead, i64V s.back]
def pushFC : Con := con1 Slot (fun s => [slotV s]) (fun _ => []) (fun _ => True) (fun s => boolV (!s.used)) (fun _ => [])
def freeI (l : List Slot) : Int := idxOr (l.findIdx? fun s => !s.used)
def idxSlotC : Con := con1 (List Slot) (fun _ => [.own 0, .fn 76 [] []]) (fun l => [.own 153 8 (l.map slotE)]) (fun l => l.length ≤ 1000000) (fun l => i64V (freeI l)) (fun l => [.own 153 8 (l.map slotE)])
def idxSlotA (l : List Slot) : List SAnn := [{ ι := Nat, slots := fun j => [(8, i64V j)], rows := fun _ => [] }]

def queue0 : Queue := ⟨-1, -1, 0, 0⟩
def Arena.openQ (a : Arena) : Arena := { a with queues := a.queues ++ [queue0] }
def aopenC : Con := con1 Arena (fun _ => [.nm 0 0]) (fun a => [ArenaR a]) (fun a => a.queues.length ≤ 1000000) (fun a => i64V a.queues.length) (fun a => [ArenaR a.openQ])

structure ATop where
  a : Arena
  n : Int
  t : Bool
def Arena.usedAt (a : Arena) (n : Int) : Bool := decide (0 ≤ n) && (decide (n < a.slots.length) && (a.slots.getD n.toNat slot0).used)
def Arena.topF (a : Arena) (n : Int) (t : Bool) : Arena := if a.usedAt n = true then { a with slots := a.slots.modify n.toNat fun s => { s with top := t } } else a
def atopC : Con := con1 ATop (fun i => [.nm 0 0, i64V i.n, boolV i.t]) (fun i => [ArenaR i.a]) (fun i => i.a.slots.length ≤ 1000000) (fun i => i64V (if i.a.usedAt i.n = true then 0 else 26)) (fun i => [ArenaR (i.a.topF i.n i.t)])

structure PuI where
  a : Arena
  n : Int
  id : Int
  qty : Int
  top : Bool
/-- A push that is not refused. -/
def Arena.put (a : Arena) (n id qty : Int) (top : Bool) : Arena :=
  let q := a.queues.getD n.toNat queue0
  let k := freeI a.slots
  let sl := a.slots.set k.toNat ⟨true, k, id, qty, top, n, q.last, -1⟩
  ⟨if q.last = -1 then sl else sl.modify q.last.toNat fun s => { s with back := k }, a.queues.set n.toNat ⟨if q.last = -1 then k else q.first, k, IntKind.i64.wrap (q.total + qty), IntKind.i64.wrap (q.count + 1)⟩, IntKind.i64.wrap (a.free - 1)⟩
def Arena.push (a : Arena) (n id qty : Int) (top : Bool) : Arena × Int × Int :=
  if n < 0 ∨ a.queues.length ≤ n then (a, 0, 26) else if qty < 1 ∨ 1000000 < qty then (a, 0, 24) else if a.free = 0 then (a, 0, 13) else (a.put n id qty top, freeI a.slots, 0)
def Arena.fit (a : Arena) : Prop := a.slots.length ≤ 1000000 ∧ (a.free ≠ 0 → ∃ s ∈ a.slots, s.used = false) ∧ ∀ q ∈ a.queues, q.last = -1 ∨ (0 ≤ q.last ∧ q.last < a.slots.length)
def apushC : Con := con1 PuI (fun i => [.nm 0 0, i64V i.n, i64V i.id, i64V i.qty, boolV i.top]) (fun i => [ArenaR i.a]) (fun i => i.a.fit) (fun i => .tup [i64V (i.a.push i.n i.id i.qty i.top).2.1, i64V (i.a.push i.n i.id i.qty i.top).2.2]) (fun i => [ArenaR (i.a.push i.n i.id i.qty i.top).1])

/-! ### Books -/
@[reducible] def BookO (b : Book) : List AObj := [BookU b 0, BookU b 1, BookU b 2, BookU b 3, BookU b 4, BookU b 5]
structure BkP where
  b : Book
  price : Int
def findN (s : Int) (l : List Rung) (price : Int) : Nat := (l.takeWhile fun r => btr s r.price price).length
def findB (s : Int) (l : List Rung) (price : Int) : Bool := match l[findN s l price]? with
  | some r => decide (r.price = price)
  | none => false
def Book.rungs (b : Book) (s : Int) : List Rung := if s = 1 then b.buys else b.sells
def findsC (s : Int) : Con := con1 BkP (fun i => [.nm 0 0, i64V s, i64V i.price]) (fun i => BookO i.b) (fun i => i.b.small) (fun i => .tup [i64V (findN s (i.b.rungs s) i.price), boolV (findB s (i.b.rungs s) i.price)]) (fun i => BookO i.b)
def find1C : Con := findsC 1
def find2C : Con := findsC 2
def findA : List SAnn := [{ ι := Nat, slots := fun j => [(9, i64V j)], rows := fun _ => [] }]

def pget (l : List (Int × Place)) (k : Int) : Option Place := (l.find? fun x => decide (x.1 = k)).map (·.2)
def pput (k : Int) (v : Place) : List (Int × Place) → List (Int × Place)
  | [] => [(k, v)]
  | (a, b) :: l => if k = a then (a, v) :: l else (a, b) :: pput k v l
structure LdI where
  b : Book
  id : Int
def Book.hasF (b : Book) (s : Int) : Bool := if s = 1 then b.has1 else b.has2
def Book.topI (b : Book) (s : Int) : Int := if s = 1 then b.top1 else b.top2
def Book.untop (b : Book) (s : Int) : Arena := if b.hasF s = true then (match pget b.at_ (b.topI s) with
  | some o => if o.side = s then b.a.topF o.slot false else b.a
  | none => b.a) else b.a
def Book.leadF (b : Book) (id s : Int) : Book := if s = 1 then { b with a := b.untop s, top1 := id, has1 := true } else { b with a := b.untop s, top2 := id, has2 := true }
def leadsC (s : Int) : Con := con1 LdI (fun i => [.nm 0 0, i64V i.id, i64V s]) (fun i => BookO i.b) (fun i => i.b.small) (fun _ => unitV) (fun i => BookO (i.b.leadF i.id s))
def lead1C : Con := leadsC 1
def lead2C : Con := leadsC 2

/-- The queue that a new price has; what spare ones are left; the arena. -/
def Book.newQ (b : Book) : Int × List Int × Arena := if b.spare.length = 0 then (b.a.queues.length, b.spare, b.a.openQ) else (b.spare.getD (b.spare.length - 1) 0, b.spare.take (b.spare.length - 1), b.a)
def Book.ins (b : Book) (s price : Int) : List Rung := (b.rungs s).take (findN s (b.rungs s) price) ++ ⟨price, b.newQ.1⟩ :: (b.rungs s).drop (findN s (b.rungs s) price)
def Book.queueF (b : Book) (s price : Int) : Book × Int :=
  if findB s (b.rungs s) price = true then (b, ((b.rungs s).getD (findN s (b.rungs s) price) ⟨0, 0⟩).queue)
  else (if s = 1 then { b with a := b.newQ.2.2, buys := b.ins s price, spare := b.newQ.2.1 } else { b with a := b.newQ.2.2, sells := b.ins s price, spare := b.newQ.2.1 }, b.newQ.1)
def bcells1 (b : Book) : AObj := .cells [.nm 1 0, .own 6, .own 3, .mp 4, i64V b.top1, i64V b.top2, .own 7, boolV b.has1, boolV b.has2] 124
def bcells2 (b : Book) : AObj := .cells [.nm 1 0, .own 2, .own 6, .mp 4, i64V b.top1, i64V b.top2, .own 7, boolV b.has1, boolV b.has2] 124
@[reducible] def BookQ1 (b : Book) : List AObj := [bcells1 b, BookU b 1, .gone, BookU b 3, BookU b 4, .gone, BookU b 2, BookU b 5]
@[reducible] def BookQ2 (b : Book) : List AObj := [bcells2 b, BookU b 1, BookU b 2, .gone, BookU b 4, .gone, BookU b 3, BookU b 5]
@[reducible] def Book.fit (b : Book) : Prop := b.a.fit ∧ b.a.queues.length ≤ 100000 ∧ b.buys.length ≤ 100000 ∧ b.sells.length ≤ 100000 ∧ b.spare.length ≤ 100000
def queue1C : Con := con1 BkP (fun i => [.nm 0 0, i64V 1, i64V i.price]) (fun i => BookO i.b) (fun i => i.b.fit) (fun i => i64V (i.b.queueF 1 i.price).2) (fun i => BookQ1 (i.b.queueF 1 i.price).1)
def queue2C : Con := con1 BkP (fun i => [.nm 0 0, i64V 2, i64V i.price]) (fun i => BookO i.b) (fun i => i.b.fit) (fun i => i64V (i.b.queueF 2 i.price).2) (fun i => BookQ2 (i.b.queueF 2 i.price).1)
def insRC : Con := insX 130 2 16

end Sx

namespace Sx
set_option linter.unusedVariables false
set_option maxRecDepth 100000
open Go Cv Go.Proofs
def Vbbetter (i : I3') : Prop :=
  cnd (i.side == (1 : Int)) (∃ (o : Unit), btr i.side i.x i.y = decide (i.x > i.y) ∧ True) (∃ (o : Unit), btr i.side i.x i.y = decide (i.x < i.y) ∧ True)
theorem eqbbetter (i : I3') : Vbbetter i = walk Try.prog ([]) 0 ([]) ([]) [] Try.f58 (Try.f58.body.getD .skip) (bbetterC.pat i) (bbetterC.pre i) (bbetterC.alts i) := by kernel_rfl

theorem bybbetter (hG : GOk Try.prog ([])) (h : ∀ (i : I3'), bbetterC.cnd i → Vbbetter i) : bbetterC.ok Try.prog 58 := ok_of_walk mixed ([]) hG 0 (fun (i : I3') => []) (fun (i : I3') => []) [] Try.func58 (by kernel_rfl) (by kernel_rfl) (by kernel_rfl) (fun _ => by kernel_rfl) (fun (i : I3') hc => Eq.mp (eqbbetter i) (h i hc))

def VpushF (s : Slot) : Prop :=
  ∃ (o : Unit), (!s.used) = !s.used ∧ True
theorem eqpushF (s : Slot) : VpushF s = walk Try.prog ([]) 0 ([]) ([]) [] Try.f76 (Try.f76.body.getD .skip) (pushFC.pat s) (pushFC.pre s) (pushFC.alts s) := by kernel_rfl

theorem bypushF (hG : GOk Try.prog ([])) (h : ∀ (s : Slot), pushFC.cnd s → VpushF s) : pushFC.ok Try.prog 76 := ok_of_walk mixed ([]) hG 0 (fun (s : Slot) => []) (fun (s : Slot) => []) [] Try.func76 (by kernel_rfl) (by kernel_rfl) (by kernel_rfl) (fun _ => by kernel_rfl) (fun (s : Slot) hc => Eq.mp (eqpushF s) (h s hc))

def VidxSlot (l : List Slot) : Prop :=
  ∃ (i0 : Nat), (↑i0 : Int) = (0 : Int) ∧ ∃ (I : Nat → Prop), ∃ (μ : Nat → Nat), I i0 ∧ ∀ (i : Nat), I i → cnd (decide ((↑i : Int) < (↑(List.map slotE l).length : Int))) (((0 : Int) ≤ (↑i : Int) ∧ (↑i : Int) < (↑(List.map slotE l).length : Int)) ∧ ∃ (b : Bool), ∃ (n : Int), ∃ (n_1 : Int), ∃ (n_2 : Int), ∃ (b_1 : Bool), ∃ (n_3 : Int), ∃ (n_4 : Int), ∃ (n_5 : Int), elPart (List.map slotE l) (↑i : Int).toNat (0 : Nat) (8 : Nat) = some [D.v (.bool b), D.v (.int .i64 n), D.v (.int .i64 n_1), D.v (.int .i64 n_2), D.v (.bool b_1), D.v (.int .i64 n_3), D.v (.int .i64 n_4), D.v (.int .i64 n_5)] ∧ ∃ (i_1 : Slot), i_1.used = b ∧ i_1.n = n ∧ i_1.id = n_1 ∧ i_1.qty = n_2 ∧ i_1.top = b_1 ∧ i_1.queue = n_3 ∧ i_1.ahead = n_4 ∧ i_1.back = n_5 ∧ True ∧ ∀ (o : Unit), True → cnd (!i_1.used) (∃ (o : Unit), freeI l = (↑i : Int) ∧ List.map slotE l = List.map slotE l ∧ True) (∃ (i' : Nat), (↑i' : Int) = IntKind.i64.wrap ((↑i : Int) + (1 : Int)) ∧ I i' ∧ μ i' < μ i ∧ AObj.own (153 : Nat) (8 : Nat) (List.map slotE l) = AObj.own (153 : Nat) (8 : Nat) (List.map slotE l))) (∃ (o : Unit), freeI l = (-1 : Int) ∧ List.map slotE l = List.map slotE l ∧ True)
theorem eqidxSlot (l : List Slot) : VidxSlot l = walk Try.prog ([(76, pushFC)]) 0 ([]) (idxSlotA l) [] Try.f75 (Try.f75.body.getD .skip) (idxSlotC.pat l) (idxSlotC.pre l) (idxSlotC.alts l) := by kernel_rfl

theorem byidxSlot (hG : GOk Try.prog ([(76, pushFC)])) (h : ∀ (l : List Slot), idxSlotC.cnd l → VidxSlot l) : idxSlotC.ok Try.prog 75 := ok_of_walk mixed ([(76, pushFC)]) hG 0 (fun (l : List Slot) => []) (fun (l : List Slot) => idxSlotA l) [] Try.func75 (by kernel_rfl) (by kernel_rfl) (by kernel_rfl) (fun _ => by kernel_rfl) (fun (l : List Slot) hc => Eq.mp (eqidxSlot l) (h l hc))

def Vaopen (a : Arena) : Prop :=
  ((List.map queueE a.queues).length + (1 : Nat)) * (32 : Nat) ≤ (70368744177664 : Nat) ∧ ∃ (o : Unit), (↑a.queues.length : Int) = IntKind.i64.wrap ((↑(List.map queueE a.queues ++ [[D.v (.int .i64 (-1)), D.v (.int .i64 (-1)), D.v (.int .i64 0), D.v (.int .i64 0)]]).length : Int) - (1 : Int)) ∧ a.free = a.free ∧ List.map slotE a.slots = List.map slotE a.slots ∧ List.map queueE (a.queues ++ [queue0]) = List.map queueE a.queues ++ [[D.v (.int .i64 (-1)), D.v (.int .i64 (-1)), D.v (.int .i64 0), D.v (.int .i64 0)]] ∧ True
theorem eqaopen (a : Arena) : Vaopen a = walk Try.prog ([]) 0 ([]) ([]) [0] Try.f78 (Try.f78.body.getD .skip) (aopenC.pat a) (aopenC.pre a) (aopenC.alts a) := by kernel_rfl

theorem byaopen (hG : GOk Try.prog ([])) (h : ∀ (a : Arena), aopenC.cnd a → Vaopen a) : aopenC.ok Try.prog 78 := ok_of_walk mixed ([]) hG 0 (fun (a : Arena) => []) (fun (a : Arena) => []) [0] Try.func78 (by kernel_rfl) (by kernel_rfl) (by kernel_rfl) (fun _ => by kernel_rfl) (fun (a : Arena) hc => Eq.mp (eqaopen a) (h a hc))

def Vatop (i : ATop) : Prop :=
  cnd (decide (i.n < (0 : Int))) (∃ (o : Unit), (if i.a.usedAt i.n = true then (0 : Int) else (26 : Int)) = (26 : Int) ∧ (i.a.topF i.n i.t).free = i.a.free ∧ List.map slotE (i.a.topF i.n i.t).slots = List.map slotE i.a.slots ∧ List.map queueE (i.a.topF i.n i.t).queues = List.map queueE i.a.queues ∧ True) (cnd (decide (i.n ≥ (↑(List.map slotE i.a.slots).length : Int))) (∃ (o : Unit), (if i.a.usedAt i.n = true then (0 : Int) else (26 : Int)) = (26 : Int) ∧ (i.a.topF i.n i.t).free = i.a.free ∧ List.map slotE (i.a.topF i.n i.t).slots = List.map slotE i.a.slots ∧ List.map queueE (i.a.topF i.n i.t).queues = List.map queueE i.a.queues ∧ True) (((0 : Int) ≤ i.n ∧ i.n < (↑(List.map slotE i.a.slots).length : Int)) ∧ ∃ (b : Bool), elPart (List.map slotE i.a.slots) i.n.toNat ((0 : Nat) + (0 : Nat)) (1 : Nat) = some [D.v (.bool b)] ∧ cnd (!b) (∃ (o : Unit), (if i.a.usedAt i.n = true then (0 : Int) else (26 : Int)) = (26 : Int) ∧ (i.a.topF i.n i.t).free = i.a.free ∧ List.map slotE (i.a.topF i.n i.t).slots = List.map slotE i.a.slots ∧ List.map queueE (i.a.topF i.n i.t).queues = List.map queueE i.a.queues ∧ True) (((0 : Int) ≤ i.n ∧ i.n < (↑(List.map slotE i.a.slots).length : Int)) ∧ i.n.toNat < (List.map slotE i.a.slots).length ∧ ∃ (o : Unit), (if i.a.usedAt i.n = true then (0 : Int) else (26 : Int)) = (0 : Int) ∧ (i.a.topF i.n i.t).free = i.a.free ∧ List.map slotE (i.a.topF i.n i.t).slots = elSet (List.map slotE i.a.slots) i.n.toNat ((0 : Nat) + (1 : Nat) + (3 : Nat)) [D.v (.bool i.t)] ∧ List.map queueE (i.a.topF i.n i.t).queues = List.map queueE i.a.queues ∧ True)))
theorem eqatop (i : ATop) : Vatop i = walk Try.prog ([]) 1 ([]) ([]) [0] Try.f73 (Try.f73.body.getD .skip) (atopC.pat i) (atopC.pre i) (atopC.alts i) := by kernel_rfl

theorem byatop (hG : GOk Try.prog ([])) (h : ∀ (i : ATop), atopC.cnd i → Vatop i) : atopC.ok Try.prog 73 := ok_of_walk mixed ([]) hG 1 (fun (i : ATop) => []) (fun (i : ATop) => []) [0] Try.func73 (by kernel_rfl) (by kernel_rfl) (by kernel_rfl) (fun _ => by kernel_rfl) (fun (i : ATop) hc => Eq.mp (eqatop i) (h i hc))

def Vapush (i : PuI) : Prop :=
  cnd (decide (i.n ≥ (0 : Int))) (cnd (!decide (i.n < (↑(List.map queueE i.a.queues).length : Int))) (∃ (o : Unit), (i.a.push i.n i.id i.qty i.top).snd.fst = (0 : Int) ∧ (i.a.push i.n i.id i.qty i.top).snd.snd = (26 : Int) ∧ (i.a.push i.n i.id i.qty i.top).fst.free = i.a.free ∧ List.map slotE (i.a.push i.n i.id i.qty i.top).fst.slots = List.map slotE i.a.slots ∧ List.map queueE (i.a.push i.n i.id i.qty i.top).fst.queues = List.map queueE i.a.queues ∧ True) (cnd (decide (i.qty < (1 : Int))) (∃ (o : Unit), (i.a.push i.n i.id i.qty i.top).snd.fst = (0 : Int) ∧ (i.a.push i.n i.id i.qty i.top).snd.snd = (24 : Int) ∧ (i.a.push i.n i.id i.qty i.top).fst.free = i.a.free ∧ List.map slotE (i.a.push i.n i.id i.qty i.top).fst.slots = List.map slotE i.a.slots ∧ List.map queueE (i.a.push i.n i.id i.qty i.top).fst.queues = List.map queueE i.a.queues ∧ True) (cnd (decide (i.qty > (1000000 : Int))) (∃ (o : Unit), (i.a.push i.n i.id i.qty i.top).snd.fst = (0 : Int) ∧ (i.a.push i.n i.id i.qty i.top).snd.snd = (24 : Int) ∧ (i.a.push i.n i.id i.qty i.top).fst.free = i.a.free ∧ List.map slotE (i.a.push i.n i.id i.qty i.top).fst.slots = List.map slotE i.a.slots ∧ List.map queueE (i.a.push i.n i.id i.qty i.top).fst.queues = List.map queueE i.a.queues ∧ True) (cnd (i.a.free == (0 : Int)) (∃ (o : Unit), (i.a.push i.n i.id i.qty i.top).snd.fst = (0 : Int) ∧ (i.a.push i.n i.id i.qty i.top).snd.snd = (13 : Int) ∧ (i.a.push i.n i.id i.qty i.top).fst.free = i.a.free ∧ List.map slotE (i.a.push i.n i.id i.qty i.top).fst.slots = List.map slotE i.a.slots ∧ List.map queueE (i.a.push i.n i.id i.qty i.top).fst.queues = List.map queueE i.a.queues ∧ True) (∃ (i_1 : List Slot), List.map slotE i_1 = List.map slotE i.a.slots ∧ i_1.length ≤ (1000000 : Nat) ∧ ∀ (o : Unit), True → ((0 : Int) ≤ i.n ∧ i.n < (↑(List.map queueE i.a.queues).length : Int)) ∧ ∃ (n : Int), elPart (List.map queueE i.a.queues) i.n.toNat ((0 : Nat) + (1 : Nat)) (1 : Nat) = some [D.v (.int .i64 n)] ∧ ((0 : Int) ≤ freeI i_1 ∧ freeI i_1 < (↑(List.map slotE i_1).length : Int)) ∧ (freeI i_1).toNat < (List.map slotE i_1).length ∧ ∃ (n_1 : Int), elPart (List.map queueE i.a.queues) i.n.toNat ((0 : Nat) + (1 : Nat)) (1 : Nat) = some [D.v (.int .i64 n_1)] ∧ cnd (n_1 == (-1 : Int)) (i.n.toNat < (List.map queueE i.a.queues).length ∧ i.n.toNat < (elSet (List.map queueE i.a.queues) i.n.toNat ((0 : Nat) + (0 : Nat)) [D.v (.int .i64 (freeI i_1))]).length ∧ ∃ (n_2 : Int), elPart (elSet (elSet (List.map queueE i.a.queues) i.n.toNat ((0 : Nat) + (0 : Nat)) [D.v (.int .i64 (freeI i_1))]) i.n.toNat ((0 : Nat) + (1 : Nat)) [D.v (.int .i64 (freeI i_1))]) i.n.toNat ((0 : Nat) + (2 : Nat)) (1 : Nat) = some [D.v (.int .i64 n_2)] ∧ i.n.toNat < (elSet (elSet (List.map queueE i.a.queues) i.n.toNat ((0 : Nat) + (0 : Nat)) [D.v (.int .i64 (freeI i_1))]) i.n.toNat ((0 : Nat) + (1 : Nat)) [D.v (.int .i64 (freeI i_1))]).length ∧ ∃ (n_3 : Int), elPart (elSet (elSet (elSet (List.map queueE i.a.queues) i.n.toNat ((0 : Nat) + (0 : Nat)) [D.v (.int .i64 (freeI i_1))]) i.n.toNat ((0 : Nat) + (1 : Nat)) [D.v (.int .i64 (freeI i_1))]) i.n.toNat ((0 : Nat) + (2 : Nat)) [D.v (.int .i64 (IntKind.i64.wrap (n_2 + i.qty)))]) i.n.toNat ((0 : Nat) + (3 : Nat)) (1 : Nat) = some [D.v (.int .i64 n_3)] ∧ i.n.toNat < (elSet (elSet (elSet (List.map queueE i.a.queues) i.n.toNat ((0 : Nat) + (0 : Nat)) [D.v (.int .i64 (freeI i_1))]) i.n.toNat ((0 : Nat) + (1 : Nat)) [D.v (.int .i64 (freeI i_1))]) i.n.toNat ((0 : Nat) + (2 : Nat)) [D.v (.int .i64 (IntKind.i64.wrap (n_2 + i.qty)))]).length ∧ ∃ (o : Unit), (i.a.push i.n i.id i.qty i.top).snd.fst = freeI i_1 ∧ (i.a.push i.n i.id i.qty i.top).snd.snd = (0 : Int) ∧ (i.a.push i.n i.id i.qty i.top).fst.free = IntKind.i64.wrap (i.a.free - (1 : Int)) ∧ List.map slotE (i.a.push i.n i.id i.qty i.top).fst.slots = elSet (List.map slotE i_1) (freeI i_1).toNat (0 : Nat) [D.v (.bool true), D.v (.int .i64 (freeI i_1)), D.v (.int .i64 i.id), D.v (.int .i64 i.qty), D.v (.bool i.top), D.v (.int .i64 i.n), D.v (.int .i64 n), D.v (.int .i64 (-1))] ∧ List.map queueE (i.a.push i.n i.id i.qty i.top).fst.queues = elSet (elSet (elSet (elSet (List.map queueE i.a.queues) i.n.toNat ((0 : Nat) + (0 : Nat)) [D.v (.int .i64 (freeI i_1))]) i.n.toNat ((0 : Nat) + (1 : Nat)) [D.v (.int .i64 (freeI i_1))]) i.n.toNat ((0 : Nat) + (2 : Nat)) [D.v (.int .i64 (IntKind.i64.wrap (n_2 + i.qty)))]) i.n.toNat ((0 : Nat) + (3 : Nat)) [D.v (.int .i64 (IntKind.i64.wrap (n_3 + (1 : Int))))] ∧ True) (∃ (n_2 : Int), elPart (List.map queueE i.a.queues) i.n.toNat ((0 : Nat) + (1 : Nat)) (1 : Nat) = some [D.v (.int .i64 n_2)] ∧ ((0 : Int) ≤ n_2 ∧ n_2 < (↑(elSet (List.map slotE i_1) (freeI i_1).toNat (0 : Nat) [D.v (.bool true), D.v (.int .i64 (freeI i_1)), D.v (.int .i64 i.id), D.v (.int .i64 i.qty), D.v (.bool i.top), D.v (.int .i64 i.n), D.v (.int .i64 n), D.v (.int .i64 (-1))]).length : Int)) ∧ n_2.toNat < (elSet (List.map slotE i_1) (freeI i_1).toNat (0 : Nat) [D.v (.bool true), D.v (.int .i64 (freeI i_1)), D.v (.int .i64 i.id), D.v (.int .i64 i.qty), D.v (.bool i.top), D.v (.int .i64 i.n), D.v (.int .i64 n), D.v (.int .i64 (-1))]).length ∧ i.n.toNat < (List.map queueE i.a.queues).length ∧ ∃ (n_3 : Int), elPart (elSet (List.map queueE i.a.queues) i.n.toNat ((0 : Nat) + (1 : Nat)) [D.v (.int .i64 (freeI i_1))]) i.n.toNat ((0 : Nat) + (2 : Nat)) (1 : Nat) = some [D.v (.int .i64 n_3)] ∧ i.n.toNat < (elSet (List.map queueE i.a.queues) i.n.toNat ((0 : Nat) + (1 : Nat)) [D.v (.int .i64 (freeI i_1))]).length ∧ ∃ (n_4 : Int), elPart (elSet (elSet (List.map queueE i.a.queues) i.n.toNat ((0 : Nat) + (1 : Nat)) [D.v (.int .i64 (freeI i_1))]) i.n.toNat ((0 : Nat) + (2 : Nat)) [D.v (.int .i64 (IntKind.i64.wrap (n_3 + i.qty)))]) i.n.toNat ((0 : Nat) + (3 : Nat)) (1 : Nat) = some [D.v (.int .i64 n_4)] ∧ i.n.toNat < (elSet (elSet (List.map queueE i.a.queues) i.n.toNat ((0 : Nat) + (1 : Nat)) [D.v (.int .i64 (freeI i_1))]) i.n.toNat ((0 : Nat) + (2 : Nat)) [D.v (.int .i64 (IntKind.i64.wrap (n_3 + i.qty)))]).length ∧ ∃ (o : Unit), (i.a.push i.n i.id i.qty i.top).snd.fst = freeI i_1 ∧ (i.a.push i.n i.id i.qty i.top).snd.snd = (0 : Int) ∧ (i.a.push i.n i.id i.qty i.top).fst.free = IntKind.i64.wrap (i.a.free - (1 : Int)) ∧ List.map slotE (i.a.push i.n i.id i.qty i.top).fst.slots = elSet (elSet (List.map slotE i_1) (freeI i_1).toNat (0 : Nat) [D.v (.bool true), D.v (.int .i64 (freeI i_1)), D.v (.int .i64 i.id), D.v (.int .i64 i.qty), D.v (.bool i.top), D.v (.int .i64 i.n), D.v (.int .i64 n), D.v (.int .i64 (-1))]) n_2.toNat ((0 : Nat) + (7 : Nat)) [D.v (.int .i64 (freeI i_1))] ∧ List.map queueE (i.a.push i.n i.id i.qty i.top).fst.queues = elSet (elSet (elSet (List.map queueE i.a.queues) i.n.toNat ((0 : Nat) + (1 : Nat)) [D.v (.int .i64 (freeI i_1))]) i.n.toNat ((0 : Nat) + (2 : Nat)) [D.v (.int .i64 (IntKind.i64.wrap (n_3 + i.qty)))]) i.n.toNat ((0 : Nat) + (3 : Nat)) [D.v (.int .i64 (IntKind.i64.wrap (n_4 + (1 : Int))))] ∧ True)))))) (∃ (o : Unit), (i.a.push i.n i.id i.qty i.top).snd.fst = (0 : Int) ∧ (i.a.push i.n i.id i.qty i.top).snd.snd = (26 : Int) ∧ (i.a.push i.n i.id i.qty i.top).fst.free = i.a.free ∧ List.map slotE (i.a.push i.n i.id i.qty i.top).fst.slots = List.map slotE i.a.slots ∧ List.map queueE (i.a.push i.n i.id i.qty i.top).fst.queues = List.map queueE i.a.queues ∧ True)
theorem eqapush (i : PuI) : Vapush i = walk Try.prog ([(75, idxSlotC)]) 1 ([]) ([]) [0] Try.f60 (Try.f60.body.getD .skip) (apushC.pat i) (apushC.pre i) (apushC.alts i) := by kernel_rfl

theorem byapush (hG : GOk Try.prog ([(75, idxSlotC)])) (h : ∀ (i : PuI), apushC.cnd i → Vapush i) : apushC.ok Try.prog 60 := ok_of_walk mixed ([(75, idxSlotC)]) hG 1 (fun (i : PuI) => []) (fun (i : PuI) => []) [0] Try.func60 (by kernel_rfl) (by kernel_rfl) (by kernel_rfl) (fun _ => by kernel_rfl) (fun (i : PuI) hc => Eq.mp (eqapush i) (h i hc))

def Vfind1 (i : BkP) : Prop :=
  ∃ (i0 : Nat), (↑i0 : Int) = (0 : Int) ∧ ∃ (I : Nat → Prop), ∃ (μ : Nat → Nat), I i0 ∧ ∀ (i_1 : Nat), I i_1 → cnd (decide ((↑i_1 : Int) < (↑(List.map rungE i.b.buys).length : Int))) (((0 : Int) ≤ (↑i_1 : Int) ∧ (↑i_1 : Int) < (↑(List.map rungE i.b.buys).length : Int)) ∧ ∃ (n : Int), elPart (List.map rungE i.b.buys) (↑i_1 : Int).toNat ((0 : Nat) + (0 : Nat)) (1 : Nat) = some [D.v (.int .i64 n)] ∧ ∃ (i_2 : I3'), i_2.side = (1 : Int) ∧ i_2.x = n ∧ i_2.y = i.price ∧ True ∧ ∀ (o : Unit), True → cnd (btr i_2.side i_2.x i_2.y) (∃ (i' : Nat), (↑i' : Int) = IntKind.i64.wrap ((↑i_1 : Int) + (1 : Int)) ∧ I i' ∧ μ i' < μ i_1 ∧ BookU i.b (0 : Nat) = BookU i.b (0 : Nat) ∧ BookU i.b (1 : Nat) = BookU i.b (1 : Nat) ∧ BookU i.b (2 : Nat) = BookU i.b (2 : Nat) ∧ BookU i.b (3 : Nat) = BookU i.b (3 : Nat) ∧ BookU i.b (4 : Nat) = BookU i.b (4 : Nat) ∧ BookU i.b (5 : Nat) = BookU i.b (5 : Nat)) (cnd (decide ((↑i_1 : Int) < (↑(List.map rungE i.b.buys).length : Int))) (((0 : Int) ≤ (↑i_1 : Int) ∧ (↑i_1 : Int) < (↑(List.map rungE i.b.buys).length : Int)) ∧ ∃ (n : Int), elPart (List.map rungE i.b.buys) (↑i_1 : Int).toNat ((0 : Nat) + (0 : Nat)) (1 : Nat) = some [D.v (.int .i64 n)] ∧ ∃ (o : Unit), (↑(findN (1 : Int) (i.b.rungs (1 : Int)) i.price) : Int) = (↑i_1 : Int) ∧ findB (1 : Int) (i.b.rungs (1 : Int)) i.price = (n == i.price) ∧ i.b.top1 = i.b.top1 ∧ i.b.top2 = i.b.top2 ∧ i.b.has1 = i.b.has1 ∧ i.b.has2 = i.b.has2 ∧ AObj.adt Arena (3 : Nat) ArenaU i.b.a = BookU i.b (1 : Nat) ∧ List.map rungE i.b.buys = List.map rungE i.b.buys ∧ List.map rungE i.b.sells = List.map rungE i.b.sells ∧ atE i.b.at_ = atE i.b.at_ ∧ iE i.b.spare = iE i.b.spare ∧ True) (∃ (o : Unit), (↑(findN (1 : Int) (i.b.rungs (1 : Int)) i.price) : Int) = (↑i_1 : Int) ∧ findB (1 : Int) (i.b.rungs (1 : Int)) i.price = false ∧ i.b.top1 = i.b.top1 ∧ i.b.top2 = i.b.top2 ∧ i.b.has1 = i.b.has1 ∧ i.b.has2 = i.b.has2 ∧ AObj.adt Arena (3 : Nat) ArenaU i.b.a = BookU i.b (1 : Nat) ∧ List.map rungE i.b.buys = List.map rungE i.b.buys ∧ List.map rungE i.b.sells = List.map rungE i.b.sells ∧ atE i.b.at_ = atE i.b.at_ ∧ iE i.b.spare = iE i.b.spare ∧ True))) (cnd (decide ((↑i_1 : Int) < (↑(List.map rungE i.b.buys).length : Int))) (((0 : Int) ≤ (↑i_1 : Int) ∧ (↑i_1 : Int) < (↑(List.map rungE i.b.buys).length : Int)) ∧ ∃ (n : Int), elPart (List.map rungE i.b.buys) (↑i_1 : Int).toNat ((0 : Nat) + (0 : Nat)) (1 : Nat) = some [D.v (.int .i64 n)] ∧ ∃ (o : Unit), (↑(findN (1 : Int) (i.b.rungs (1 : Int)) i.price) : Int) = (↑i_1 : Int) ∧ findB (1 : Int) (i.b.rungs (1 : Int)) i.price = (n == i.price) ∧ i.b.top1 = i.b.top1 ∧ i.b.top2 = i.b.top2 ∧ i.b.has1 = i.b.has1 ∧ i.b.has2 = i.b.has2 ∧ AObj.adt Arena (3 : Nat) ArenaU i.b.a = BookU i.b (1 : Nat) ∧ List.map rungE i.b.buys = List.map rungE i.b.buys ∧ List.map rungE i.b.sells = List.map rungE i.b.sells ∧ atE i.b.at_ = atE i.b.at_ ∧ iE i.b.spare = iE i.b.spare ∧ True) (∃ (o : Unit), (↑(findN (1 : Int) (i.b.rungs (1 : Int)) i.price) : Int) = (↑i_1 : Int) ∧ findB (1 : Int) (i.b.rungs (1 : Int)) i.price = false ∧ i.b.top1 = i.b.top1 ∧ i.b.top2 = i.b.top2 ∧ i.b.has1 = i.b.has1 ∧ i.b.has2 = i.b.has2 ∧ AObj.adt Arena (3 : Nat) ArenaU i.b.a = BookU i.b (1 : Nat) ∧ List.map rungE i.b.buys = List.map rungE i.b.buys ∧ List.map rungE i.b.sells = List.map rungE i.b.sells ∧ atE i.b.at_ = atE i.b.at_ ∧ iE i.b.spare = iE i.b.spare ∧ True))
theorem eqfind1 (i : BkP) : Vfind1 i = walk Try.prog ([(58, bbetterC)]) 0 ([]) (findA) [] Try.f77 (Try.f77.body.getD .skip) (find1C.pat i) (find1C.pre i) (find1C.alts i) := by kernel_rfl

theorem byfind1 (hG : GOk Try.prog ([(58, bbetterC)])) (h : ∀ (i : BkP), find1C.cnd i → Vfind1 i) : find1C.ok Try.prog 77 := ok_of_walk mixed ([(58, bbetterC)]) hG 0 (fun (i : BkP) => []) (fun (i : BkP) => findA) [] Try.func77 (by kernel_rfl) (by kernel_rfl) (by kernel_rfl) (fun _ => by kernel_rfl) (fun (i : BkP) hc => Eq.mp (eqfind1 i) (h i hc))

def Vfind2 (i : BkP) : Prop :=
  ∃ (i0 : Nat), (↑i0 : Int) = (0 : Int) ∧ ∃ (I : Nat → Prop), ∃ (μ : Nat → Nat), I i0 ∧ ∀ (i_1 : Nat), I i_1 → cnd (decide ((↑i_1 : Int) < (↑(List.map rungE i.b.sells).length : Int))) (((0 : Int) ≤ (↑i_1 : Int) ∧ (↑i_1 : Int) < (↑(List.map rungE i.b.sells).length : Int)) ∧ ∃ (n : Int), elPart (List.map rungE i.b.sells) (↑i_1 : Int).toNat ((0 : Nat) + (0 : Nat)) (1 : Nat) = some [D.v (.int .i64 n)] ∧ ∃ (i_2 : I3'), i_2.side = (2 : Int) ∧ i_2.x = n ∧ i_2.y = i.price ∧ True ∧ ∀ (o : Unit), True → cnd (btr i_2.side i_2.x i_2.y) (∃ (i' : Nat), (↑i' : Int) = IntKind.i64.wrap ((↑i_1 : Int) + (1 : Int)) ∧ I i' ∧ μ i' < μ i_1 ∧ BookU i.b (0 : Nat) = BookU i.b (0 : Nat) ∧ BookU i.b (1 : Nat) = BookU i.b (1 : Nat) ∧ BookU i.b (2 : Nat) = BookU i.b (2 : Nat) ∧ BookU i.b (3 : Nat) = BookU i.b (3 : Nat) ∧ BookU i.b (4 : Nat) = BookU i.b (4 : Nat) ∧ BookU i.b (5 : Nat) = BookU i.b (5 : Nat)) (cnd (decide ((↑i_1 : Int) < (↑(List.map rungE i.b.sells).length : Int))) (((0 : Int) ≤ (↑i_1 : Int) ∧ (↑i_1 : Int) < (↑(List.map rungE i.b.sells).length : Int)) ∧ ∃ (n : Int), elPart (List.map rungE i.b.sells) (↑i_1 : Int).toNat ((0 : Nat) + (0 : Nat)) (1 : Nat) = some [D.v (.int .i64 n)] ∧ ∃ (o : Unit), (↑(findN (2 : Int) (i.b.rungs (2 : Int)) i.price) : Int) = (↑i_1 : Int) ∧ findB (2 : Int) (i.b.rungs (2 : Int)) i.price = (n == i.price) ∧ i.b.top1 = i.b.top1 ∧ i.b.top2 = i.b.top2 ∧ i.b.has1 = i.b.has1 ∧ i.b.has2 = i.b.has2 ∧ AObj.adt Arena (3 : Nat) ArenaU i.b.a = BookU i.b (1 : Nat) ∧ List.map rungE i.b.buys = List.map rungE i.b.buys ∧ List.map rungE i.b.sells = List.map rungE i.b.sells ∧ atE i.b.at_ = atE i.b.at_ ∧ iE i.b.spare = iE i.b.spare ∧ True) (∃ (o : Unit), (↑(findN (2 : Int) (i.b.rungs (2 : Int)) i.price) : Int) = (↑i_1 : Int) ∧ findB (2 : Int) (i.b.rungs (2 : Int)) i.price = false ∧ i.b.top1 = i.b.top1 ∧ i.b.top2 = i.b.top2 ∧ i.b.has1 = i.b.has1 ∧ i.b.has2 = i.b.has2 ∧ AObj.adt Arena (3 : Nat) ArenaU i.b.a = BookU i.b (1 : Nat) ∧ List.map rungE i.b.buys = List.map rungE i.b.buys ∧ List.map rungE i.b.sells = List.map rungE i.b.sells ∧ atE i.b.at_ = atE i.b.at_ ∧ iE i.b.spare = iE i.b.spare ∧ True))) (cnd (decide ((↑i_1 : Int) < (↑(List.map rungE i.b.sells).length : Int))) (((0 : Int) ≤ (↑i_1 : Int) ∧ (↑i_1 : Int) < (↑(List.map rungE i.b.sells).length : Int)) ∧ ∃ (n : Int), elPart (List.map rungE i.b.sells) (↑i_1 : Int).toNat ((0 : Nat) + (0 : Nat)) (1 : Nat) = some [D.v (.int .i64 n)] ∧ ∃ (o : Unit), (↑(findN (2 : Int) (i.b.rungs (2 : Int)) i.price) : Int) = (↑i_1 : Int) ∧ findB (2 : Int) (i.b.rungs (2 : Int)) i.price = (n == i.price) ∧ i.b.top1 = i.b.top1 ∧ i.b.top2 = i.b.top2 ∧ i.b.has1 = i.b.has1 ∧ i.b.has2 = i.b.has2 ∧ AObj.adt Arena (3 : Nat) ArenaU i.b.a = BookU i.b (1 : Nat) ∧ List.map rungE i.b.buys = List.map rungE i.b.buys ∧ List.map rungE i.b.sells = List.map rungE i.b.sells ∧ atE i.b.at_ = atE i.b.at_ ∧ iE i.b.spare = iE i.b.spare ∧ True) (∃ (o : Unit), (↑(findN (2 : Int) (i.b.rungs (2 : Int)) i.price) : Int) = (↑i_1 : Int) ∧ findB (2 : Int) (i.b.rungs (2 : Int)) i.price = false ∧ i.b.top1 = i.b.top1 ∧ i.b.top2 = i.b.top2 ∧ i.b.has1 = i.b.has1 ∧ i.b.has2 = i.b.has2 ∧ AObj.adt Arena (3 : Nat) ArenaU i.b.a = BookU i.b (1 : Nat) ∧ List.map rungE i.b.buys = List.map rungE i.b.buys ∧ List.map rungE i.b.sells = List.map rungE i.b.sells ∧ atE i.b.at_ = atE i.b.at_ ∧ iE i.b.spare = iE i.b.spare ∧ True))
theorem eqfind2 (i : BkP) : Vfind2 i = walk Try.prog ([(58, bbetterC)]) 0 ([]) (findA) [] Try.f77 (Try.f77.body.getD .skip) (find2C.pat i) (find2C.pre i) (find2C.alts i) := by kernel_rfl

theorem byfind2 (hG : GOk Try.prog ([(58, bbetterC)])) (h : ∀ (i : BkP), find2C.cnd i → Vfind2 i) : find2C.ok Try.prog 77 := ok_of_walk mixed ([(58, bbetterC)]) hG 0 (fun (i : BkP) => []) (fun (i : BkP) => findA) [] Try.func77 (by kernel_rfl) (by kernel_rfl) (by kernel_rfl) (fun _ => by kernel_rfl) (fun (i : BkP) hc => Eq.mp (eqfind2 i) (h i hc))

def Vlead1 (i : LdI) : Prop :=
  cnd i.b.has1 ((∀ (p : Value × List D), p ∈ atE i.b.at_ → like (Value.int IntKind.i64 i.b.top1) p.fst = true) ∧ ∃ (b : Bool), ∃ (n : Int), ∃ (n_1 : Int), ∃ (n_2 : Int), (mget (Value.int IntKind.i64 i.b.top1) (atE i.b.at_) = some [D.v (.int .i64 n), D.v (.int .i64 n_1), D.v (.int .i64 n_2)] ∧ b = true ∨ mget (Value.int IntKind.i64 i.b.top1) (atE i.b.at_) = none ∧ [D.v (.int .i64 n), D.v (.int .i64 n_1), D.v (.int .i64 n_2)] = [D.v (.int .i64 0), D.v (.int .i64 0), D.v (.int .i64 0)] ∧ b = false) ∧ ((∀ (p : Value × List D), p ∈ atE i.b.at_ → like (Value.int IntKind.i64 i.b.top1) p.fst = true) ∧ ∃ (b_1 : Bool), ∃ (n_3 : Int), ∃ (n_4 : Int), ∃ (n_5 : Int), (mget (Value.int IntKind.i64 i.b.top1) (atE i.b.at_) = some [D.v (.int .i64 n_3), D.v (.int .i64 n_4), D.v (.int .i64 n_5)] ∧ b_1 = true ∨ mget (Value.int IntKind.i64 i.b.top1) (atE i.b.at_) = none ∧ [D.v (.int .i64 n_3), D.v (.int .i64 n_4), D.v (.int .i64 n_5)] = [D.v (.int .i64 0), D.v (.int .i64 0), D.v (.int .i64 0)] ∧ b_1 = false) ∧ (n_3 = n ∧ n_4 = n_1 ∧ n_5 = n_2 ∧ True) ∧ b_1 = b ∧ True) ∧ i.b.top1 = i.b.top1 ∧ True ∧ cnd b (cnd (n == (1 : Int)) (∃ (i_1 : ATop), i_1.n = n_2 ∧ i_1.t = false ∧ AObj.adt Arena (3 : Nat) ArenaU i_1.a = BookU i.b (1 : Nat) ∧ i_1.a.slots.length ≤ (1000000 : Nat) ∧ ∀ (o : Unit), True → ∃ (o : Unit), i.id = i.id ∧ i.b.top2 = i.b.top2 ∧ true = true ∧ i.b.has2 = i.b.has2 ∧ AObj.adt Arena (3 : Nat) ArenaU (i.b.untop (1 : Int)) = AObj.adt Arena (3 : Nat) ArenaU (i_1.a.topF i_1.n i_1.t) ∧ List.map rungE i.b.buys = List.map rungE i.b.buys ∧ List.map rungE i.b.sells = List.map rungE i.b.sells ∧ atE i.b.at_ = atE i.b.at_ ∧ iE i.b.spare = iE i.b.spare ∧ True) (∃ (o : Unit), i.id = i.id ∧ i.b.top2 = i.b.top2 ∧ true = true ∧ i.b.has2 = i.b.has2 ∧ AObj.adt Arena (3 : Nat) ArenaU (i.b.untop (1 : Int)) = BookU i.b (1 : Nat) ∧ List.map rungE i.b.buys = List.map rungE i.b.buys ∧ List.map rungE i.b.sells = List.map rungE i.b.sells ∧ atE i.b.at_ = atE i.b.at_ ∧ iE i.b.spare = iE i.b.spare ∧ True)) (∃ (o : Unit), i.id = i.id ∧ i.b.top2 = i.b.top2 ∧ true = true ∧ i.b.has2 = i.b.has2 ∧ AObj.adt Arena (3 : Nat) ArenaU (i.b.untop (1 : Int)) = BookU i.b (1 : Nat) ∧ List.map rungE i.b.buys = List.map rungE i.b.buys ∧ List.map rungE i.b.sells = List.map rungE i.b.sells ∧ atE i.b.at_ = atE i.b.at_ ∧ iE i.b.spare = iE i.b.spare ∧ True)) (∃ (o : Unit), i.id = i.id ∧ i.b.top2 = i.b.top2 ∧ true = true ∧ i.b.has2 = i.b.has2 ∧ AObj.adt Arena (3 : Nat) ArenaU (i.b.untop (1 : Int)) = BookU i.b (1 : Nat) ∧ List.map rungE i.b.buys = List.map rungE i.b.buys ∧ List.map rungE i.b.sells = List.map rungE i.b.sells ∧ atE i.b.at_ = atE i.b.at_ ∧ iE i.b.spare = iE i.b.spare ∧ True)
theorem eqlead1 (i : LdI) : Vlead1 i = walk Try.prog ([(73, atopC)]) 0 ([]) ([]) [] Try.f59 (Try.f59.body.getD .skip) (lead1C.pat i) (lead1C.pre i) (lead1C.alts i) := by kernel_rfl

theorem bylead1 (hG : GOk Try.prog ([(73, atopC)])) (h : ∀ (i : LdI), lead1C.cnd i → Vlead1 i) : lead1C.ok Try.prog 59 := ok_of_walk mixed ([(73, atopC)]) hG 0 (fun (i : LdI) => []) (fun (i : LdI) => []) [] Try.func59 (by kernel_rfl) (by kernel_rfl) (by kernel_rfl) (fun _ => by kernel_rfl) (fun (i : LdI) hc => Eq.mp (eqlead1 i) (h i hc))

def Vlead2 (i : LdI) : Prop :=
  cnd i.b.has2 ((∀ (p : Value × List D), p ∈ atE i.b.at_ → like (Value.int IntKind.i64 i.b.top2) p.fst = true) ∧ ∃ (b : Bool), ∃ (n : Int), ∃ (n_1 : Int), ∃ (n_2 : Int), (mget (Value.int IntKind.i64 i.b.top2) (atE i.b.at_) = some [D.v (.int .i64 n), D.v (.int .i64 n_1), D.v (.int .i64 n_2)] ∧ b = true ∨ mget (Value.int IntKind.i64 i.b.top2) (atE i.b.at_) = none ∧ [D.v (.int .i64 n), D.v (.int .i64 n_1), D.v (.int .i64 n_2)] = [D.v (.int .i64 0), D.v (.int .i64 0), D.v (.int .i64 0)] ∧ b = false) ∧ ((∀ (p : Value × List D), p ∈ atE i.b.at_ → like (Value.int IntKind.i64 i.b.top2) p.fst = true) ∧ ∃ (b_1 : Bool), ∃ (n_3 : Int), ∃ (n_4 : Int), ∃ (n_5 : Int), (mget (Value.int IntKind.i64 i.b.top2) (atE i.b.at_) = some [D.v (.int .i64 n_3), D.v (.int .i64 n_4), D.v (.int .i64 n_5)] ∧ b_1 = true ∨ mget (Value.int IntKind.i64 i.b.top2) (atE i.b.at_) = none ∧ [D.v (.int .i64 n_3), D.v (.int .i64 n_4), D.v (.int .i64 n_5)] = [D.v (.int .i64 0), D.v (.int .i64 0), D.v (.int .i64 0)] ∧ b_1 = false) ∧ (n_3 = n ∧ n_4 = n_1 ∧ n_5 = n_2 ∧ True) ∧ b_1 = b ∧ True) ∧ i.b.top2 = i.b.top2 ∧ True ∧ cnd b (cnd (n == (2 : Int)) (∃ (i_1 : ATop), i_1.n = n_2 ∧ i_1.t = false ∧ AObj.adt Arena (3 : Nat) ArenaU i_1.a = BookU i.b (1 : Nat) ∧ i_1.a.slots.length ≤ (1000000 : Nat) ∧ ∀ (o : Unit), True → ∃ (o : Unit), i.b.top1 = i.b.top1 ∧ i.id = i.id ∧ i.b.has1 = i.b.has1 ∧ true = true ∧ AObj.adt Arena (3 : Nat) ArenaU (i.b.untop (2 : Int)) = AObj.adt Arena (3 : Nat) ArenaU (i_1.a.topF i_1.n i_1.t) ∧ List.map rungE i.b.buys = List.map rungE i.b.buys ∧ List.map rungE i.b.sells = List.map rungE i.b.sells ∧ atE i.b.at_ = atE i.b.at_ ∧ iE i.b.spare = iE i.b.spare ∧ True) (∃ (o : Unit), i.b.top1 = i.b.top1 ∧ i.id = i.id ∧ i.b.has1 = i.b.has1 ∧ true = true ∧ AObj.adt Arena (3 : Nat) ArenaU (i.b.untop (2 : Int)) = BookU i.b (1 : Nat) ∧ List.map rungE i.b.buys = List.map rungE i.b.buys ∧ List.map rungE i.b.sells = List.map rungE i.b.sells ∧ atE i.b.at_ = atE i.b.at_ ∧ iE i.b.spare = iE i.b.spare ∧ True)) (∃ (o : Unit), i.b.top1 = i.b.top1 ∧ i.id = i.id ∧ i.b.has1 = i.b.has1 ∧ true = true ∧ AObj.adt Arena (3 : Nat) ArenaU (i.b.untop (2 : Int)) = BookU i.b (1 : Nat) ∧ List.map rungE i.b.buys = List.map rungE i.b.buys ∧ List.map rungE i.b.sells = List.map rungE i.b.sells ∧ atE i.b.at_ = atE i.b.at_ ∧ iE i.b.spare = iE i.b.spare ∧ True)) (∃ (o : Unit), i.b.top1 = i.b.top1 ∧ i.id = i.id ∧ i.b.has1 = i.b.has1 ∧ true = true ∧ AObj.adt Arena (3 : Nat) ArenaU (i.b.untop (2 : Int)) = BookU i.b (1 : Nat) ∧ List.map rungE i.b.buys = List.map rungE i.b.buys ∧ List.map rungE i.b.sells = List.map rungE i.b.sells ∧ atE i.b.at_ = atE i.b.at_ ∧ iE i.b.spare = iE i.b.spare ∧ True)
theorem eqlead2 (i : LdI) : Vlead2 i = walk Try.prog ([(73, atopC)]) 0 ([]) ([]) [] Try.f59 (Try.f59.body.getD .skip) (lead2C.pat i) (lead2C.pre i) (lead2C.alts i) := by kernel_rfl

theorem bylead2 (hG : GOk Try.prog ([(73, atopC)])) (h : ∀ (i : LdI), lead2C.cnd i → Vlead2 i) : lead2C.ok Try.prog 59 := ok_of_walk mixed ([(73, atopC)]) hG 0 (fun (i : LdI) => []) (fun (i : LdI) => []) [] Try.func59 (by kernel_rfl) (by kernel_rfl) (by kernel_rfl) (fun _ => by kernel_rfl) (fun (i : LdI) hc => Eq.mp (eqlead2 i) (h i hc))

def Vqueue1 (i : BkP) : Prop :=
  ∃ (i_1 : BkP), (1 : Int) = (1 : Int) ∧ i_1.price = i.price ∧ i_1.b.top1 = i.b.top1 ∧ i_1.b.top2 = i.b.top2 ∧ i_1.b.has1 = i.b.has1 ∧ i_1.b.has2 = i.b.has2 ∧ AObj.adt Arena (3 : Nat) ArenaU i_1.b.a = BookU i.b (1 : Nat) ∧ List.map rungE i_1.b.buys = List.map rungE i.b.buys ∧ List.map rungE i_1.b.sells = List.map rungE i.b.sells ∧ atE i_1.b.at_ = atE i.b.at_ ∧ iE i_1.b.spare = iE i.b.spare ∧ ((i_1.b.a.slots.length ≤ (1000000 : Nat) ∧ i_1.b.a.queues.length ≤ (1000000 : Nat)) ∧ i_1.b.buys.length ≤ (1000000 : Nat) ∧ i_1.b.sells.length ≤ (1000000 : Nat) ∧ i_1.b.spare.length ≤ (1000000 : Nat)) ∧ ∀ (o : Unit), True → cnd (findB (1 : Int) (i_1.b.rungs (1 : Int)) i_1.price) (((0 : Int) ≤ (↑(findN (1 : Int) (i_1.b.rungs (1 : Int)) i_1.price) : Int) ∧ (↑(findN (1 : Int) (i_1.b.rungs (1 : Int)) i_1.price) : Int) < (↑(List.map rungE i_1.b.buys).length : Int)) ∧ ∃ (n : Int), elPart (List.map rungE i_1.b.buys) (↑(findN (1 : Int) (i_1.b.rungs (1 : Int)) i_1.price) : Int).toNat ((0 : Nat) + (1 : Nat)) (1 : Nat) = some [D.v (.int .i64 n)] ∧ ∃ (o : Unit), (i.b.queueF (1 : Int) i.price).snd = n ∧ (i.b.queueF (1 : Int) i.price).fst.top1 = i_1.b.top1 ∧ (i.b.queueF (1 : Int) i.price).fst.top2 = i_1.b.top2 ∧ (i.b.queueF (1 : Int) i.price).fst.has1 = i_1.b.has1 ∧ (i.b.queueF (1 : Int) i.price).fst.has2 = i_1.b.has2 ∧ AObj.adt Arena (3 : Nat) ArenaU (i.b.queueF (1 : Int) i.price).fst.a = AObj.adt Arena (3 : Nat) ArenaU i_1.b.a ∧ List.map rungE (i.b.queueF (1 : Int) i.price).fst.sells = List.map rungE i_1.b.sells ∧ atE (i.b.queueF (1 : Int) i.price).fst.at_ = atE i_1.b.at_ ∧ List.map rungE (i.b.queueF (1 : Int) i.price).fst.buys = List.map rungE i_1.b.buys ∧ iE (i.b.queueF (1 : Int) i.price).fst.spare = iE i_1.b.spare ∧ True) (cnd (decide ((↑(iE i_1.b.spare).length : Int) > (0 : Int))) (((0 : Int) ≤ IntKind.i64.wrap ((↑(iE i_1.b.spare).length : Int) - (1 : Int)) ∧ IntKind.i64.wrap ((↑(iE i_1.b.spare).length : Int) - (1 : Int)) < (↑(iE i_1.b.spare).length : Int)) ∧ ∃ (n : Int), elPart (iE i_1.b.spare) (IntKind.i64.wrap ((↑(iE i_1.b.spare).length : Int) - (1 : Int))).toNat (0 : Nat) (1 : Nat) = some [D.v (.int .i64 n)] ∧ ((0 : Int) ≤ IntKind.i64.wrap ((↑(iE i_1.b.spare).length : Int) - (1 : Int)) ∧ IntKind.i64.wrap ((↑(iE i_1.b.spare).length : Int) - (1 : Int)) ≤ (↑(iE i_1.b.spare).length : Int)) ∧ True ∧ ∃ (i_2 : InsI), (↑i_2.i : Int) = (↑(findN (1 : Int) (i_1.b.rungs (1 : Int)) i_1.price) : Int) ∧ i_2.els = List.map rungE i_1.b.buys ∧ [i_2.el] = [[D.v (.int .i64 i.price), D.v (.int .i64 n)]] ∧ (i_2.i ≤ i_2.els.length ∧ (i_2.els.length + (1 : Nat)) * (16 : Nat) ≤ (70368744177664 : Nat)) ∧ ∀ (o : Unit), True → ∃ (o : Unit), (i.b.queueF (1 : Int) i.price).snd = n ∧ (i.b.queueF (1 : Int) i.price).fst.top1 = i_1.b.top1 ∧ (i.b.queueF (1 : Int) i.price).fst.top2 = i_1.b.top2 ∧ (i.b.queueF (1 : Int) i.price).fst.has1 = i_1.b.has1 ∧ (i.b.queueF (1 : Int) i.price).fst.has2 = i_1.b.has2 ∧ AObj.adt Arena (3 : Nat) ArenaU (i.b.queueF (1 : Int) i.price).fst.a = AObj.adt Arena (3 : Nat) ArenaU i_1.b.a ∧ List.map rungE (i.b.queueF (1 : Int) i.price).fst.sells = List.map rungE i_1.b.sells ∧ atE (i.b.queueF (1 : Int) i.price).fst.at_ = atE i_1.b.at_ ∧ List.map rungE (i.b.queueF (1 : Int) i.price).fst.buys = List.take i_2.i i_2.els ++ i_2.el :: List.drop i_2.i i_2.els ∧ iE (i.b.queueF (1 : Int) i.price).fst.spare = List.take (IntKind.i64.wrap ((↑(iE i_1.b.spare).length : Int) - (1 : Int))).toNat (iE i_1.b.spare) ∧ True) (∃ (i_2 : Arena), AObj.adt Arena (3 : Nat) ArenaU i_2 = AObj.adt Arena (3 : Nat) ArenaU i_1.b.a ∧ i_2.queues.length ≤ (1000000 : Nat) ∧ ∀ (o : Unit), True → True ∧ ∃ (i_3 : InsI), (↑i_3.i : Int) = (↑(findN (1 : Int) (i_1.b.rungs (1 : Int)) i_1.price) : Int) ∧ i_3.els = List.map rungE i_1.b.buys ∧ [i_3.el] = [[D.v (.int .i64 i.price), D.v (.int .i64 (↑i_2.queues.length : Int))]] ∧ (i_3.i ≤ i_3.els.length ∧ (i_3.els.length + (1 : Nat)) * (16 : Nat) ≤ (70368744177664 : Nat)) ∧ ∀ (o : Unit), True → ∃ (o : Unit), (i.b.queueF (1 : Int) i.price).snd = (↑i_2.queues.length : Int) ∧ (i.b.queueF (1 : Int) i.price).fst.top1 = i_1.b.top1 ∧ (i.b.queueF (1 : Int) i.price).fst.top2 = i_1.b.top2 ∧ (i.b.queueF (1 : Int) i.price).fst.has1 = i_1.b.has1 ∧ (i.b.queueF (1 : Int) i.price).fst.has2 = i_1.b.has2 ∧ AObj.adt Arena (3 : Nat) ArenaU (i.b.queueF (1 : Int) i.price).fst.a = AObj.adt Arena (3 : Nat) ArenaU i_2.openQ ∧ List.map rungE (i.b.queueF (1 : Int) i.price).fst.sells = List.map rungE i_1.b.sells ∧ atE (i.b.queueF (1 : Int) i.price).fst.at_ = atE i_1.b.at_ ∧ List.map rungE (i.b.queueF (1 : Int) i.price).fst.buys = List.take i_3.i i_3.els ++ i_3.el :: List.drop i_3.i i_3.els ∧ iE (i.b.queueF (1 : Int) i.price).fst.spare = iE i_1.b.spare ∧ True))
theorem eqqueue1 (i : BkP) : Vqueue1 i = walk Try.prog ([(77, find1C), (78, aopenC), (79, insRC)]) 0 ([]) ([]) [] Try.f61 (Try.f61.body.getD .skip) (queue1C.pat i) (queue1C.pre i) (queue1C.alts i) := by kernel_rfl

theorem byqueue1 (hG : GOk Try.prog ([(77, find1C), (78, aopenC), (79, insRC)])) (h : ∀ (i : BkP), queue1C.cnd i → Vqueue1 i) : queue1C.ok Try.prog 61 := ok_of_walk mixed ([(77, find1C), (78, aopenC), (79, insRC)]) hG 0 (fun (i : BkP) => []) (fun (i : BkP) => []) [] Try.func61 (by kernel_rfl) (by kernel_rfl) (by kernel_rfl) (fun _ => by kernel_rfl) (fun (i : BkP) hc => Eq.mp (eqqueue1 i) (h i hc))

def Vqueue2 (i : BkP) : Prop :=
  ∃ (i_1 : BkP), (2 : Int) = (2 : Int) ∧ i_1.price = i.price ∧ i_1.b.top1 = i.b.top1 ∧ i_1.b.top2 = i.b.top2 ∧ i_1.b.has1 = i.b.has1 ∧ i_1.b.has2 = i.b.has2 ∧ AObj.adt Arena (3 : Nat) ArenaU i_1.b.a = BookU i.b (1 : Nat) ∧ List.map rungE i_1.b.buys = List.map rungE i.b.buys ∧ List.map rungE i_1.b.sells = List.map rungE i.b.sells ∧ atE i_1.b.at_ = atE i.b.at_ ∧ iE i_1.b.spare = iE i.b.spare ∧ ((i_1.b.a.slots.length ≤ (1000000 : Nat) ∧ i_1.b.a.queues.length ≤ (1000000 : Nat)) ∧ i_1.b.buys.length ≤ (1000000 : Nat) ∧ i_1.b.sells.length ≤ (1000000 : Nat) ∧ i_1.b.spare.length ≤ (1000000 : Nat)) ∧ ∀ (o : Unit), True → cnd (findB (2 : Int) (i_1.b.rungs (2 : Int)) i_1.price) (((0 : Int) ≤ (↑(findN (2 : Int) (i_1.b.rungs (2 : Int)) i_1.price) : Int) ∧ (↑(findN (2 : Int) (i_1.b.rungs (2 : Int)) i_1.price) : Int) < (↑(List.map rungE i_1.b.sells).length : Int)) ∧ ∃ (n : Int), elPart (List.map rungE i_1.b.sells) (↑(findN (2 : Int) (i_1.b.rungs (2 : Int)) i_1.price) : Int).toNat ((0 : Nat) + (1 : Nat)) (1 : Nat) = some [D.v (.int .i64 n)] ∧ ∃ (o : Unit), (i.b.queueF (2 : Int) i.price).snd = n ∧ (i.b.queueF (2 : Int) i.price).fst.top1 = i_1.b.top1 ∧ (i.b.queueF (2 : Int) i.price).fst.top2 = i_1.b.top2 ∧ (i.b.queueF (2 : Int) i.price).fst.has1 = i_1.b.has1 ∧ (i.b.queueF (2 : Int) i.price).fst.has2 = i_1.b.has2 ∧ AObj.adt Arena (3 : Nat) ArenaU (i.b.queueF (2 : Int) i.price).fst.a = AObj.adt Arena (3 : Nat) ArenaU i_1.b.a ∧ List.map rungE (i.b.queueF (2 : Int) i.price).fst.buys = List.map rungE i_1.b.buys ∧ atE (i.b.queueF (2 : Int) i.price).fst.at_ = atE i_1.b.at_ ∧ List.map rungE (i.b.queueF (2 : Int) i.price).fst.sells = List.map rungE i_1.b.sells ∧ iE (i.b.queueF (2 : Int) i.price).fst.spare = iE i_1.b.spare ∧ True) (cnd (decide ((↑(iE i_1.b.spare).length : Int) > (0 : Int))) (((0 : Int) ≤ IntKind.i64.wrap ((↑(iE i_1.b.spare).length : Int) - (1 : Int)) ∧ IntKind.i64.wrap ((↑(iE i_1.b.spare).length : Int) - (1 : Int)) < (↑(iE i_1.b.spare).length : Int)) ∧ ∃ (n : Int), elPart (iE i_1.b.spare) (IntKind.i64.wrap ((↑(iE i_1.b.spare).length : Int) - (1 : Int))).toNat (0 : Nat) (1 : Nat) = some [D.v (.int .i64 n)] ∧ ((0 : Int) ≤ IntKind.i64.wrap ((↑(iE i_1.b.spare).length : Int) - (1 : Int)) ∧ IntKind.i64.wrap ((↑(iE i_1.b.spare).length : Int) - (1 : Int)) ≤ (↑(iE i_1.b.spare).length : Int)) ∧ True ∧ ∃ (i_2 : InsI), (↑i_2.i : Int) = (↑(findN (2 : Int) (i_1.b.rungs (2 : Int)) i_1.price) : Int) ∧ i_2.els = List.map rungE i_1.b.sells ∧ [i_2.el] = [[D.v (.int .i64 i.price), D.v (.int .i64 n)]] ∧ (i_2.i ≤ i_2.els.length ∧ (i_2.els.length + (1 : Nat)) * (16 : Nat) ≤ (70368744177664 : Nat)) ∧ ∀ (o : Unit), True → ∃ (o : Unit), (i.b.queueF (2 : Int) i.price).snd = n ∧ (i.b.queueF (2 : Int) i.price).fst.top1 = i_1.b.top1 ∧ (i.b.queueF (2 : Int) i.price).fst.top2 = i_1.b.top2 ∧ (i.b.queueF (2 : Int) i.price).fst.has1 = i_1.b.has1 ∧ (i.b.queueF (2 : Int) i.price).fst.has2 = i_1.b.has2 ∧ AObj.adt Arena (3 : Nat) ArenaU (i.b.queueF (2 : Int) i.price).fst.a = AObj.adt Arena (3 : Nat) ArenaU i_1.b.a ∧ List.map rungE (i.b.queueF (2 : Int) i.price).fst.buys = List.map rungE i_1.b.buys ∧ atE (i.b.queueF (2 : Int) i.price).fst.at_ = atE i_1.b.at_ ∧ List.map rungE (i.b.queueF (2 : Int) i.price).fst.sells = List.take i_2.i i_2.els ++ i_2.el :: List.drop i_2.i i_2.els ∧ iE (i.b.queueF (2 : Int) i.price).fst.spare = List.take (IntKind.i64.wrap ((↑(iE i_1.b.spare).length : Int) - (1 : Int))).toNat (iE i_1.b.spare) ∧ True) (∃ (i_2 : Arena), AObj.adt Arena (3 : Nat) ArenaU i_2 = AObj.adt Arena (3 : Nat) ArenaU i_1.b.a ∧ i_2.queues.length ≤ (1000000 : Nat) ∧ ∀ (o : Unit), True → True ∧ ∃ (i_3 : InsI), (↑i_3.i : Int) = (↑(findN (2 : Int) (i_1.b.rungs (2 : Int)) i_1.price) : Int) ∧ i_3.els = List.map rungE i_1.b.sells ∧ [i_3.el] = [[D.v (.int .i64 i.price), D.v (.int .i64 (↑i_2.queues.length : Int))]] ∧ (i_3.i ≤ i_3.els.length ∧ (i_3.els.length + (1 : Nat)) * (16 : Nat) ≤ (70368744177664 : Nat)) ∧ ∀ (o : Unit), True → ∃ (o : Unit), (i.b.queueF (2 : Int) i.price).snd = (↑i_2.queues.length : Int) ∧ (i.b.queueF (2 : Int) i.price).fst.top1 = i_1.b.top1 ∧ (i.b.queueF (2 : Int) i.price).fst.top2 = i_1.b.top2 ∧ (i.b.queueF (2 : Int) i.price).fst.has1 = i_1.b.has1 ∧ (i.b.queueF (2 : Int) i.price).fst.has2 = i_1.b.has2 ∧ AObj.adt Arena (3 : Nat) ArenaU (i.b.queueF (2 : Int) i.price).fst.a = AObj.adt Arena (3 : Nat) ArenaU i_2.openQ ∧ List.map rungE (i.b.queueF (2 : Int) i.price).fst.buys = List.map rungE i_1.b.buys ∧ atE (i.b.queueF (2 : Int) i.price).fst.at_ = atE i_1.b.at_ ∧ List.map rungE (i.b.queueF (2 : Int) i.price).fst.sells = List.take i_3.i i_3.els ++ i_3.el :: List.drop i_3.i i_3.els ∧ iE (i.b.queueF (2 : Int) i.price).fst.spare = iE i_1.b.spare ∧ True))
theorem eqqueue2 (i : BkP) : Vqueue2 i = walk Try.prog ([(77, find2C), (78, aopenC), (79, insRC)]) 0 ([]) ([]) [] Try.f61 (Try.f61.body.getD .skip) (queue2C.pat i) (queue2C.pre i) (queue2C.alts i) := by kernel_rfl

theorem byqueue2 (hG : GOk Try.prog ([(77, find2C), (78, aopenC), (79, insRC)])) (h : ∀ (i : BkP), queue2C.cnd i → Vqueue2 i) : queue2C.ok Try.prog 61 := ok_of_walk mixed ([(77, find2C), (78, aopenC), (79, insRC)]) hG 0 (fun (i : BkP) => []) (fun (i : BkP) => []) [] Try.func61 (by kernel_rfl) (by kernel_rfl) (by kernel_rfl) (fun _ => by kernel_rfl) (fun (i : BkP) hc => Eq.mp (eqqueue2 i) (h i hc))

end Sx

namespace Sx
set_option linter.unusedVariables false
set_option linter.unusedSimpArgs false
set_option maxRecDepth 100000
open Go Cv Go.Proofs

theorem bbetter_ok : bbetterC.ok Try.prog 58 := bybbetter gok0 fun i _ => by
  unfold Vbbetter
  refine Cv.cnd.mk (fun c => ?_) (fun c => ?_)
  · have c : i.side = 1 := by simpa using c
    rw [btr, if_pos c]; (repeat' (first | exact rfl | exact trivial | assumption | apply And.intro | (refine fun (_ : Unit) (_ : True) => ?_) | (refine Exists.intro () ?_) | omega | (dsimp only; omega)))
  · have c : ¬ i.side = 1 := by simpa using c
    rw [btr, if_neg c]; (repeat' (first | exact rfl | exact trivial | assumption | apply And.intro | (refine fun (_ : Unit) (_ : True) => ?_) | (refine Exists.intro () ?_) | omega | (dsimp only; omega)))
theorem pushF_ok : pushFC.ok Try.prog 76 := bypushF gok0 fun s _ => by
  unfold VpushF; (repeat' (first | exact rfl | exact trivial | assumption | apply And.intro | (refine fun (_ : Unit) (_ : True) => ?_) | (refine Exists.intro () ?_) | omega | (dsimp only; omega)))

theorem elSl {l : List Slot} {k : Nat} {s : Slot} (h : l[k]? = some s) : elPart (l.map slotE) k 0 8 = some [D.v (.bool s.used), .v (.int .i64 s.n), .v (.int .i64 s.id), .v (.int .i64 s.qty), .v (.bool s.top), .v (.int .i64 s.queue), .v (.int .i64 s.ahead), .v (.int .i64 s.back)] := elA h (by simp [slotE]) rfl
theorem vidxSlot (l : List Slot) (h : idxSlotC.cnd l) : VidxSlot l := by
  have h : l.length ≤ 1000000 := h
  unfold VidxSlot
  simp only [List.length_map]
  refine ⟨0, rfl, fun j => j ≤ l.length ∧ ∀ k < j, ∀ x, l[k]? = some x → (!x.used) = false, fun j => l.length - j, ⟨by omega, fun k hk => by omega⟩, ?_⟩
  rintro j ⟨h3, h4⟩
  refine cndD (fun hj => ?_) (fun hj => ?_)
  · obtain ⟨s, hs⟩ := getI (l := l) (i := j) (by omega)
    refine ⟨⟨by omega, by omega⟩, s.used, s.n, s.id, s.qty, s.top, s.queue, s.ahead, s.back, elSl hs, s, rfl, rfl, rfl, rfl, rfl, rfl, rfl, rfl, trivial, fun _ _ => Cv.cnd.mk (fun e => ?_) (fun e => ?_)⟩
    · rw [freeI, find_some hs e h4]; (repeat' (first | exact rfl | exact trivial | assumption | apply And.intro | (refine fun (_ : Unit) (_ : True) => ?_) | (refine Exists.intro () ?_) | omega | (dsimp only; omega)))
    · refine ⟨j + 1, by rw [w64 (by omega)]; rfl, ⟨by omega, fun k hk x hx => ?_⟩, by (first | omega | (dsimp only; omega)), by (repeat' (first | exact trivial | exact rfl | apply And.intro))⟩
      rcases Nat.lt_or_ge k j with hk' | hk'
      · exact h4 k hk' x hx
      · obtain rfl : k = j := by omega
        rw [hs] at hx; cases hx; exact e
  · rw [freeI, find_none fun k x hx => h4 k (by have := (List.getElem?_eq_some_iff.1 hx).1; omega) x hx]; (repeat' (first | exact rfl | exact trivial | assumption | apply And.intro | (refine fun (_ : Unit) (_ : True) => ?_) | (refine Exists.intro () ?_) | omega | (dsimp only; omega)))
theorem idxSlot_ok : idxSlotC.ok Try.prog 75 := byidxSlot (gokc pushF_ok gok0) vidxSlot

theorem aopen_ok : aopenC.ok Try.prog 78 := byaopen gok0 fun a h => by
  have h : a.queues.length ≤ 1000000 := h
  unfold Vaopen
  rw [List.length_append, List.length_map, w64 (by simp only [List.length_cons, List.length_nil]; omega)]
  refine ⟨by omega, (), ?_, rfl, rfl, ?_, trivial⟩
  · simp
  · rw [List.map_append]; rfl

theorem mod_set {α : Type} {f : α → α} : ∀ {l : List α} {i : Nat} {x : α}, l[i]? = some x → l.modify i f = l.set i (f x)
  | [], i, x, h => by simp at h
  | a :: l, 0, x, h => by simp at h; subst h; rfl
  | a :: l, i + 1, x, h => by
    simp only [List.getElem?_cons_succ] at h
    simp only [List.modify_succ_cons, List.set_cons_succ, mod_set h]
theorem elSet_set {α : Type} {f : α → List D} {l : List α} {i g : Nat} {x y : α} {ds : List D} (hi : l[i]? = some x) (hh : (f x).take g ++ (ds ++ (f x).drop (g + ds.length)) = f y) : elSet (l.map f) i g ds = (l.set i y).map f := by
  have hlt := (List.getElem?_eq_some_iff.1 hi).1
  rw [elSet, mod_set (by rw [List.getElem?_map, hi]; rfl), hh, List.map_set]
theorem get_set {α : Type} {l : List α} {i : Nat} {x y : α} (hi : l[i]? = some x) : (l.set i y)[i]? = some y := List.getElem?_set_self (List.getElem?_eq_some_iff.1 hi).1
theorem getD_of {α : Type} {l : List α} {i : Nat} {x d : α} (h : l[i]? = some x) : l.getD i d = x := by rw [List.getD_eq_getElem?_getD, h]; rfl

theorem vatop (i : ATop) (h : atopC.cnd i) : Vatop i := by
  have h : i.a.slots.length ≤ 1000000 := h
  unfold Vatop
  simp only [List.length_map]
  have no (e : i.a.usedAt i.n = false) : i.a.topF i.n i.t = i.a := by rw [Arena.topF, if_neg (by rw [e]; decide)]
  refine cndD (fun c => ?_) (fun c => cndD (fun d => ?_) (fun d => ?_))
  · have e : i.a.usedAt i.n = false := by rw [Arena.usedAt, decide_eq_false (by omega), Bool.false_and]
    rw [no e, e]; (repeat' (first | exact rfl | exact trivial | assumption | apply And.intro | (refine fun (_ : Unit) (_ : True) => ?_) | (refine Exists.intro () ?_) | omega | (dsimp only; omega)))
  · have e : i.a.usedAt i.n = false := by rw [Arena.usedAt, decide_eq_false (show ¬ i.n < (i.a.slots.length : Int) by omega), Bool.false_and, Bool.and_false]
    rw [no e, e]; (repeat' (first | exact rfl | exact trivial | assumption | apply And.intro | (refine fun (_ : Unit) (_ : True) => ?_) | (refine Exists.intro () ?_) | omega | (dsimp only; omega)))
  · obtain ⟨s, hs⟩ := getI (l := i.a.slots) (i := i.n.toNat) (by omega)
    have eu : i.a.usedAt i.n = s.used := by rw [Arena.usedAt, decide_eq_true (show 0 ≤ i.n by omega), decide_eq_true (show i.n < (i.a.slots.length : Int) by omega), getD_of hs]; simp
    refine ⟨⟨by omega, by omega⟩, s.used, elA hs (by simp [slotE]) rfl, Cv.cnd.mk (fun u => ?_) (fun u => ?_)⟩
    · have e : i.a.usedAt i.n = false := by rw [eu]; simpa using u
      rw [no e, e]; (repeat' (first | exact rfl | exact trivial | assumption | apply And.intro | (refine fun (_ : Unit) (_ : True) => ?_) | (refine Exists.intro () ?_) | omega | (dsimp only; omega)))
    · have e : i.a.usedAt i.n = true := by rw [eu]; simpa using u
      have et : i.a.topF i.n i.t = { i.a with slots := i.a.slots.set i.n.toNat { s with top := i.t } } := by
        rw [Arena.topF, if_pos e, mod_set hs]
      rw [et, e, elSet_set hs (y := { s with top := i.t }) rfl]
      refine ⟨⟨by omega, by omega⟩, by omega, (), rfl, rfl, rfl, rfl, trivial⟩
theorem atop_ok : atopC.ok Try.prog 73 := byatop gok0 vatop

theorem freeI_in {l : List Slot} (h : ∃ s ∈ l, s.used = false) : ∃ k : Nat, freeI l = k ∧ k < l.length := by
  obtain ⟨s, hs, hu⟩ := h
  cases hf : l.findIdx? fun s => !s.used with
  | none =>
    rw [List.findIdx?_eq_none_iff] at hf
    have := hf s hs
    rw [hu] at this; cases this
  | some k =>
    rw [List.findIdx?_eq_some_iff_getElem] at hf
    exact ⟨k, by rw [freeI, show (l.findIdx? fun s => !s.used) = some k by rw [List.findIdx?_eq_some_iff_getElem]; exact hf]; rfl, hf.1⟩

theorem vapush (i : PuI) (h : apushC.cnd i) : Vapush i := by
  obtain ⟨h1, h2, h3⟩ : i.a.fit := h
  unfold Vapush
  simp only [List.length_map]
  have out (e : i.n < 0 ∨ i.a.queues.length ≤ i.n) : i.a.push i.n i.id i.qty i.top = (i.a, 0, 26) := by rw [Arena.push, if_pos e]
  refine cndD (fun c => Cv.cnd.mk (fun d => ?_) (fun d => ?_)) (fun c => ?_)
  · have d : ¬ i.n < (i.a.queues.length : Int) := by simpa using d
    rw [out (.inr (by omega))]; (repeat' (first | exact rfl | exact trivial | assumption | apply And.intro | (refine fun (_ : Unit) (_ : True) => ?_) | (refine Exists.intro () ?_) | omega | (dsimp only; omega)))
  · have d : i.n < (i.a.queues.length : Int) := by simpa using d
    have hn : ¬ (i.n < 0 ∨ (i.a.queues.length : Int) ≤ i.n) := by omega
    refine cndD (fun q1 => ?_) (fun q1 => cndD (fun q2 => ?_) (fun q2 => Cv.cnd.mk (fun fr => ?_) (fun fr => ?_)))
    · rw [Arena.push, if_neg hn, if_pos (.inl q1)]; (repeat' (first | exact rfl | exact trivial | assumption | apply And.intro | (refine fun (_ : Unit) (_ : True) => ?_) | (refine Exists.intro () ?_) | omega | (dsimp only; omega)))
    · rw [Arena.push, if_neg hn, if_pos (.inr q2)]; (repeat' (first | exact rfl | exact trivial | assumption | apply And.intro | (refine fun (_ : Unit) (_ : True) => ?_) | (refine Exists.intro () ?_) | omega | (dsimp only; omega)))
    · rw [Arena.push, if_neg hn, if_neg (by omega), if_pos (by simpa using fr)]; (repeat' (first | exact rfl | exact trivial | assumption | apply And.intro | (refine fun (_ : Unit) (_ : True) => ?_) | (refine Exists.intro () ?_) | omega | (dsimp only; omega)))
    · have fr : i.a.free ≠ 0 := by simpa using fr
      have ep : i.a.push i.n i.id i.qty i.top = (i.a.put i.n i.id i.qty i.top, freeI i.a.slots, 0) := by rw [Arena.push, if_neg hn, if_neg (by omega), if_neg fr]
      obtain ⟨k, hk, hkl⟩ := freeI_in (h2 fr)
      obtain ⟨q, hq⟩ := getI (l := i.a.queues) (i := i.n.toNat) (by omega)
      have hqm := List.mem_of_getElem? hq
      have hl := h3 q hqm
      obtain ⟨s, hs⟩ := getI hkl
      refine ⟨i.a.slots, rfl, h1, fun _ _ => ⟨⟨by omega, by omega⟩, q.last, elA hq (by simp [queueE]) rfl, ⟨by omega, by omega⟩, by rw [hk]; exact hkl, q.last, elA hq (by simp [queueE]) rfl, ?_⟩⟩
      rw [ep]
      have eput : i.a.put i.n i.id i.qty i.top = ⟨if q.last = -1 then i.a.slots.set k ⟨true, k, i.id, i.qty, i.top, i.n, q.last, -1⟩ else (i.a.slots.set k ⟨true, k, i.id, i.qty, i.top, i.n, q.last, -1⟩).modify q.last.toNat fun s => { s with back := k }, i.a.queues.set i.n.toNat ⟨if q.last = -1 then k else q.first, k, IntKind.i64.wrap (q.total + i.qty), IntKind.i64.wrap (q.count + 1)⟩, IntKind.i64.wrap (i.a.free - 1)⟩ := by
        simp only [Arena.put, getD_of hq, hk, Int.toNat_natCast]
      rw [eput, hk]
      simp only [Int.toNat_natCast]
      have es : elSet (List.map slotE i.a.slots) k 0 [D.v (.bool true), D.v (.int .i64 k), D.v (.int .i64 i.id), D.v (.int .i64 i.qty), D.v (.bool i.top), D.v (.int .i64 i.n), D.v (.int .i64 q.last), D.v (.int .i64 (-1))] = List.map slotE (i.a.slots.set k ⟨true, k, i.id, i.qty, i.top, i.n, q.last, -1⟩) := elSet_set hs rfl
      rw [es]
      refine Cv.cnd.mk (fun e => ?_) (fun e => ?_)
      · have e : q.last = -1 := by simpa using e
        have e1 : elSet (List.map queueE i.a.queues) i.n.toNat (0 + 0) [D.v (.int .i64 k)] = List.map queueE (i.a.queues.set i.n.toNat { q with first := k }) := elSet_set hq rfl
        have g1 := get_set (y := { q with first := (k : Int) }) hq
        have e2 : elSet (List.map queueE (i.a.queues.set i.n.toNat { q with first := k })) i.n.toNat (0 + 1) [D.v (.int .i64 k)] = List.map queueE (i.a.queues.set i.n.toNat { q with first := k, last := k }) := by
          rw [elSet_set g1 (y := { q with first := (k : Int), last := (k : Int) }) rfl, List.set_set]
        have g2 := get_set (y := { q with first := (k : Int), last := (k : Int) }) hq
        have e3 : elSet (List.map queueE (i.a.queues.set i.n.toNat { q with first := k, last := k })) i.n.toNat (0 + 2) [D.v (.int .i64 (IntKind.i64.wrap (q.total + i.qty)))] = List.map queueE (i.a.queues.set i.n.toNat { q with first := k, last := k, total := IntKind.i64.wrap (q.total + i.qty) }) := by
          rw [elSet_set g2 (y := { q with first := (k : Int), last := (k : Int), total := IntKind.i64.wrap (q.total + i.qty) }) rfl, List.set_set]
        have g3 := get_set (y := { q with first := (k : Int), last := (k : Int), total := IntKind.i64.wrap (q.total + i.qty) }) hq
        have e4 : elSet (List.map queueE (i.a.queues.set i.n.toNat { q with first := k, last := k, total := IntKind.i64.wrap (q.total + i.qty) })) i.n.toNat (0 + 3) [D.v (.int .i64 (IntKind.i64.wrap (q.count + 1)))] = List.map queueE (i.a.queues.set i.n.toNat ⟨k, k, IntKind.i64.wrap (q.total + i.qty), IntKind.i64.wrap (q.count + 1)⟩) := by
          rw [elSet_set g3 (y := ⟨k, k, IntKind.i64.wrap (q.total + i.qty), IntKind.i64.wrap (q.count + 1)⟩) rfl, List.set_set]
        rw [e1, e2]
        simp only [if_pos e]
        refine ⟨by omega, by simp only [List.length_map, List.length_set]; omega, q.total, elA g2 (by simp [queueE]) rfl, by simp only [List.length_map, List.length_set]; omega, q.count, ?_, by rw [e3]; simp only [List.length_map, List.length_set]; omega, (), ?_⟩
        · rw [e3]; exact elA g3 (by simp [queueE]) rfl
        · rw [e3, e4]; (repeat' (first | exact rfl | exact trivial | assumption | apply And.intro | (refine fun (_ : Unit) (_ : True) => ?_) | (refine Exists.intro () ?_) | omega | (dsimp only; omega)))
      · have e : ¬ q.last = -1 := by simpa using e
        have hl : 0 ≤ q.last ∧ q.last < i.a.slots.length := hl.resolve_left e
        have e2 : elSet (List.map queueE i.a.queues) i.n.toNat (0 + 1) [D.v (.int .i64 k)] = List.map queueE (i.a.queues.set i.n.toNat { q with last := k }) := elSet_set hq rfl
        have g2 := get_set (y := { q with last := (k : Int) }) hq
        have e3 : elSet (List.map queueE (i.a.queues.set i.n.toNat { q with last := k })) i.n.toNat (0 + 2) [D.v (.int .i64 (IntKind.i64.wrap (q.total + i.qty)))] = List.map queueE (i.a.queues.set i.n.toNat { q with last := k, total := IntKind.i64.wrap (q.total + i.qty) }) := by
          rw [elSet_set g2 (y := { q with last := (k : Int), total := IntKind.i64.wrap (q.total + i.qty) }) rfl, List.set_set]
        have g3 := get_set (y := { q with last := (k : Int), total := IntKind.i64.wrap (q.total + i.qty) }) hq
        have e4 : elSet (List.map queueE (i.a.queues.set i.n.toNat { q with last := k, total := IntKind.i64.wrap (q.total + i.qty) })) i.n.toNat (0 + 3) [D.v (.int .i64 (IntKind.i64.wrap (q.count + 1)))] = List.map queueE (i.a.queues.set i.n.toNat ⟨q.first, k, IntKind.i64.wrap (q.total + i.qty), IntKind.i64.wrap (q.count + 1)⟩) := by
          rw [elSet_set g3 (y := ⟨q.first, k, IntKind.i64.wrap (q.total + i.qty), IntKind.i64.wrap (q.count + 1)⟩) rfl, List.set_set]
        obtain ⟨s2, hs2⟩ := getI (l := i.a.slots.set k ⟨true, k, i.id, i.qty, i.top, i.n, q.last, -1⟩) (i := q.last.toNat) (by rw [List.length_set]; omega)
        have e5 : elSet (List.map slotE (i.a.slots.set k ⟨true, k, i.id, i.qty, i.top, i.n, q.last, -1⟩)) q.last.toNat (0 + 7) [D.v (.int .i64 k)] = List.map slotE ((i.a.slots.set k ⟨true, k, i.id, i.qty, i.top, i.n, q.last, -1⟩).modify q.last.toNat fun s => { s with back := k }) := by
          rw [elSet_set hs2 (y := { s2 with back := (k : Int) }) rfl, mod_set hs2]
        rw [e2]
        simp only [if_neg e]
        refine ⟨q.last, elA hq (by simp [queueE]) rfl, ⟨by omega, by simp only [List.length_map, List.length_set]; omega⟩, by simp only [List.length_map, List.length_set]; omega, by omega, q.total, elA g2 (by simp [queueE]) rfl, by simp only [List.length_map, List.length_set]; omega, q.count, ?_, by rw [e3]; simp only [List.length_map, List.length_set]; omega, (), ?_⟩
        · rw [e3]; exact elA g3 (by simp [queueE]) rfl
        · rw [e3, e4, e5]; (repeat' (first | exact rfl | exact trivial | assumption | apply And.intro | (refine fun (_ : Unit) (_ : True) => ?_) | (refine Exists.intro () ?_) | omega | (dsimp only; omega)))
  · rw [out (.inl (by omega))]; (repeat' (first | exact rfl | exact trivial | assumption | apply And.intro | (refine fun (_ : Unit) (_ : True) => ?_) | (refine Exists.intro () ?_) | omega | (dsimp only; omega)))
theorem apush_ok : apushC.ok Try.prog 60 := byapush (gokc idxSlot_ok gok0) vapush

/-! ### Books -/
theorem findN_eq {s price : Int} : ∀ {l : List Rung} {j : Nat}, j ≤ l.length → (∀ k < j, ∀ r, l[k]? = some r → btr s r.price price = true) → (∀ r, l[j]? = some r → btr s r.price price = false) → findN s l price = j
  | [], j, hj, _, _ => by
    obtain rfl : j = 0 := by simpa using hj
    rfl
  | r :: l, 0, _, _, he => by
    have := he r rfl
    rw [findN, List.takeWhile_cons, this]; rfl
  | r :: l, j + 1, hj, h, he => by
    have h0 := h 0 (by omega) r rfl
    have ih := findN_eq (l := l) (j := j) (by simpa using hj) (fun k hk x hx => h (k + 1) (by omega) x (by simpa using hx)) (fun x hx => he x (by simpa using hx))
    rw [findN] at ih ⊢
    rw [List.takeWhile_cons, h0, if_pos rfl, List.length_cons, ih]
theorem findN_le (s price : Int) (l : List Rung) : findN s l price ≤ l.length := (List.takeWhile_sublist _).length_le
theorem rungs1 (b : Book) : b.rungs 1 = b.buys := rfl
theorem rungs2 (b : Book) : b.rungs 2 = b.sells := rfl

theorem vfind1 (i : BkP) (h : find1C.cnd i) : Vfind1 i := by
  obtain ⟨_, h1, h2, _⟩ : i.b.small := h
  unfold Vfind1
  simp only [List.length_map, rungs1]
  refine ⟨0, rfl, fun j => j ≤ i.b.buys.length ∧ ∀ k < j, ∀ r, i.b.buys[k]? = some r → btr 1 r.price i.price = true, fun j => i.b.buys.length - j, ⟨by omega, fun k hk => by omega⟩, ?_⟩
  rintro j ⟨h3, h4⟩
  refine cndD (fun hj => ?_) (fun hj => ?_)
  · obtain ⟨r, hr⟩ := getI (l := i.b.buys) (i := j) (by omega)
    refine ⟨⟨by omega, by omega⟩, r.price, elA hr (by simp [rungE]) rfl, ⟨1, r.price, i.price⟩, rfl, rfl, rfl, trivial, fun _ _ => ?_⟩
    dsimp only
    refine Cv.cnd.mk (fun e => ⟨j + 1, by rw [w64 (by omega)]; rfl, ⟨by omega, fun k hk x hx => ?_⟩, by (first | omega | (dsimp only; omega)), by (repeat' (first | exact trivial | exact rfl | apply And.intro))⟩) (fun e => cndD (fun _ => ?_) (fun c => absurd hj c))
    · rcases Nat.lt_or_ge k j with hk' | hk'
      · exact h4 k hk' x hx
      · obtain rfl : k = j := by omega
        rw [hr] at hx; cases hx; exact e
    · have en : findN 1 i.b.buys i.price = j := findN_eq h3 h4 fun x hx => by rw [hr] at hx; cases hx; exact e
      have eb : findB 1 i.b.buys i.price = (r.price == i.price) := by rw [findB, en, hr]; exact (beq_dec1 _ _).symm
      refine ⟨⟨by omega, by omega⟩, r.price, elA hr (by simp [rungE]) rfl, (), by rw [en], eb, ?_⟩
      (repeat' (first | exact trivial | exact rfl | apply And.intro))
  · have en : findN 1 i.b.buys i.price = j := findN_eq h3 h4 fun x hx => by have := (List.getElem?_eq_some_iff.1 hx).1; omega
    have eb : findB 1 i.b.buys i.price = false := by rw [findB, en, List.getElem?_eq_none (by omega)]
    refine cndD (fun c => absurd c hj) (fun _ => ⟨(), by rw [en], eb, ?_⟩)
    (repeat' (first | exact trivial | exact rfl | apply And.intro))
theorem find1_ok : find1C.ok Try.prog 77 := byfind1 (gokc bbetter_ok gok0) vfind1

/-! ### Who leads -/
theorem like_at (l : List (Int × Place)) (k : Int) : ∀ (p : Value × List D), p ∈ atE l → like (Value.int IntKind.i64 k) p.1 = true := by
  intro p hp
  obtain ⟨x, _, rfl⟩ := List.mem_map.1 hp
  rfl
theorem mget_at (k : Int) : ∀ l : List (Int × Place), mget (Value.int IntKind.i64 k) (atE l) = (pget l k).map placeE
  | [] => rfl
  | (a, v) :: l => by
    have ih := mget_at k l
    show (bif (keq .i64 .i64 && decide (k = a)) then _ else mget _ (atE l)) = _
    by_cases h : k = a
    · subst h; simp [pget, keq]
    · have h' : ¬ a = k := fun e => h e.symm
      rw [show (keq .i64 .i64 && decide (k = a)) = false by simp [h], cond_false, ih]
      simp [pget, List.find?_cons, h']
def place0 : Place := ⟨0, 0, 0⟩
theorem lk_at (l : List (Int × Place)) (k : Int) : mget (Value.int IntKind.i64 k) (atE l) = some [D.v (.int .i64 ((pget l k).getD place0).side), D.v (.int .i64 ((pget l k).getD place0).price), D.v (.int .i64 ((pget l k).getD place0).slot)] ∧ (pget l k).isSome = true ∨ mget (Value.int IntKind.i64 k) (atE l) = none ∧ [D.v (.int .i64 ((pget l k).getD place0).side), D.v (.int .i64 ((pget l k).getD place0).price), D.v (.int .i64 ((pget l k).getD place0).slot)] = [D.v (.int .i64 0), D.v (.int .i64 0), D.v (.int .i64 0)] ∧ (pget l k).isSome = false := by
  rw [mget_at]
  cases pget l k with
  | none => exact .inr ⟨rfl, rfl, rfl⟩
  | some v => exact .inl ⟨rfl, rfl⟩
theorem mput_at (k : Int) (v : Place) : ∀ l, mput (Value.int IntKind.i64 k) (placeE v) (atE l) = atE (pput k v l)
  | [] => rfl
  | (a, b) :: l => by
    have ih := mput_at k v l
    show (bif (keq .i64 .i64 && decide (k = a)) then _ else _ :: mput _ _ (atE l)) = _
    rw [ih, pput]
    by_cases h : k = a
    · subst h; simp [keq, atE]
    · simp [h, atE]

theorem vlead1 (i : LdI) (h : lead1C.cnd i) : Vlead1 i := by
  obtain ⟨⟨ha, _⟩, h1, h2, _⟩ : i.b.small := h
  unfold Vlead1
  have no (e : i.b.untop 1 = i.b.a) : AObj.adt Arena 3 ArenaU (i.b.untop 1) = BookU i.b 1 := by rw [e]; rfl
  refine Cv.cnd.mk (fun c => ?_) (fun c => ⟨(), ?_⟩)
  · have c : i.b.hasF 1 = true := c
    refine ⟨like_at _ _, (pget i.b.at_ i.b.top1).isSome, _, _, _, lk_at _ _, ⟨like_at _ _, (pget i.b.at_ i.b.top1).isSome, _, _, _, lk_at _ _, ⟨rfl, rfl, rfl, trivial⟩, rfl, trivial⟩, rfl, trivial, Cv.cnd.mk (fun d => Cv.cnd.mk (fun e => ?_) (fun e => ⟨(), ?_⟩)) (fun d => ⟨(), ?_⟩)⟩
    · obtain ⟨o, ho⟩ := Option.isSome_iff_exists.1 d
      have e : o.side = 1 := by rw [ho] at e; simpa using e
      have eu : i.b.untop 1 = i.b.a.topF o.slot false := by
        have ht : pget i.b.at_ (i.b.topI 1) = some o := ho
        rw [Book.untop, if_pos c, ht]; dsimp only; rw [if_pos e]
      refine ⟨⟨i.b.a, o.slot, false⟩, by rw [ho]; rfl, rfl, rfl, ha, fun _ _ => ⟨(), ?_⟩⟩
      rw [eu]; (repeat' (first | exact trivial | exact rfl | apply And.intro))
    · obtain ⟨o, ho⟩ := Option.isSome_iff_exists.1 d
      have e : ¬ o.side = 1 := by rw [ho] at e; simpa using e
      have ht : pget i.b.at_ (i.b.topI 1) = some o := ho
      rw [no (by rw [Book.untop, if_pos c, ht]; dsimp only; rw [if_neg e])]; (repeat' (first | exact trivial | exact rfl | apply And.intro))
    · have ht : pget i.b.at_ (i.b.topI 1) = none := by
        show pget i.b.at_ i.b.top1 = none
        simpa using d
      rw [no (by rw [Book.untop, if_pos c, ht])]; (repeat' (first | exact trivial | exact rfl | apply And.intro))
  · have c : ¬ i.b.hasF 1 = true := by rw [show i.b.hasF 1 = i.b.has1 from rfl, c]; decide
    rw [no (by rw [Book.untop, if_neg c])]; (repeat' (first | exact trivial | exact rfl | apply And.intro))
theorem lead1_ok : lead1C.ok Try.prog 59 := bylead1 (gokc atop_ok gok0) vlead1

/-! ### A price's queue -/
theorem findB_in {s price : Int} {l : List Rung} (h : findB s l price = true) : ∃ r, l[findN s l price]? = some r := by
  rw [findB] at h
  split at h
  · rename_i r hr; exact ⟨r, hr⟩
  · cases h
theorem vqueue1 (i : BkP) (h : queue1C.cnd i) : Vqueue1 i := by
  obtain ⟨⟨ha, _⟩, ha', h1, h2, h3⟩ : i.b.fit := h
  have hle := findN_le 1 i.price i.b.buys
  unfold Vqueue1
  refine ⟨i, rfl, rfl, rfl, rfl, rfl, rfl, rfl, rfl, rfl, rfl, rfl, ⟨⟨ha, by omega⟩, by omega, by omega, by omega⟩, fun _ _ => ?_⟩
  simp only [List.length_map, iE_len, rungs1]
  refine Cv.cnd.mk (fun c => ?_) (fun c => ?_)
  · obtain ⟨r, hr⟩ := findB_in c
    have hlt := (List.getElem?_eq_some_iff.1 hr).1
    have e : i.b.queueF 1 i.price = (i.b, r.queue) := by rw [Book.queueF, if_pos (by rw [rungs1]; exact c), rungs1, getD_of hr]
    rw [e]
    refine ⟨⟨by omega, by omega⟩, r.queue, elA (by simpa using hr) (by simp [rungE]) rfl, (), ?_⟩
    (repeat' (first | exact trivial | exact rfl | apply And.intro))
  · have e : i.b.queueF 1 i.price = ({ i.b with a := i.b.newQ.2.2, buys := i.b.ins 1 i.price, spare := i.b.newQ.2.1 }, i.b.newQ.1) := by
      rw [Book.queueF, if_neg (by rw [rungs1, c]; decide), if_pos rfl]
    have hins : List.map rungE (i.b.ins 1 i.price) = List.take (findN 1 i.b.buys i.price) (List.map rungE i.b.buys) ++ rungE ⟨i.price, i.b.newQ.1⟩ :: List.drop (findN 1 i.b.buys i.price) (List.map rungE i.b.buys) := by
      rw [Book.ins, rungs1, List.map_append, List.map_cons, List.map_take, List.map_drop]
    rw [e]
    refine cndD (fun d => ?_) (fun d => ?_)
    · have w : IntKind.i64.wrap ((i.b.spare.length : Int) - 1) = ((i.b.spare.length - 1 : Nat) : Int) := by rw [w64 (by omega)]; omega
      rw [w]
      simp only [Int.toNat_natCast]
      obtain ⟨q, hq⟩ := getI (l := i.b.spare) (i := i.b.spare.length - 1) (by omega)
      have eq : i.b.newQ = (q, i.b.spare.take (i.b.spare.length - 1), i.b.a) := by rw [Book.newQ, if_neg (by omega), getD_of hq]
      rw [eq] at hins ⊢
      refine ⟨⟨by omega, by omega⟩, q, elI hq, ⟨by omega, by omega⟩, trivial, ⟨i.b.buys.map rungE, rungE ⟨i.price, q⟩, findN 1 i.b.buys i.price⟩, rfl, rfl, rfl, ⟨by rw [List.length_map]; exact hle, by rw [List.length_map]; omega⟩, fun _ _ => ⟨(), ?_⟩⟩
      have hs : iE (i.b.spare.take (i.b.spare.length - 1)) = (iE i.b.spare).take (i.b.spare.length - 1) := by simp only [iE, List.map_take]
      (repeat' (first | exact rfl | exact trivial | assumption | apply And.intro | (refine fun (_ : Unit) (_ : True) => ?_) | (refine Exists.intro () ?_) | omega | (dsimp only; omega)))
    · have eq : i.b.newQ = ((i.b.a.queues.length : Int), i.b.spare, i.b.a.openQ) := by rw [Book.newQ, if_pos (by omega)]
      rw [eq] at hins ⊢
      refine ⟨i.b.a, rfl, by omega, fun _ _ => ⟨trivial, ⟨i.b.buys.map rungE, rungE ⟨i.price, i.b.a.queues.length⟩, findN 1 i.b.buys i.price⟩, rfl, rfl, rfl, ⟨by rw [List.length_map]; exact hle, by rw [List.length_map]; omega⟩, fun _ _ => ⟨(), ?_⟩⟩⟩
      (repeat' (first | exact rfl | exact trivial | assumption | apply And.intro | (refine fun (_ : Unit) (_ : True) => ?_) | (refine Exists.intro () ?_) | omega | (dsimp only; omega)))

theorem insR_info : slInfo Try.prog 121 = some (130, 2, 16, #[.int .i64 0, .int .i64 0]) := by kernel_rfl
theorem insR_ok : insRC.ok Try.prog 79 :=
  insX_ok (tS := 121) (tI := 3) (fO := 91) (fR := 92) (z := #[.int .i64 0, .int .i64 0]) mixed Try.func79 rfl (by kernel_rfl) (by kernel_rfl) (by kernel_rfl) (by kernel_rfl) insR_info rfl (by decide) (by decide) (by kernel_rfl) Try.underlying3
    (ovApart (tS := 121) (tB := 4) Try.func91 (by kernel_rfl) (by kernel_rfl) (by kernel_rfl) (by kernel_rfl) insR_info) (fun s sn sk i v vn vk w R => by kernel_rfl)
theorem queue1_ok : queue1C.ok Try.prog 61 := byqueue1 (gokc find1_ok (gokc aopen_ok (gokc insR_ok gok0))) vqueue1

/-! ### The other side -/
theorem vfind2 (i : BkP) (h : find2C.cnd i) : Vfind2 i := by
  obtain ⟨_, h1, h2, _⟩ : i.b.small := h
  unfold Vfind2
  simp only [List.length_map, rungs2]
  refine ⟨0, rfl, fun j => j ≤ i.b.sells.length ∧ ∀ k < j, ∀ r, i.b.sells[k]? = some r → btr 2 r.price i.price = true, fun j => i.b.sells.length - j, ⟨by omega, fun k hk => by omega⟩, ?_⟩
  rintro j ⟨h3, h4⟩
  refine cndD (fun hj => ?_) (fun hj => ?_)
  · obtain ⟨r, hr⟩ := getI (l := i.b.sells) (i := j) (by omega)
    refine ⟨⟨by omega, by omega⟩, r.price, elA hr (by simp [rungE]) rfl, ⟨2, r.price, i.price⟩, rfl, rfl, rfl, trivial, fun _ _ => ?_⟩
    dsimp only
    refine Cv.cnd.mk (fun e => ⟨j + 1, by rw [w64 (by omega)]; rfl, ⟨by omega, fun k hk x hx => ?_⟩, by (first | omega | (dsimp only; omega)), by (repeat' (first | exact trivial | exact rfl | apply And.intro))⟩) (fun e => cndD (fun _ => ?_) (fun c => absurd hj c))
    · rcases Nat.lt_or_ge k j with hk' | hk'
      · exact h4 k hk' x hx
      · obtain rfl : k = j := by omega
        rw [hr] at hx; cases hx; exact e
    · have en : findN 2 i.b.sells i.price = j := findN_eq h3 h4 fun x hx => by rw [hr] at hx; cases hx; exact e
      have eb : findB 2 i.b.sells i.price = (r.price == i.price) := by rw [findB, en, hr]; exact (beq_dec1 _ _).symm
      refine ⟨⟨by omega, by omega⟩, r.price, elA hr (by simp [rungE]) rfl, (), by rw [en], eb, ?_⟩
      (repeat' (first | exact trivial | exact rfl | apply And.intro))
  · have en : findN 2 i.b.sells i.price = j := findN_eq h3 h4 fun x hx => by have := (List.getElem?_eq_some_iff.1 hx).1; omega
    have eb : findB 2 i.b.sells i.price = false := by rw [findB, en, List.getElem?_eq_none (by omega)]
    refine cndD (fun c => absurd c hj) (fun _ => ⟨(), by rw [en], eb, ?_⟩)
    (repeat' (first | exact trivial | exact rfl | apply And.intro))
theorem find2_ok : find2C.ok Try.prog 77 := byfind2 (gokc bbetter_ok gok0) vfind2

theorem vlead2 (i : LdI) (h : lead2C.cnd i) : Vlead2 i := by
  obtain ⟨⟨ha, _⟩, h1, h2, _⟩ : i.b.small := h
  unfold Vlead2
  have no (e : i.b.untop 2 = i.b.a) : AObj.adt Arena 3 ArenaU (i.b.untop 2) = BookU i.b 1 := by rw [e]; rfl
  refine Cv.cnd.mk (fun c => ?_) (fun c => ⟨(), ?_⟩)
  · have c : i.b.hasF 2 = true := c
    refine ⟨like_at _ _, (pget i.b.at_ i.b.top2).isSome, _, _, _, lk_at _ _, ⟨like_at _ _, (pget i.b.at_ i.b.top2).isSome, _, _, _, lk_at _ _, ⟨rfl, rfl, rfl, trivial⟩, rfl, trivial⟩, rfl, trivial, Cv.cnd.mk (fun d => Cv.cnd.mk (fun e => ?_) (fun e => ⟨(), ?_⟩)) (fun d => ⟨(), ?_⟩)⟩
    · obtain ⟨o, ho⟩ := Option.isSome_iff_exists.1 d
      have e : o.side = 2 := by rw [ho] at e; simpa using e
      have eu : i.b.untop 2 = i.b.a.topF o.slot false := by
        have ht : pget i.b.at_ (i.b.topI 2) = some o := ho
        rw [Book.untop, if_pos c, ht]; dsimp only; rw [if_pos e]
      refine ⟨⟨i.b.a, o.slot, false⟩, by rw [ho]; rfl, rfl, rfl, ha, fun _ _ => ⟨(), ?_⟩⟩
      rw [eu]; (repeat' (first | exact trivial | exact rfl | apply And.intro))
    · obtain ⟨o, ho⟩ := Option.isSome_iff_exists.1 d
      have e : ¬ o.side = 2 := by rw [ho] at e; simpa using e
      have ht : pget i.b.at_ (i.b.topI 2) = some o := ho
      rw [no (by rw [Book.untop, if_pos c, ht]; dsimp only; rw [if_neg e])]; (repeat' (first | exact trivial | exact rfl | apply And.intro))
    · have ht : pget i.b.at_ (i.b.topI 2) = none := by
        show pget i.b.at_ i.b.top2 = none
        simpa using d
      rw [no (by rw [Book.untop, if_pos c, ht])]; (repeat' (first | exact trivial | exact rfl | apply And.intro))
  · have c : ¬ i.b.hasF 2 = true := by rw [show i.b.hasF 2 = i.b.has2 from rfl, c]; decide
    rw [no (by rw [Book.untop, if_neg c])]; (repeat' (first | exact trivial | exact rfl | apply And.intro))
theorem lead2_ok : lead2C.ok Try.prog 59 := bylead2 (gokc atop_ok gok0) vlead2

theorem vqueue2 (i : BkP) (h : queue2C.cnd i) : Vqueue2 i := by
  obtain ⟨⟨ha, _⟩, ha', h1, h2, h3⟩ : i.b.fit := h
  have hle := findN_le 2 i.price i.b.sells
  unfold Vqueue2
  refine ⟨i, rfl, rfl, rfl, rfl, rfl, rfl, rfl, rfl, rfl, rfl, rfl, ⟨⟨ha, by omega⟩, by omega, by omega, by omega⟩, fun _ _ => ?_⟩
  simp only [List.length_map, iE_len, rungs2]
  refine Cv.cnd.mk (fun c => ?_) (fun c => ?_)
  · obtain ⟨r, hr⟩ := findB_in c
    have hlt := (List.getElem?_eq_some_iff.1 hr).1
    have e : i.b.queueF 2 i.price = (i.b, r.queue) := by rw [Book.queueF, if_pos (by rw [rungs2]; exact c), rungs2, getD_of hr]
    rw [e]
    refine ⟨⟨by omega, by omega⟩, r.queue, elA (by simpa using hr) (by simp [rungE]) rfl, (), ?_⟩
    (repeat' (first | exact trivial | exact rfl | apply And.intro))
  · have e : i.b.queueF 2 i.price = ({ i.b with a := i.b.newQ.2.2, sells := i.b.ins 2 i.price, spare := i.b.newQ.2.1 }, i.b.newQ.1) := by
      rw [Book.queueF, if_neg (by rw [rungs2, c]; decide), if_neg (by decide)]
    have hins : List.map rungE (i.b.ins 2 i.price) = List.take (findN 2 i.b.sells i.price) (List.map rungE i.b.sells) ++ rungE ⟨i.price, i.b.newQ.1⟩ :: List.drop (findN 2 i.b.sells i.price) (List.map rungE i.b.sells) := by
      rw [Book.ins, rungs2, List.map_append, List.map_cons, List.map_take, List.map_drop]
    rw [e]
    refine cndD (fun d => ?_) (fun d => ?_)
    · have w : IntKind.i64.wrap ((i.b.spare.length : Int) - 1) = ((i.b.spare.length - 1 : Nat) : Int) := by rw [w64 (by omega)]; omega
      rw [w]
      simp only [Int.toNat_natCast]
      obtain ⟨q, hq⟩ := getI (l := i.b.spare) (i := i.b.spare.length - 1) (by omega)
      have eq : i.b.newQ = (q, i.b.spare.take (i.b.spare.length - 1), i.b.a) := by rw [Book.newQ, if_neg (by omega), getD_of hq]
      rw [eq] at hins ⊢
      refine ⟨⟨by omega, by omega⟩, q, elI hq, ⟨by omega, by omega⟩, trivial, ⟨i.b.sells.map rungE, rungE ⟨i.price, q⟩, findN 2 i.b.sells i.price⟩, rfl, rfl, rfl, ⟨by rw [List.length_map]; exact hle, by rw [List.length_map]; omega⟩, fun _ _ => ⟨(), ?_⟩⟩
      have hs : iE (i.b.spare.take (i.b.spare.length - 1)) = (iE i.b.spare).take (i.b.spare.length - 1) := by simp only [iE, List.map_take]
      (repeat' (first | exact rfl | exact trivial | assumption | apply And.intro | (refine fun (_ : Unit) (_ : True) => ?_) | (refine Exists.intro () ?_) | omega | (dsimp only; omega)))
    · have eq : i.b.newQ = ((i.b.a.queues.length : Int), i.b.spare, i.b.a.openQ) := by rw [Book.newQ, if_pos (by omega)]
      rw [eq] at hins ⊢
      refine ⟨i.b.a, rfl, by omega, fun _ _ => ⟨trivial, ⟨i.b.sells.map rungE, rungE ⟨i.price, i.b.a.queues.length⟩, findN 2 i.b.sells i.price⟩, rfl, rfl, rfl, ⟨by rw [List.length_map]; exact hle, by rw [List.length_map]; omega⟩, fun _ _ => ⟨(), ?_⟩⟩⟩
      (repeat' (first | exact rfl | exact trivial | assumption | apply And.intro | (refine fun (_ : Unit) (_ : True) => ?_) | (refine Exists.intro () ?_) | omega | (dsimp only; omega)))

theorem queue2_ok : queue2C.ok Try.prog 61 := byqueue2 (gokc find2_ok (gokc aopen_ok (gokc insR_ok gok0))) vqueue2

end Sx

namespace Sx
set_option linter.unusedVariables false
set_option maxRecDepth 100000
open Go Cv Go.Proofs

structure BaI where
  b : Book
  id : Int
  price : Int
  qty : Int
def Book.leads (b : Book) (s price : Int) : Bool := match b.rungs s with
  | [] => true
  | r :: _ => btr s price r.price
def Book.led (b : Book) (id s price : Int) : Book := if b.leads s price = true then b.leadF id s else b
/-- An order that is not refused. -/
def Book.stand (b : Book) (s id price qty : Int) : Book :=
  let b2 := (b.led id s price).queueF s price
  let x := b2.1.a.push b2.2 id qty (b.leads s price)
  { b2.1 with a := x.1, at_ := pput id ⟨s, price, x.2.1⟩ b2.1.at_ }
def Book.addF (b : Book) (s id price qty : Int) : Book × Int :=
  if qty < 1 ∨ 1000000 < qty then (b, 24) else if (pget b.at_ id).isSome = true then (b, 25) else if 250 ≤ b.at_.length then (b, 13) else (b.stand s id price qty, 0)
def baddsC (s : Int) : Con := con1 BaI (fun i => [.nm 0 0, i64V i.id, i64V s, i64V i.price, i64V i.qty]) (fun i => [BookR i.b]) (fun i => i.b.fit) (fun i => i64V (i.b.addF s i.id i.price i.qty).2) (fun i => [BookR (i.b.addF s i.id i.price i.qty).1])
/-- Where the tops are told. -/
def baddJ : List (Nat × SAnn) := [(44, bj 14)]
def badd1C : Con := baddsC 1
def badd2C : Con := baddsC 2
structure BaJ where
  i : BaI
  s : Bool
def baddC : Con := con1 BaJ (fun j => [.nm 0 0, i64V j.i.id, i64V (sideN j.s), i64V j.i.price, i64V j.i.qty]) (fun j => [BookR j.i.b]) (fun j => j.i.b.fit) (fun j => i64V (j.i.b.addF (sideN j.s) j.i.id j.i.price j.i.qty).2) (fun j => [BookR (j.i.b.addF (sideN j.s) j.i.id j.i.price j.i.qty).1])

structure SaI where
  s : MSt
  inst : Int
  id : Int
  sd : Bool
  price : Int
  qty : Int
def MSt.bookAt (s : MSt) (n : Int) : Book := s.books.getD n.toNat book0
def MSt.addF (i : SaI) : MSt × Int :=
  if i.inst < 0 ∨ i.s.books.length ≤ i.inst then (i.s, 20) else if (aget i.s.wh i.id).isSome = true then (i.s, 25) else if 250 ≤ i.s.wh.length then (i.s, 13) else if i.s.p.price i.inst i.price ≠ 0 then (i.s, i.s.p.price i.inst i.price)
  else
    let x := (i.s.bookAt i.inst).addF (sideN i.sd) i.id i.price i.qty
    ({ i.s with books := i.s.books.set i.inst.toNat x.1, wh := if x.2 = 0 then aput i.id i.inst i.s.wh else i.s.wh }, x.2)
@[reducible] def MSt.fit (s : MSt) : Prop := s.p.small ∧ s.books.length ≤ 1000000 ∧ ∀ b ∈ s.books, b.fit
def saddC : Con := con1 SaI (fun i => [.nm 0 0, i64V i.inst, i64V i.id, i64V (sideN i.sd), i64V i.price, i64V i.qty]) (fun i => [StateR i.s]) (fun i => i.s.fit) (fun i => i64V (MSt.addF i).2) (fun i => [StateR (MSt.addF i).1])

end Sx

namespace Sx
set_option linter.unusedVariables false
set_option maxRecDepth 100000
open Go Cv Go.Proofs
@[reducible] def Vbadd1r0 (n : Int) (n_1 : Int) (n_2 : Int) : AObj := Sx.AObj.cells [V.d (D.v (.int .i64 n)), V.d (D.v (.int .i64 n_1)), V.d (D.v (.int .i64 n_2))] (126 : Nat)
@[reducible] def Vbadd1r1 (i : BaI) (b : Bool) : AObj := Sx.AObj.cells (renL (unfNM (0 : Nat) (1 : Nat) (6 : Nat)) [V.nm (1 : Nat) (0 : Nat), V.own (2 : Nat), V.own (3 : Nat), V.mp (4 : Nat), i64V i.b.top1, i64V i.b.top2, V.own (5 : Nat), boolV i.b.has1, boolV i.b.has2]) (124 : TypeId)
def Vbadd1 (i : BaI) : Prop :=
  (∀ (p : Value × List D), p ∈ atE i.b.at_ → like (Value.int IntKind.i64 i.id) p.fst = true) ∧ ∃ (b : Bool), ∃ (n : Int), ∃ (n_1 : Int), ∃ (n_2 : Int), (mget (Value.int IntKind.i64 i.id) (atE i.b.at_) = some [D.v (.int .i64 n), D.v (.int .i64 n_1), D.v (.int .i64 n_2)] ∧ b = true ∨ mget (Value.int IntKind.i64 i.id) (atE i.b.at_) = none ∧ [D.v (.int .i64 n), D.v (.int .i64 n_1), D.v (.int .i64 n_2)] = [D.v (.int .i64 0), D.v (.int .i64 0), D.v (.int .i64 0)] ∧ b = false) ∧ ∃ (i_1 : Int), i_1 = (1 : Int) ∧ True ∧ ∀ (o : Unit), True → cnd (!(decide (i_1 = (1 : Int)) || decide (i_1 = (2 : Int)))) (∃ (o : Unit), (i.b.addF (1 : Int) i.id i.price i.qty).snd = (21 : Int) ∧ (i.b.addF (1 : Int) i.id i.price i.qty).fst.top1 = i.b.top1 ∧ (i.b.addF (1 : Int) i.id i.price i.qty).fst.top2 = i.b.top2 ∧ (i.b.addF (1 : Int) i.id i.price i.qty).fst.has1 = i.b.has1 ∧ (i.b.addF (1 : Int) i.id i.price i.qty).fst.has2 = i.b.has2 ∧ AObj.adt Arena (3 : Nat) ArenaU (i.b.addF (1 : Int) i.id i.price i.qty).fst.a = AObj.adt Arena (3 : Nat) ArenaU i.b.a ∧ List.map rungE (i.b.addF (1 : Int) i.id i.price i.qty).fst.buys = List.map rungE i.b.buys ∧ List.map rungE (i.b.addF (1 : Int) i.id i.price i.qty).fst.sells = List.map rungE i.b.sells ∧ atE (i.b.addF (1 : Int) i.id i.price i.qty).fst.at_ = atE i.b.at_ ∧ iE (i.b.addF (1 : Int) i.id i.price i.qty).fst.spare = iE i.b.spare ∧ True) (cnd (decide (i.qty < (1 : Int))) (∃ (o : Unit), (i.b.addF (1 : Int) i.id i.price i.qty).snd = (24 : Int) ∧ (i.b.addF (1 : Int) i.id i.price i.qty).fst.top1 = i.b.top1 ∧ (i.b.addF (1 : Int) i.id i.price i.qty).fst.top2 = i.b.top2 ∧ (i.b.addF (1 : Int) i.id i.price i.qty).fst.has1 = i.b.has1 ∧ (i.b.addF (1 : Int) i.id i.price i.qty).fst.has2 = i.b.has2 ∧ AObj.adt Arena (3 : Nat) ArenaU (i.b.addF (1 : Int) i.id i.price i.qty).fst.a = AObj.adt Arena (3 : Nat) ArenaU i.b.a ∧ List.map rungE (i.b.addF (1 : Int) i.id i.price i.qty).fst.buys = List.map rungE i.b.buys ∧ List.map rungE (i.b.addF (1 : Int) i.id i.price i.qty).fst.sells = List.map rungE i.b.sells ∧ atE (i.b.addF (1 : Int) i.id i.price i.qty).fst.at_ = atE i.b.at_ ∧ iE (i.b.addF (1 : Int) i.id i.price i.qty).fst.spare = iE i.b.spare ∧ True) (cnd (decide (i.qty > (1000000 : Int))) (∃ (o : Unit), (i.b.addF (1 : Int) i.id i.price i.qty).snd = (24 : Int) ∧ (i.b.addF (1 : Int) i.id i.price i.qty).fst.top1 = i.b.top1 ∧ (i.b.addF (1 : Int) i.id i.price i.qty).fst.top2 = i.b.top2 ∧ (i.b.addF (1 : Int) i.id i.price i.qty).fst.has1 = i.b.has1 ∧ (i.b.addF (1 : Int) i.id i.price i.qty).fst.has2 = i.b.has2 ∧ AObj.adt Arena (3 : Nat) ArenaU (i.b.addF (1 : Int) i.id i.price i.qty).fst.a = AObj.adt Arena (3 : Nat) ArenaU i.b.a ∧ List.map rungE (i.b.addF (1 : Int) i.id i.price i.qty).fst.buys = List.map rungE i.b.buys ∧ List.map rungE (i.b.addF (1 : Int) i.id i.price i.qty).fst.sells = List.map rungE i.b.sells ∧ atE (i.b.addF (1 : Int) i.id i.price i.qty).fst.at_ = atE i.b.at_ ∧ iE (i.b.addF (1 : Int) i.id i.price i.qty).fst.spare = iE i.b.spare ∧ True) (cnd b (∃ (o : Unit), (i.b.addF (1 : Int) i.id i.price i.qty).snd = (25 : Int) ∧ (i.b.addF (1 : Int) i.id i.price i.qty).fst.top1 = i.b.top1 ∧ (i.b.addF (1 : Int) i.id i.price i.qty).fst.top2 = i.b.top2 ∧ (i.b.addF (1 : Int) i.id i.price i.qty).fst.has1 = i.b.has1 ∧ (i.b.addF (1 : Int) i.id i.price i.qty).fst.has2 = i.b.has2 ∧ AObj.adt Arena (3 : Nat) ArenaU (i.b.addF (1 : Int) i.id i.price i.qty).fst.a = AObj.adt Arena (3 : Nat) ArenaU i.b.a ∧ List.map rungE (i.b.addF (1 : Int) i.id i.price i.qty).fst.buys = List.map rungE i.b.buys ∧ List.map rungE (i.b.addF (1 : Int) i.id i.price i.qty).fst.sells = List.map rungE i.b.sells ∧ atE (i.b.addF (1 : Int) i.id i.price i.qty).fst.at_ = atE i.b.at_ ∧ iE (i.b.addF (1 : Int) i.id i.price i.qty).fst.spare = iE i.b.spare ∧ True) (cnd (decide ((↑(atE i.b.at_).length : Int) ≥ (250 : Int))) (∃ (o : Unit), (i.b.addF (1 : Int) i.id i.price i.qty).snd = (13 : Int) ∧ (i.b.addF (1 : Int) i.id i.price i.qty).fst.top1 = i.b.top1 ∧ (i.b.addF (1 : Int) i.id i.price i.qty).fst.top2 = i.b.top2 ∧ (i.b.addF (1 : Int) i.id i.price i.qty).fst.has1 = i.b.has1 ∧ (i.b.addF (1 : Int) i.id i.price i.qty).fst.has2 = i.b.has2 ∧ AObj.adt Arena (3 : Nat) ArenaU (i.b.addF (1 : Int) i.id i.price i.qty).fst.a = AObj.adt Arena (3 : Nat) ArenaU i.b.a ∧ List.map rungE (i.b.addF (1 : Int) i.id i.price i.qty).fst.buys = List.map rungE i.b.buys ∧ List.map rungE (i.b.addF (1 : Int) i.id i.price i.qty).fst.sells = List.map rungE i.b.sells ∧ atE (i.b.addF (1 : Int) i.id i.price i.qty).fst.at_ = atE i.b.at_ ∧ iE (i.b.addF (1 : Int) i.id i.price i.qty).fst.spare = iE i.b.spare ∧ True) (∃ (i0 : Bool), ∃ (I : Bool → Prop), cnd ((↑(List.map rungE i.b.buys).length : Int) == (0 : Int)) (∃ (i' : Bool), i' = true ∧ I i' ∧ Vbadd1r0 n n_1 n_2 = Vbadd1r0 n n_1 n_2 ∧ Vbadd1r1 i b = Vbadd1r1 i b ∧ AObj.adt Arena (3 : Nat) ArenaU i.b.a = AObj.adt Arena (3 : Nat) ArenaU i.b.a ∧ AObj.own (130 : Nat) (2 : Nat) (List.map rungE i.b.buys) = AObj.own (130 : Nat) (2 : Nat) (List.map rungE i.b.buys) ∧ AObj.own (130 : Nat) (2 : Nat) (List.map rungE i.b.sells) = AObj.own (130 : Nat) (2 : Nat) (List.map rungE i.b.sells) ∧ Sx.AObj.map (atE i.b.at_) = Sx.AObj.map (atE i.b.at_) ∧ AObj.own (3 : Nat) (1 : Nat) (iE i.b.spare) = AObj.own (3 : Nat) (1 : Nat) (iE i.b.spare)) (((0 : Int) ≤ (0 : Int) ∧ (0 : Int) < (↑(List.map rungE i.b.buys).length : Int)) ∧ ∃ (n_3 : Int), elPart (List.map rungE i.b.buys) (Int.toNat (0 : Int)) ((0 : Nat) + (0 : Nat)) (1 : Nat) = some [D.v (.int .i64 n_3)] ∧ ∃ (i_2 : I3'), i_2.side = (1 : Int) ∧ i_2.x = i.price ∧ i_2.y = n_3 ∧ True ∧ ∀ (o : Unit), True → ∃ (i' : Bool), i' = btr i_2.side i_2.x i_2.y ∧ I i' ∧ Vbadd1r0 n n_1 n_2 = Vbadd1r0 n n_1 n_2 ∧ Vbadd1r1 i b = Vbadd1r1 i b ∧ AObj.adt Arena (3 : Nat) ArenaU i.b.a = AObj.adt Arena (3 : Nat) ArenaU i.b.a ∧ AObj.own (130 : Nat) (2 : Nat) (List.map rungE i.b.buys) = AObj.own (130 : Nat) (2 : Nat) (List.map rungE i.b.buys) ∧ AObj.own (130 : Nat) (2 : Nat) (List.map rungE i.b.sells) = AObj.own (130 : Nat) (2 : Nat) (List.map rungE i.b.sells) ∧ Sx.AObj.map (atE i.b.at_) = Sx.AObj.map (atE i.b.at_) ∧ AObj.own (3 : Nat) (1 : Nat) (iE i.b.spare) = AObj.own (3 : Nat) (1 : Nat) (iE i.b.spare)) ∧ ∀ (i_2 : Bool), I i_2 → cnd i_2 (∃ (i_3 : LdI), i_3.id = i.id ∧ (1 : Int) = (1 : Int) ∧ i_3.b.top1 = i.b.top1 ∧ i_3.b.top2 = i.b.top2 ∧ i_3.b.has1 = i.b.has1 ∧ i_3.b.has2 = i.b.has2 ∧ AObj.adt Arena (3 : Nat) ArenaU i_3.b.a = AObj.adt Arena (3 : Nat) ArenaU i.b.a ∧ List.map rungE i_3.b.buys = List.map rungE i.b.buys ∧ List.map rungE i_3.b.sells = List.map rungE i.b.sells ∧ atE i_3.b.at_ = atE i.b.at_ ∧ iE i_3.b.spare = iE i.b.spare ∧ ((i_3.b.a.slots.length ≤ (1000000 : Nat) ∧ i_3.b.a.queues.length ≤ (1000000 : Nat)) ∧ i_3.b.buys.length ≤ (1000000 : Nat) ∧ i_3.b.sells.length ≤ (1000000 : Nat) ∧ i_3.b.spare.length ≤ (1000000 : Nat)) ∧ ∀ (o : Unit), True → ∃ (i_4 : BkP), (1 : Int) = (1 : Int) ∧ i_4.price = i.price ∧ i_4.b.top1 = i_3.id ∧ i_4.b.top2 = i_3.b.top2 ∧ i_4.b.has1 = true ∧ i_4.b.has2 = i_3.b.has2 ∧ AObj.adt Arena (3 : Nat) ArenaU i_4.b.a = AObj.adt Arena (3 : Nat) ArenaU (i_3.b.untop (1 : Int)) ∧ List.map rungE i_4.b.buys = List.map rungE i_3.b.buys ∧ List.map rungE i_4.b.sells = List.map rungE i_3.b.sells ∧ atE i_4.b.at_ = atE i_3.b.at_ ∧ iE i_4.b.spare = iE i_3.b.spare ∧ ((i_4.b.a.slots.length ≤ (1000000 : Nat) ∧ (i_4.b.a.free ≠ (0 : Int) → ∃ (s : Slot), s ∈ i_4.b.a.slots ∧ s.used = false) ∧ ∀ (q : Queue), q ∈ i_4.b.a.queues → q.last = (-1 : Int) ∨ (0 : Int) ≤ q.last ∧ q.last < (↑i_4.b.a.slots.length : Int)) ∧ i_4.b.a.queues.length ≤ (100000 : Nat) ∧ i_4.b.buys.length ≤ (100000 : Nat) ∧ i_4.b.sells.length ≤ (100000 : Nat) ∧ i_4.b.spare.length ≤ (100000 : Nat)) ∧ ∀ (o : Unit), True → True ∧ ∃ (i_5 : PuI), i_5.n = (i_4.b.queueF (1 : Int) i_4.price).snd ∧ i_5.id = i.id ∧ i_5.qty = i.qty ∧ i_5.top = i_2 ∧ AObj.adt Arena (3 : Nat) ArenaU i_5.a = AObj.adt Arena (3 : Nat) ArenaU (i_4.b.queueF (1 : Int) i_4.price).fst.a ∧ (i_5.a.slots.length ≤ (1000000 : Nat) ∧ (i_5.a.free ≠ (0 : Int) → ∃ (s : Slot), s ∈ i_5.a.slots ∧ s.used = false) ∧ ∀ (q : Queue), q ∈ i_5.a.queues → q.last = (-1 : Int) ∨ (0 : Int) ≤ q.last ∧ q.last < (↑i_5.a.slots.length : Int)) ∧ ∀ (o : Unit), True → (∀ (p : Value × List D), p ∈ atE (i_4.b.queueF (1 : Int) i_4.price).fst.at_ → like (Value.int IntKind.i64 i.id) p.fst = true) ∧ ∃ (o : Unit), (i.b.addF (1 : Int) i.id i.price i.qty).snd = (0 : Int) ∧ (i.b.addF (1 : Int) i.id i.price i.qty).fst.top1 = (i_4.b.queueF (1 : Int) i_4.price).fst.top1 ∧ (i.b.addF (1 : Int) i.id i.price i.qty).fst.top2 = (i_4.b.queueF (1 : Int) i_4.price).fst.top2 ∧ (i.b.addF (1 : Int) i.id i.price i.qty).fst.has1 = (i_4.b.queueF (1 : Int) i_4.price).fst.has1 ∧ (i.b.addF (1 : Int) i.id i.price i.qty).fst.has2 = (i_4.b.queueF (1 : Int) i_4.price).fst.has2 ∧ AObj.adt Arena (3 : Nat) ArenaU (i.b.addF (1 : Int) i.id i.price i.qty).fst.a = AObj.adt Arena (3 : Nat) ArenaU (i_5.a.push i_5.n i_5.id i_5.qty i_5.top).fst ∧ List.map rungE (i.b.addF (1 : Int) i.id i.price i.qty).fst.buys = List.map rungE (i_4.b.queueF (1 : Int) i_4.price).fst.buys ∧ List.map rungE (i.b.addF (1 : Int) i.id i.price i.qty).fst.sells = List.map rungE (i_4.b.queueF (1 : Int) i_4.price).fst.sells ∧ atE (i.b.addF (1 : Int) i.id i.price i.qty).fst.at_ = mput (Value.int IntKind.i64 i.id) [D.v (.int .i64 1), D.v (.int .i64 i.price), D.v (.int .i64 (i_5.a.push i_5.n i_5.id i_5.qty i_5.top).snd.fst)] (atE (i_4.b.queueF (1 : Int) i_4.price).fst.at_) ∧ iE (i.b.addF (1 : Int) i.id i.price i.qty).fst.spare = iE (i_4.b.queueF (1 : Int) i_4.price).fst.spare ∧ True) (∃ (i_3 : BkP), (1 : Int) = (1 : Int) ∧ i_3.price = i.price ∧ i_3.b.top1 = i.b.top1 ∧ i_3.b.top2 = i.b.top2 ∧ i_3.b.has1 = i.b.has1 ∧ i_3.b.has2 = i.b.has2 ∧ AObj.adt Arena (3 : Nat) ArenaU i_3.b.a = AObj.adt Arena (3 : Nat) ArenaU i.b.a ∧ List.map rungE i_3.b.buys = List.map rungE i.b.buys ∧ List.map rungE i_3.b.sells = List.map rungE i.b.sells ∧ atE i_3.b.at_ = atE i.b.at_ ∧ iE i_3.b.spare = iE i.b.spare ∧ ((i_3.b.a.slots.length ≤ (1000000 : Nat) ∧ (i_3.b.a.free ≠ (0 : Int) → ∃ (s : Slot), s ∈ i_3.b.a.slots ∧ s.used = false) ∧ ∀ (q : Queue), q ∈ i_3.b.a.queues → q.last = (-1 : Int) ∨ (0 : Int) ≤ q.last ∧ q.last < (↑i_3.b.a.slots.length : Int)) ∧ i_3.b.a.queues.length ≤ (100000 : Nat) ∧ i_3.b.buys.length ≤ (100000 : Nat) ∧ i_3.b.sells.length ≤ (100000 : Nat) ∧ i_3.b.spare.length ≤ (100000 : Nat)) ∧ ∀ (o : Unit), True → True ∧ ∃ (i_4 : PuI), i_4.n = (i_3.b.queueF (1 : Int) i_3.price).snd ∧ i_4.id = i.id ∧ i_4.qty = i.qty ∧ i_4.top = i_2 ∧ AObj.adt Arena (3 : Nat) ArenaU i_4.a = AObj.adt Arena (3 : Nat) ArenaU (i_3.b.queueF (1 : Int) i_3.price).fst.a ∧ (i_4.a.slots.length ≤ (1000000 : Nat) ∧ (i_4.a.free ≠ (0 : Int) → ∃ (s : Slot), s ∈ i_4.a.slots ∧ s.used = false) ∧ ∀ (q : Queue), q ∈ i_4.a.queues → q.last = (-1 : Int) ∨ (0 : Int) ≤ q.last ∧ q.last < (↑i_4.a.slots.length : Int)) ∧ ∀ (o : Unit), True → (∀ (p : Value × List D), p ∈ atE (i_3.b.queueF (1 : Int) i_3.price).fst.at_ → like (Value.int IntKind.i64 i.id) p.fst = true) ∧ ∃ (o : Unit), (i.b.addF (1 : Int) i.id i.price i.qty).snd = (0 : Int) ∧ (i.b.addF (1 : Int) i.id i.price i.qty).fst.top1 = (i_3.b.queueF (1 : Int) i_3.price).fst.top1 ∧ (i.b.addF (1 : Int) i.id i.price i.qty).fst.top2 = (i_3.b.queueF (1 : Int) i_3.price).fst.top2 ∧ (i.b.addF (1 : Int) i.id i.price i.qty).fst.has1 = (i_3.b.queueF (1 : Int) i_3.price).fst.has1 ∧ (i.b.addF (1 : Int) i.id i.price i.qty).fst.has2 = (i_3.b.queueF (1 : Int) i_3.price).fst.has2 ∧ AObj.adt Arena (3 : Nat) ArenaU (i.b.addF (1 : Int) i.id i.price i.qty).fst.a = AObj.adt Arena (3 : Nat) ArenaU (i_4.a.push i_4.n i_4.id i_4.qty i_4.top).fst ∧ List.map rungE (i.b.addF (1 : Int) i.id i.price i.qty).fst.buys = List.map rungE (i_3.b.queueF (1 : Int) i_3.price).fst.buys ∧ List.map rungE (i.b.addF (1 : Int) i.id i.price i.qty).fst.sells = List.map rungE (i_3.b.queueF (1 : Int) i_3.price).fst.sells ∧ atE (i.b.addF (1 : Int) i.id i.price i.qty).fst.at_ = mput (Value.int IntKind.i64 i.id) [D.v (.int .i64 1), D.v (.int .i64 i.price), D.v (.int .i64 (i_4.a.push i_4.n i_4.id i_4.qty i_4.top).snd.fst)] (atE (i_3.b.queueF (1 : Int) i_3.price).fst.at_) ∧ iE (i.b.addF (1 : Int) i.id i.price i.qty).fst.spare = iE (i_3.b.queueF (1 : Int) i_3.price).fst.spare ∧ True))))))
theorem eqbadd1 (i : BaI) : Vbadd1 i = walk Try.prog ([(57, bisC), (58, bbetterC), (59, lead1C), (61, queue1C), (60, apushC)]) 0 (baddJ) ([]) [0] Try.f41 (Try.f41.body.getD .skip) (badd1C.pat i) (badd1C.pre i) (badd1C.alts i) := by kernel_rfl

theorem bybadd1 (hG : GOk Try.prog ([(57, bisC), (58, bbetterC), (59, lead1C), (61, queue1C), (60, apushC)])) (h : ∀ (i : BaI), badd1C.cnd i → Vbadd1 i) : badd1C.ok Try.prog 41 := ok_of_walk mixed ([(57, bisC), (58, bbetterC), (59, lead1C), (61, queue1C), (60, apushC)]) hG 0 (fun (i : BaI) => baddJ) (fun (i : BaI) => []) [0] Try.func41 (by kernel_rfl) (by kernel_rfl) (by kernel_rfl) (fun _ => by kernel_rfl) (fun (i : BaI) hc => Eq.mp (eqbadd1 i) (h i hc))

@[reducible] def Vbadd2r0 (n : Int) (n_1 : Int) (n_2 : Int) : AObj := Sx.AObj.cells [V.d (D.v (.int .i64 n)), V.d (D.v (.int .i64 n_1)), V.d (D.v (.int .i64 n_2))] (126 : Nat)
@[reducible] def Vbadd2r1 (i : BaI) (b : Bool) : AObj := Sx.AObj.cells (renL (unfNM (0 : Nat) (1 : Nat) (6 : Nat)) [V.nm (1 : Nat) (0 : Nat), V.own (2 : Nat), V.own (3 : Nat), V.mp (4 : Nat), i64V i.b.top1, i64V i.b.top2, V.own (5 : Nat), boolV i.b.has1, boolV i.b.has2]) (124 : TypeId)
def Vbadd2 (i : BaI) : Prop :=
  (∀ (p : Value × List D), p ∈ atE i.b.at_ → like (Value.int IntKind.i64 i.id) p.fst = true) ∧ ∃ (b : Bool), ∃ (n : Int), ∃ (n_1 : Int), ∃ (n_2 : Int), (mget (Value.int IntKind.i64 i.id) (atE i.b.at_) = some [D.v (.int .i64 n), D.v (.int .i64 n_1), D.v (.int .i64 n_2)] ∧ b = true ∨ mget (Value.int IntKind.i64 i.id) (atE i.b.at_) = none ∧ [D.v (.int .i64 n), D.v (.int .i64 n_1), D.v (.int .i64 n_2)] = [D.v (.int .i64 0), D.v (.int .i64 0), D.v (.int .i64 0)] ∧ b = false) ∧ ∃ (i_1 : Int), i_1 = (2 : Int) ∧ True ∧ ∀ (o : Unit), True → cnd (!(decide (i_1 = (1 : Int)) || decide (i_1 = (2 : Int)))) (∃ (o : Unit), (i.b.addF (2 : Int) i.id i.price i.qty).snd = (21 : Int) ∧ (i.b.addF (2 : Int) i.id i.price i.qty).fst.top1 = i.b.top1 ∧ (i.b.addF (2 : Int) i.id i.price i.qty).fst.top2 = i.b.top2 ∧ (i.b.addF (2 : Int) i.id i.price i.qty).fst.has1 = i.b.has1 ∧ (i.b.addF (2 : Int) i.id i.price i.qty).fst.has2 = i.b.has2 ∧ AObj.adt Arena (3 : Nat) ArenaU (i.b.addF (2 : Int) i.id i.price i.qty).fst.a = AObj.adt Arena (3 : Nat) ArenaU i.b.a ∧ List.map rungE (i.b.addF (2 : Int) i.id i.price i.qty).fst.buys = List.map rungE i.b.buys ∧ List.map rungE (i.b.addF (2 : Int) i.id i.price i.qty).fst.sells = List.map rungE i.b.sells ∧ atE (i.b.addF (2 : Int) i.id i.price i.qty).fst.at_ = atE i.b.at_ ∧ iE (i.b.addF (2 : Int) i.id i.price i.qty).fst.spare = iE i.b.spare ∧ True) (cnd (decide (i.qty < (1 : Int))) (∃ (o : Unit), (i.b.addF (2 : Int) i.id i.price i.qty).snd = (24 : Int) ∧ (i.b.addF (2 : Int) i.id i.price i.qty).fst.top1 = i.b.top1 ∧ (i.b.addF (2 : Int) i.id i.price i.qty).fst.top2 = i.b.top2 ∧ (i.b.addF (2 : Int) i.id i.price i.qty).fst.has1 = i.b.has1 ∧ (i.b.addF (2 : Int) i.id i.price i.qty).fst.has2 = i.b.has2 ∧ AObj.adt Arena (3 : Nat) ArenaU (i.b.addF (2 : Int) i.id i.price i.qty).fst.a = AObj.adt Arena (3 : Nat) ArenaU i.b.a ∧ List.map rungE (i.b.addF (2 : Int) i.id i.price i.qty).fst.buys = List.map rungE i.b.buys ∧ List.map rungE (i.b.addF (2 : Int) i.id i.price i.qty).fst.sells = List.map rungE i.b.sells ∧ atE (i.b.addF (2 : Int) i.id i.price i.qty).fst.at_ = atE i.b.at_ ∧ iE (i.b.addF (2 : Int) i.id i.price i.qty).fst.spare = iE i.b.spare ∧ True) (cnd (decide (i.qty > (1000000 : Int))) (∃ (o : Unit), (i.b.addF (2 : Int) i.id i.price i.qty).snd = (24 : Int) ∧ (i.b.addF (2 : Int) i.id i.price i.qty).fst.top1 = i.b.top1 ∧ (i.b.addF (2 : Int) i.id i.price i.qty).fst.top2 = i.b.top2 ∧ (i.b.addF (2 : Int) i.id i.price i.qty).fst.has1 = i.b.has1 ∧ (i.b.addF (2 : Int) i.id i.price i.qty).fst.has2 = i.b.has2 ∧ AObj.adt Arena (3 : Nat) ArenaU (i.b.addF (2 : Int) i.id i.price i.qty).fst.a = AObj.adt Arena (3 : Nat) ArenaU i.b.a ∧ List.map rungE (i.b.addF (2 : Int) i.id i.price i.qty).fst.buys = List.map rungE i.b.buys ∧ List.map rungE (i.b.addF (2 : Int) i.id i.price i.qty).fst.sells = List.map rungE i.b.sells ∧ atE (i.b.addF (2 : Int) i.id i.price i.qty).fst.at_ = atE i.b.at_ ∧ iE (i.b.addF (2 : Int) i.id i.price i.qty).fst.spare = iE i.b.spare ∧ True) (cnd b (∃ (o : Unit), (i.b.addF (2 : Int) i.id i.price i.qty).snd = (25 : Int) ∧ (i.b.addF (2 : Int) i.id i.price i.qty).fst.top1 = i.b.top1 ∧ (i.b.addF (2 : Int) i.id i.price i.qty).fst.top2 = i.b.top2 ∧ (i.b.addF (2 : Int) i.id i.price i.qty).fst.has1 = i.b.has1 ∧ (i.b.addF (2 : Int) i.id i.price i.qty).fst.has2 = i.b.has2 ∧ AObj.adt Arena (3 : Nat) ArenaU (i.b.addF (2 : Int) i.id i.price i.qty).fst.a = AObj.adt Arena (3 : Nat) ArenaU i.b.a ∧ List.map rungE (i.b.addF (2 : Int) i.id i.price i.qty).fst.buys = List.map rungE i.b.buys ∧ List.map rungE (i.b.addF (2 : Int) i.id i.price i.qty).fst.sells = List.map rungE i.b.sells ∧ atE (i.b.addF (2 : Int) i.id i.price i.qty).fst.at_ = atE i.b.at_ ∧ iE (i.b.addF (2 : Int) i.id i.price i.qty).fst.spare = iE i.b.spare ∧ True) (cnd (decide ((↑(atE i.b.at_).length : Int) ≥ (250 : Int))) (∃ (o : Unit), (i.b.addF (2 : Int) i.id i.price i.qty).snd = (13 : Int) ∧ (i.b.addF (2 : Int) i.id i.price i.qty).fst.top1 = i.b.top1 ∧ (i.b.addF (2 : Int) i.id i.price i.qty).fst.top2 = i.b.top2 ∧ (i.b.addF (2 : Int) i.id i.price i.qty).fst.has1 = i.b.has1 ∧ (i.b.addF (2 : Int) i.id i.price i.qty).fst.has2 = i.b.has2 ∧ AObj.adt Arena (3 : Nat) ArenaU (i.b.addF (2 : Int) i.id i.price i.qty).fst.a = AObj.adt Arena (3 : Nat) ArenaU i.b.a ∧ List.map rungE (i.b.addF (2 : Int) i.id i.price i.qty).fst.buys = List.map rungE i.b.buys ∧ List.map rungE (i.b.addF (2 : Int) i.id i.price i.qty).fst.sells = List.map rungE i.b.sells ∧ atE (i.b.addF (2 : Int) i.id i.price i.qty).fst.at_ = atE i.b.at_ ∧ iE (i.b.addF (2 : Int) i.id i.price i.qty).fst.spare = iE i.b.spare ∧ True) (∃ (i0 : Bool), ∃ (I : Bool → Prop), cnd ((↑(List.map rungE i.b.sells).length : Int) == (0 : Int)) (∃ (i' : Bool), i' = true ∧ I i' ∧ Vbadd2r0 n n_1 n_2 = Vbadd2r0 n n_1 n_2 ∧ Vbadd2r1 i b = Vbadd2r1 i b ∧ AObj.adt Arena (3 : Nat) ArenaU i.b.a = AObj.adt Arena (3 : Nat) ArenaU i.b.a ∧ AObj.own (130 : Nat) (2 : Nat) (List.map rungE i.b.buys) = AObj.own (130 : Nat) (2 : Nat) (List.map rungE i.b.buys) ∧ AObj.own (130 : Nat) (2 : Nat) (List.map rungE i.b.sells) = AObj.own (130 : Nat) (2 : Nat) (List.map rungE i.b.sells) ∧ Sx.AObj.map (atE i.b.at_) = Sx.AObj.map (atE i.b.at_) ∧ AObj.own (3 : Nat) (1 : Nat) (iE i.b.spare) = AObj.own (3 : Nat) (1 : Nat) (iE i.b.spare)) (((0 : Int) ≤ (0 : Int) ∧ (0 : Int) < (↑(List.map rungE i.b.sells).length : Int)) ∧ ∃ (n_3 : Int), elPart (List.map rungE i.b.sells) (Int.toNat (0 : Int)) ((0 : Nat) + (0 : Nat)) (1 : Nat) = some [D.v (.int .i64 n_3)] ∧ ∃ (i_2 : I3'), i_2.side = (2 : Int) ∧ i_2.x = i.price ∧ i_2.y = n_3 ∧ True ∧ ∀ (o : Unit), True → ∃ (i' : Bool), i' = btr i_2.side i_2.x i_2.y ∧ I i' ∧ Vbadd2r0 n n_1 n_2 = Vbadd2r0 n n_1 n_2 ∧ Vbadd2r1 i b = Vbadd2r1 i b ∧ AObj.adt Arena (3 : Nat) ArenaU i.b.a = AObj.adt Arena (3 : Nat) ArenaU i.b.a ∧ AObj.own (130 : Nat) (2 : Nat) (List.map rungE i.b.buys) = AObj.own (130 : Nat) (2 : Nat) (List.map rungE i.b.buys) ∧ AObj.own (130 : Nat) (2 : Nat) (List.map rungE i.b.sells) = AObj.own (130 : Nat) (2 : Nat) (List.map rungE i.b.sells) ∧ Sx.AObj.map (atE i.b.at_) = Sx.AObj.map (atE i.b.at_) ∧ AObj.own (3 : Nat) (1 : Nat) (iE i.b.spare) = AObj.own (3 : Nat) (1 : Nat) (iE i.b.spare)) ∧ ∀ (i_2 : Bool), I i_2 → cnd i_2 (∃ (i_3 : LdI), i_3.id = i.id ∧ (2 : Int) = (2 : Int) ∧ i_3.b.top1 = i.b.top1 ∧ i_3.b.top2 = i.b.top2 ∧ i_3.b.has1 = i.b.has1 ∧ i_3.b.has2 = i.b.has2 ∧ AObj.adt Arena (3 : Nat) ArenaU i_3.b.a = AObj.adt Arena (3 : Nat) ArenaU i.b.a ∧ List.map rungE i_3.b.buys = List.map rungE i.b.buys ∧ List.map rungE i_3.b.sells = List.map rungE i.b.sells ∧ atE i_3.b.at_ = atE i.b.at_ ∧ iE i_3.b.spare = iE i.b.spare ∧ ((i_3.b.a.slots.length ≤ (1000000 : Nat) ∧ i_3.b.a.queues.length ≤ (1000000 : Nat)) ∧ i_3.b.buys.length ≤ (1000000 : Nat) ∧ i_3.b.sells.length ≤ (1000000 : Nat) ∧ i_3.b.spare.length ≤ (1000000 : Nat)) ∧ ∀ (o : Unit), True → ∃ (i_4 : BkP), (2 : Int) = (2 : Int) ∧ i_4.price = i.price ∧ i_4.b.top1 = i_3.b.top1 ∧ i_4.b.top2 = i_3.id ∧ i_4.b.has1 = i_3.b.has1 ∧ i_4.b.has2 = true ∧ AObj.adt Arena (3 : Nat) ArenaU i_4.b.a = AObj.adt Arena (3 : Nat) ArenaU (i_3.b.untop (2 : Int)) ∧ List.map rungE i_4.b.buys = List.map rungE i_3.b.buys ∧ List.map rungE i_4.b.sells = List.map rungE i_3.b.sells ∧ atE i_4.b.at_ = atE i_3.b.at_ ∧ iE i_4.b.spare = iE i_3.b.spare ∧ ((i_4.b.a.slots.length ≤ (1000000 : Nat) ∧ (i_4.b.a.free ≠ (0 : Int) → ∃ (s : Slot), s ∈ i_4.b.a.slots ∧ s.used = false) ∧ ∀ (q : Queue), q ∈ i_4.b.a.queues → q.last = (-1 : Int) ∨ (0 : Int) ≤ q.last ∧ q.last < (↑i_4.b.a.slots.length : Int)) ∧ i_4.b.a.queues.length ≤ (100000 : Nat) ∧ i_4.b.buys.length ≤ (100000 : Nat) ∧ i_4.b.sells.length ≤ (100000 : Nat) ∧ i_4.b.spare.length ≤ (100000 : Nat)) ∧ ∀ (o : Unit), True → True ∧ ∃ (i_5 : PuI), i_5.n = (i_4.b.queueF (2 : Int) i_4.price).snd ∧ i_5.id = i.id ∧ i_5.qty = i.qty ∧ i_5.top = i_2 ∧ AObj.adt Arena (3 : Nat) ArenaU i_5.a = AObj.adt Arena (3 : Nat) ArenaU (i_4.b.queueF (2 : Int) i_4.price).fst.a ∧ (i_5.a.slots.length ≤ (1000000 : Nat) ∧ (i_5.a.free ≠ (0 : Int) → ∃ (s : Slot), s ∈ i_5.a.slots ∧ s.used = false) ∧ ∀ (q : Queue), q ∈ i_5.a.queues → q.last = (-1 : Int) ∨ (0 : Int) ≤ q.last ∧ q.last < (↑i_5.a.slots.length : Int)) ∧ ∀ (o : Unit), True → (∀ (p : Value × List D), p ∈ atE (i_4.b.queueF (2 : Int) i_4.price).fst.at_ → like (Value.int IntKind.i64 i.id) p.fst = true) ∧ ∃ (o : Unit), (i.b.addF (2 : Int) i.id i.price i.qty).snd = (0 : Int) ∧ (i.b.addF (2 : Int) i.id i.price i.qty).fst.top1 = (i_4.b.queueF (2 : Int) i_4.price).fst.top1 ∧ (i.b.addF (2 : Int) i.id i.price i.qty).fst.top2 = (i_4.b.queueF (2 : Int) i_4.price).fst.top2 ∧ (i.b.addF (2 : Int) i.id i.price i.qty).fst.has1 = (i_4.b.queueF (2 : Int) i_4.price).fst.has1 ∧ (i.b.addF (2 : Int) i.id i.price i.qty).fst.has2 = (i_4.b.queueF (2 : Int) i_4.price).fst.has2 ∧ AObj.adt Arena (3 : Nat) ArenaU (i.b.addF (2 : Int) i.id i.price i.qty).fst.a = AObj.adt Arena (3 : Nat) ArenaU (i_5.a.push i_5.n i_5.id i_5.qty i_5.top).fst ∧ List.map rungE (i.b.addF (2 : Int) i.id i.price i.qty).fst.buys = List.map rungE (i_4.b.queueF (2 : Int) i_4.price).fst.buys ∧ List.map rungE (i.b.addF (2 : Int) i.id i.price i.qty).fst.sells = List.map rungE (i_4.b.queueF (2 : Int) i_4.price).fst.sells ∧ atE (i.b.addF (2 : Int) i.id i.price i.qty).fst.at_ = mput (Value.int IntKind.i64 i.id) [D.v (.int .i64 2), D.v (.int .i64 i.price), D.v (.int .i64 (i_5.a.push i_5.n i_5.id i_5.qty i_5.top).snd.fst)] (atE (i_4.b.queueF (2 : Int) i_4.price).fst.at_) ∧ iE (i.b.addF (2 : Int) i.id i.price i.qty).fst.spare = iE (i_4.b.queueF (2 : Int) i_4.price).fst.spare ∧ True) (∃ (i_3 : BkP), (2 : Int) = (2 : Int) ∧ i_3.price = i.price ∧ i_3.b.top1 = i.b.top1 ∧ i_3.b.top2 = i.b.top2 ∧ i_3.b.has1 = i.b.has1 ∧ i_3.b.has2 = i.b.has2 ∧ AObj.adt Arena (3 : Nat) ArenaU i_3.b.a = AObj.adt Arena (3 : Nat) ArenaU i.b.a ∧ List.map rungE i_3.b.buys = List.map rungE i.b.buys ∧ List.map rungE i_3.b.sells = List.map rungE i.b.sells ∧ atE i_3.b.at_ = atE i.b.at_ ∧ iE i_3.b.spare = iE i.b.spare ∧ ((i_3.b.a.slots.length ≤ (1000000 : Nat) ∧ (i_3.b.a.free ≠ (0 : Int) → ∃ (s : Slot), s ∈ i_3.b.a.slots ∧ s.used = false) ∧ ∀ (q : Queue), q ∈ i_3.b.a.queues → q.last = (-1 : Int) ∨ (0 : Int) ≤ q.last ∧ q.last < (↑i_3.b.a.slots.length : Int)) ∧ i_3.b.a.queues.length ≤ (100000 : Nat) ∧ i_3.b.buys.length ≤ (100000 : Nat) ∧ i_3.b.sells.length ≤ (100000 : Nat) ∧ i_3.b.spare.length ≤ (100000 : Nat)) ∧ ∀ (o : Unit), True → True ∧ ∃ (i_4 : PuI), i_4.n = (i_3.b.queueF (2 : Int) i_3.price).snd ∧ i_4.id = i.id ∧ i_4.qty = i.qty ∧ i_4.top = i_2 ∧ AObj.adt Arena (3 : Nat) ArenaU i_4.a = AObj.adt Arena (3 : Nat) ArenaU (i_3.b.queueF (2 : Int) i_3.price).fst.a ∧ (i_4.a.slots.length ≤ (1000000 : Nat) ∧ (i_4.a.free ≠ (0 : Int) → ∃ (s : Slot), s ∈ i_4.a.slots ∧ s.used = false) ∧ ∀ (q : Queue), q ∈ i_4.a.queues → q.last = (-1 : Int) ∨ (0 : Int) ≤ q.last ∧ q.last < (↑i_4.a.slots.length : Int)) ∧ ∀ (o : Unit), True → (∀ (p : Value × List D), p ∈ atE (i_3.b.queueF (2 : Int) i_3.price).fst.at_ → like (Value.int IntKind.i64 i.id) p.fst = true) ∧ ∃ (o : Unit), (i.b.addF (2 : Int) i.id i.price i.qty).snd = (0 : Int) ∧ (i.b.addF (2 : Int) i.id i.price i.qty).fst.top1 = (i_3.b.queueF (2 : Int) i_3.price).fst.top1 ∧ (i.b.addF (2 : Int) i.id i.price i.qty).fst.top2 = (i_3.b.queueF (2 : Int) i_3.price).fst.top2 ∧ (i.b.addF (2 : Int) i.id i.price i.qty).fst.has1 = (i_3.b.queueF (2 : Int) i_3.price).fst.has1 ∧ (i.b.addF (2 : Int) i.id i.price i.qty).fst.has2 = (i_3.b.queueF (2 : Int) i_3.price).fst.has2 ∧ AObj.adt Arena (3 : Nat) ArenaU (i.b.addF (2 : Int) i.id i.price i.qty).fst.a = AObj.adt Arena (3 : Nat) ArenaU (i_4.a.push i_4.n i_4.id i_4.qty i_4.top).fst ∧ List.map rungE (i.b.addF (2 : Int) i.id i.price i.qty).fst.buys = List.map rungE (i_3.b.queueF (2 : Int) i_3.price).fst.buys ∧ List.map rungE (i.b.addF (2 : Int) i.id i.price i.qty).fst.sells = List.map rungE (i_3.b.queueF (2 : Int) i_3.price).fst.sells ∧ atE (i.b.addF (2 : Int) i.id i.price i.qty).fst.at_ = mput (Value.int IntKind.i64 i.id) [D.v (.int .i64 2), D.v (.int .i64 i.price), D.v (.int .i64 (i_4.a.push i_4.n i_4.id i_4.qty i_4.top).snd.fst)] (atE (i_3.b.queueF (2 : Int) i_3.price).fst.at_) ∧ iE (i.b.addF (2 : Int) i.id i.price i.qty).fst.spare = iE (i_3.b.queueF (2 : Int) i_3.price).fst.spare ∧ True))))))
theorem eqbadd2 (i : BaI) : Vbadd2 i = walk Try.prog ([(57, bisC), (58, bbetterC), (59, lead2C), (61, queue2C), (60, apushC)]) 0 (baddJ) ([]) [0] Try.f41 (Try.f41.body.getD .skip) (badd2C.pat i) (badd2C.pre i) (badd2C.alts i) := by kernel_rfl

theorem bybadd2 (hG : GOk Try.prog ([(57, bisC), (58, bbetterC), (59, lead2C), (61, queue2C), (60, apushC)])) (h : ∀ (i : BaI), badd2C.cnd i → Vbadd2 i) : badd2C.ok Try.prog 41 := ok_of_walk mixed ([(57, bisC), (58, bbetterC), (59, lead2C), (61, queue2C), (60, apushC)]) hG 0 (fun (i : BaI) => baddJ) (fun (i : BaI) => []) [0] Try.func41 (by kernel_rfl) (by kernel_rfl) (by kernel_rfl) (fun _ => by kernel_rfl) (fun (i : BaI) hc => Eq.mp (eqbadd2 i) (h i hc))

def Vsadd (i : SaI) : Prop :=
  (∀ (p : Value × List D), p ∈ mapE i.s.wh → like (Value.int IntKind.i64 i.id) p.fst = true) ∧ ∃ (b : Bool), ∃ (n : Int), (mget (Value.int IntKind.i64 i.id) (mapE i.s.wh) = some [D.v (.int .i64 n)] ∧ b = true ∨ mget (Value.int IntKind.i64 i.id) (mapE i.s.wh) = none ∧ [D.v (.int .i64 n)] = [D.v (.int .i64 0)] ∧ b = false) ∧ cnd (decide (i.inst ≥ (0 : Int))) (cnd (!decide (i.inst < (↑i.s.books.length : Int))) (∃ (o : Unit), (MSt.addF i).snd = (20 : Int) ∧ sb (MSt.addF i).fst.p.code = sb i.s.p.code ∧ (MSt.addF i).fst.p.tick = i.s.p.tick ∧ (MSt.addF i).fst.p.low = i.s.p.low ∧ (MSt.addF i).fst.p.high = i.s.p.high ∧ (MSt.addF i).fst.p.wide = i.s.p.wide ∧ (MSt.addF i).fst.p.rule = i.s.p.rule ∧ (MSt.addF i).fst.p.top = i.s.p.top ∧ (MSt.addF i).fst.p.least = i.s.p.least ∧ (MSt.addF i).fst.p.part = i.s.p.part ∧ AObj.objs (85 : Nat) Book (6 : Nat) BookU (MSt.addF i).fst.books none = AObj.objs (85 : Nat) Book (6 : Nat) BookU i.s.books none ∧ mapE (MSt.addF i).fst.wh = mapE i.s.wh ∧ AObj.fro (1 : Nat) (iE (MSt.addF i).fst.p.months) = AObj.fro (1 : Nat) (iE i.s.p.months) ∧ AObj.fro (1 : Nat) (iE (MSt.addF i).fst.p.settle) = AObj.fro (1 : Nat) (iE i.s.p.settle) ∧ True) (cnd b (∃ (o : Unit), (MSt.addF i).snd = (25 : Int) ∧ sb (MSt.addF i).fst.p.code = sb i.s.p.code ∧ (MSt.addF i).fst.p.tick = i.s.p.tick ∧ (MSt.addF i).fst.p.low = i.s.p.low ∧ (MSt.addF i).fst.p.high = i.s.p.high ∧ (MSt.addF i).fst.p.wide = i.s.p.wide ∧ (MSt.addF i).fst.p.rule = i.s.p.rule ∧ (MSt.addF i).fst.p.top = i.s.p.top ∧ (MSt.addF i).fst.p.least = i.s.p.least ∧ (MSt.addF i).fst.p.part = i.s.p.part ∧ AObj.objs (85 : Nat) Book (6 : Nat) BookU (MSt.addF i).fst.books none = AObj.objs (85 : Nat) Book (6 : Nat) BookU i.s.books none ∧ mapE (MSt.addF i).fst.wh = mapE i.s.wh ∧ AObj.fro (1 : Nat) (iE (MSt.addF i).fst.p.months) = AObj.fro (1 : Nat) (iE i.s.p.months) ∧ AObj.fro (1 : Nat) (iE (MSt.addF i).fst.p.settle) = AObj.fro (1 : Nat) (iE i.s.p.settle) ∧ True) (cnd (decide ((↑(mapE i.s.wh).length : Int) ≥ (250 : Int))) (∃ (o : Unit), (MSt.addF i).snd = (13 : Int) ∧ sb (MSt.addF i).fst.p.code = sb i.s.p.code ∧ (MSt.addF i).fst.p.tick = i.s.p.tick ∧ (MSt.addF i).fst.p.low = i.s.p.low ∧ (MSt.addF i).fst.p.high = i.s.p.high ∧ (MSt.addF i).fst.p.wide = i.s.p.wide ∧ (MSt.addF i).fst.p.rule = i.s.p.rule ∧ (MSt.addF i).fst.p.top = i.s.p.top ∧ (MSt.addF i).fst.p.least = i.s.p.least ∧ (MSt.addF i).fst.p.part = i.s.p.part ∧ AObj.objs (85 : Nat) Book (6 : Nat) BookU (MSt.addF i).fst.books none = AObj.objs (85 : Nat) Book (6 : Nat) BookU i.s.books none ∧ mapE (MSt.addF i).fst.wh = mapE i.s.wh ∧ AObj.fro (1 : Nat) (iE (MSt.addF i).fst.p.months) = AObj.fro (1 : Nat) (iE i.s.p.months) ∧ AObj.fro (1 : Nat) (iE (MSt.addF i).fst.p.settle) = AObj.fro (1 : Nat) (iE i.s.p.settle) ∧ True) (∃ (i_1 : SprI), sb i_1.p.code = sb i.s.p.code ∧ iE i_1.p.months = iE i.s.p.months ∧ i_1.p.tick = i.s.p.tick ∧ i_1.p.low = i.s.p.low ∧ i_1.p.high = i.s.p.high ∧ i_1.p.wide = i.s.p.wide ∧ i_1.p.rule = i.s.p.rule ∧ i_1.p.top = i.s.p.top ∧ i_1.p.least = i.s.p.least ∧ i_1.p.part = i.s.p.part ∧ iE i_1.p.settle = iE i.s.p.settle ∧ i_1.a = i.inst ∧ i_1.b = i.price ∧ (i_1.p.code.length ≤ (1099511627776 : Nat) ∧ i_1.p.months.length ≤ (1099511627776 : Nat) ∧ i_1.p.settle.length ≤ (1099511627776 : Nat)) ∧ ∀ (o : Unit), True → cnd (i_1.p.price i_1.a i_1.b != (0 : Int)) (∃ (o : Unit), (MSt.addF i).snd = i_1.p.price i_1.a i_1.b ∧ sb (MSt.addF i).fst.p.code = sb i.s.p.code ∧ (MSt.addF i).fst.p.tick = i.s.p.tick ∧ (MSt.addF i).fst.p.low = i.s.p.low ∧ (MSt.addF i).fst.p.high = i.s.p.high ∧ (MSt.addF i).fst.p.wide = i.s.p.wide ∧ (MSt.addF i).fst.p.rule = i.s.p.rule ∧ (MSt.addF i).fst.p.top = i.s.p.top ∧ (MSt.addF i).fst.p.least = i.s.p.least ∧ (MSt.addF i).fst.p.part = i.s.p.part ∧ AObj.objs (85 : Nat) Book (6 : Nat) BookU (MSt.addF i).fst.books none = AObj.objs (85 : Nat) Book (6 : Nat) BookU i.s.books none ∧ mapE (MSt.addF i).fst.wh = mapE i.s.wh ∧ AObj.fro (1 : Nat) (iE (MSt.addF i).fst.p.months) = AObj.fro (1 : Nat) (iE i.s.p.months) ∧ AObj.fro (1 : Nat) (iE (MSt.addF i).fst.p.settle) = AObj.fro (1 : Nat) (iE i.s.p.settle) ∧ True) (((0 : Int) ≤ i.inst ∧ i.inst < (↑i.s.books.length : Int)) ∧ i.inst.toNat < i.s.books.length ∧ ∃ (x : Book), i.s.books[i.inst.toNat]? = some x ∧ ∃ (i_2 : BaJ), i_2.i.id = i.id ∧ sideN i_2.s = sideN i.sd ∧ i_2.i.price = i.price ∧ i_2.i.qty = i.qty ∧ AObj.adt Book (6 : Nat) BookU i_2.i.b = AObj.adt Book (6 : Nat) BookU x ∧ ((i_2.i.b.a.slots.length ≤ (1000000 : Nat) ∧ (i_2.i.b.a.free ≠ (0 : Int) → ∃ (s : Slot), s ∈ i_2.i.b.a.slots ∧ s.used = false) ∧ ∀ (q : Queue), q ∈ i_2.i.b.a.queues → q.last = (-1 : Int) ∨ (0 : Int) ≤ q.last ∧ q.last < (↑i_2.i.b.a.slots.length : Int)) ∧ i_2.i.b.a.queues.length ≤ (100000 : Nat) ∧ i_2.i.b.buys.length ≤ (100000 : Nat) ∧ i_2.i.b.sells.length ≤ (100000 : Nat) ∧ i_2.i.b.spare.length ≤ (100000 : Nat)) ∧ ∀ (o : Unit), True → ∃ (x : Book), AObj.adt Book (6 : Nat) BookU (i_2.i.b.addF (sideN i_2.s) i_2.i.id i_2.i.price i_2.i.qty).fst = AObj.adt Book (6 : Nat) BookU x ∧ i.inst.toNat = i.inst.toNat ∧ i.inst.toNat < i.s.books.length ∧ cnd ((i_2.i.b.addF (sideN i_2.s) i_2.i.id i_2.i.price i_2.i.qty).snd == (0 : Int)) ((∀ (p : Value × List D), p ∈ mapE i.s.wh → like (Value.int IntKind.i64 i.id) p.fst = true) ∧ ∃ (o : Unit), (MSt.addF i).snd = (i_2.i.b.addF (sideN i_2.s) i_2.i.id i_2.i.price i_2.i.qty).snd ∧ sb (MSt.addF i).fst.p.code = sb i.s.p.code ∧ (MSt.addF i).fst.p.tick = i.s.p.tick ∧ (MSt.addF i).fst.p.low = i.s.p.low ∧ (MSt.addF i).fst.p.high = i.s.p.high ∧ (MSt.addF i).fst.p.wide = i.s.p.wide ∧ (MSt.addF i).fst.p.rule = i.s.p.rule ∧ (MSt.addF i).fst.p.top = i.s.p.top ∧ (MSt.addF i).fst.p.least = i.s.p.least ∧ (MSt.addF i).fst.p.part = i.s.p.part ∧ AObj.objs (85 : Nat) Book (6 : Nat) BookU (MSt.addF i).fst.books none = AObj.objs (85 : Nat) Book (6 : Nat) BookU (i.s.books.set i.inst.toNat x) none ∧ mapE (MSt.addF i).fst.wh = mput (Value.int IntKind.i64 i.id) [D.v (.int .i64 i.inst)] (mapE i.s.wh) ∧ AObj.fro (1 : Nat) (iE (MSt.addF i).fst.p.months) = AObj.fro (1 : Nat) (iE i.s.p.months) ∧ AObj.fro (1 : Nat) (iE (MSt.addF i).fst.p.settle) = AObj.fro (1 : Nat) (iE i.s.p.settle) ∧ True) (∃ (o : Unit), (MSt.addF i).snd = (i_2.i.b.addF (sideN i_2.s) i_2.i.id i_2.i.price i_2.i.qty).snd ∧ sb (MSt.addF i).fst.p.code = sb i.s.p.code ∧ (MSt.addF i).fst.p.tick = i.s.p.tick ∧ (MSt.addF i).fst.p.low = i.s.p.low ∧ (MSt.addF i).fst.p.high = i.s.p.high ∧ (MSt.addF i).fst.p.wide = i.s.p.wide ∧ (MSt.addF i).fst.p.rule = i.s.p.rule ∧ (MSt.addF i).fst.p.top = i.s.p.top ∧ (MSt.addF i).fst.p.least = i.s.p.least ∧ (MSt.addF i).fst.p.part = i.s.p.part ∧ AObj.objs (85 : Nat) Book (6 : Nat) BookU (MSt.addF i).fst.books none = AObj.objs (85 : Nat) Book (6 : Nat) BookU (i.s.books.set i.inst.toNat x) none ∧ mapE (MSt.addF i).fst.wh = mapE i.s.wh ∧ AObj.fro (1 : Nat) (iE (MSt.addF i).fst.p.months) = AObj.fro (1 : Nat) (iE i.s.p.months) ∧ AObj.fro (1 : Nat) (iE (MSt.addF i).fst.p.settle) = AObj.fro (1 : Nat) (iE i.s.p.settle) ∧ True)))))) (∃ (o : Unit), (MSt.addF i).snd = (20 : Int) ∧ sb (MSt.addF i).fst.p.code = sb i.s.p.code ∧ (MSt.addF i).fst.p.tick = i.s.p.tick ∧ (MSt.addF i).fst.p.low = i.s.p.low ∧ (MSt.addF i).fst.p.high = i.s.p.high ∧ (MSt.addF i).fst.p.wide = i.s.p.wide ∧ (MSt.addF i).fst.p.rule = i.s.p.rule ∧ (MSt.addF i).fst.p.top = i.s.p.top ∧ (MSt.addF i).fst.p.least = i.s.p.least ∧ (MSt.addF i).fst.p.part = i.s.p.part ∧ AObj.objs (85 : Nat) Book (6 : Nat) BookU (MSt.addF i).fst.books none = AObj.objs (85 : Nat) Book (6 : Nat) BookU i.s.books none ∧ mapE (MSt.addF i).fst.wh = mapE i.s.wh ∧ AObj.fro (1 : Nat) (iE (MSt.addF i).fst.p.months) = AObj.fro (1 : Nat) (iE i.s.p.months) ∧ AObj.fro (1 : Nat) (iE (MSt.addF i).fst.p.settle) = AObj.fro (1 : Nat) (iE i.s.p.settle) ∧ True)
theorem eqsadd (i : SaI) : Vsadd i = walk Try.prog ([(40, priceC), (41, baddC)]) 1 ([]) ([]) [0] Try.f17 (Try.f17.body.getD .skip) (saddC.pat i) (saddC.pre i) (saddC.alts i) := by kernel_rfl

theorem bysadd (hG : GOk Try.prog ([(40, priceC), (41, baddC)])) (h : ∀ (i : SaI), saddC.cnd i → Vsadd i) : saddC.ok Try.prog 17 := ok_of_walk mixed ([(40, priceC), (41, baddC)]) hG 1 (fun (i : SaI) => []) (fun (i : SaI) => []) [0] Try.func17 (by kernel_rfl) (by kernel_rfl) (by kernel_rfl) (fun _ => by kernel_rfl) (fun (i : SaI) hc => Eq.mp (eqsadd i) (h i hc))

end Sx

namespace Sx
set_option linter.unusedVariables false
set_option linter.unusedSimpArgs false
set_option maxRecDepth 100000
open Go Cv Go.Proofs

theorem mem_modify {α : Type} {f : α → α} {Q : α → Prop} (hf : ∀ x, Q x → Q (f x)) : ∀ {l : List α} (i : Nat), (∃ x ∈ l, Q x) → ∃ x ∈ l.modify i f, Q x
  | [], i, ⟨x, hx, _⟩ => by cases hx
  | a :: l, 0, ⟨x, hx, q⟩ => by
    rcases List.mem_cons.1 hx with rfl | hx
    · exact ⟨f x, List.mem_cons_self, hf x q⟩
    · exact ⟨x, List.mem_cons_of_mem _ hx, q⟩
  | a :: l, i + 1, ⟨x, hx, q⟩ => by
    rw [List.modify_succ_cons]
    rcases List.mem_cons.1 hx with rfl | hx
    · exact ⟨x, List.mem_cons_self, q⟩
    · obtain ⟨y, hy, hq⟩ := mem_modify hf (l := l) i ⟨x, hx, q⟩
      exact ⟨y, List.mem_cons_of_mem _ hy, hq⟩
theorem topF_fit {a : Arena} (h : a.fit) (n : Int) (t : Bool) : (a.topF n t).fit := by
  obtain ⟨h1, h2, h3⟩ := h
  rw [Arena.topF]
  split
  · refine ⟨by simpa using h1, fun hf => ?_, by simpa using h3⟩
    exact mem_modify (f := fun s : Slot => { s with top := t }) (Q := fun s => s.used = false) (fun x hx => hx) _ (h2 hf)
  · exact ⟨h1, h2, h3⟩
theorem untop_fit {b : Book} (h : b.a.fit) (s : Int) : (b.untop s).fit := by
  rw [Book.untop]
  repeat' split
  all_goals first | exact h | exact topF_fit h _ _
theorem openQ_fit {a : Arena} (h : a.fit) : a.openQ.fit := by
  obtain ⟨h1, h2, h3⟩ := h
  refine ⟨h1, h2, fun q hq => ?_⟩
  rcases List.mem_append.1 hq with hq | hq
  · exact h3 q hq
  · rw [List.mem_singleton.1 hq]; exact .inl rfl
theorem newQ_fit {b : Book} (h : b.a.fit) : b.newQ.2.2.fit := by
  rw [Book.newQ]
  split
  · exact openQ_fit h
  · exact h
theorem queueF_fit {b : Book} (h : b.a.fit) (s p : Int) : (b.queueF s p).1.a.fit := by
  rw [Book.queueF]
  repeat' split
  · exact h
  · exact newQ_fit h
  · exact newQ_fit h
theorem untop_len (b : Book) (s : Int) : (b.untop s).slots.length = b.a.slots.length ∧ (b.untop s).queues = b.a.queues := by
  have ht : ∀ n t, (b.a.topF n t).slots.length = b.a.slots.length ∧ (b.a.topF n t).queues = b.a.queues := by
    intro n t
    rw [Arena.topF]
    split
    · exact ⟨by simp, rfl⟩
    · exact ⟨rfl, rfl⟩
  rw [Book.untop]
  repeat' split
  all_goals first | exact ⟨rfl, rfl⟩ | exact ht _ _
theorem leadF_fit {b : Book} (h : b.fit) (id s : Int) : (b.leadF id s).fit := by
  obtain ⟨h1, h2, h3, h4, h5⟩ := h
  have hl := untop_len b s
  rw [Book.leadF]
  split
  all_goals exact ⟨untop_fit h1 s, by rw [hl.2]; exact h2, h3, h4, h5⟩
theorem fit_small {b : Book} (h : b.fit) : b.small := by
  obtain ⟨⟨h1, _⟩, h2, h3, h4, h5⟩ := h
  exact ⟨⟨h1, by omega⟩, by omega, by omega, by omega⟩

theorem vbadd1 (i : BaI) (h : badd1C.cnd i) : Vbadd1 i := by
  have hfit : i.b.fit := h
  have hsm := fit_small hfit
  unfold Vbadd1
  have plc : ∀ (b : Book) (x : Int), mput (Value.int IntKind.i64 i.id) [D.v (.int .i64 1), D.v (.int .i64 i.price), D.v (.int .i64 x)] (atE b.at_) = atE (pput i.id ⟨1, i.price, x⟩ b.at_) := fun b x => mput_at i.id ⟨1, i.price, x⟩ b.at_
  refine ⟨like_at _ _, (pget i.b.at_ i.id).isSome, _, _, _, lk_at _ _, 1, rfl, trivial, fun _ _ => ?_⟩
  refine Cv.cnd.mk (fun c => absurd c (by decide)) fun _ => ?_
  refine cndD (fun c => ?_) (fun c => cndD (fun d => ?_) (fun d => ?_))
  · have ha : i.b.addF 1 i.id i.price i.qty = (i.b, 24) := by rw [Book.addF, if_pos (.inl c)]
    rw [ha]; (repeat' (first | exact rfl | exact trivial | assumption | apply And.intro | (refine fun (_ : Unit) (_ : True) => ?_) | (refine Exists.intro () ?_) | omega | (dsimp only; omega)))
  · have ha : i.b.addF 1 i.id i.price i.qty = (i.b, 24) := by rw [Book.addF, if_pos (.inr d)]
    rw [ha]; (repeat' (first | exact rfl | exact trivial | assumption | apply And.intro | (refine fun (_ : Unit) (_ : True) => ?_) | (refine Exists.intro () ?_) | omega | (dsimp only; omega)))
  have hq : ¬ (i.qty < 1 ∨ 1000000 < i.qty) := by omega
  refine Cv.cnd.mk (fun e => ?_) (fun e => ?_)
  · have ha : i.b.addF 1 i.id i.price i.qty = (i.b, 25) := by rw [Book.addF, if_neg hq, if_pos e]
    rw [ha]; (repeat' (first | exact rfl | exact trivial | assumption | apply And.intro | (refine fun (_ : Unit) (_ : True) => ?_) | (refine Exists.intro () ?_) | omega | (dsimp only; omega)))
  have hlen : (atE i.b.at_).length = i.b.at_.length := by simp [atE]
  rw [hlen]
  refine cndD (fun f => ?_) (fun f => ?_)
  · have ha : i.b.addF 1 i.id i.price i.qty = (i.b, 13) := by rw [Book.addF, if_neg hq, if_neg (by rw [e]; decide), if_pos (by omega)]
    rw [ha]; (repeat' (first | exact rfl | exact trivial | assumption | apply And.intro | (refine fun (_ : Unit) (_ : True) => ?_) | (refine Exists.intro () ?_) | omega | (dsimp only; omega)))
  have ha : i.b.addF 1 i.id i.price i.qty = (i.b.stand 1 i.id i.price i.qty, 0) := by rw [Book.addF, if_neg hq, if_neg (by rw [e]; decide), if_neg (by omega)]
  rw [ha]
  simp only [List.length_map]
  refine ⟨true, fun x => x = i.b.leads 1 i.price, Cv.cnd.mk (fun g => ⟨true, rfl, ?_, by (repeat' (first | exact trivial | exact rfl | apply And.intro))⟩) (fun g => ?_), fun x hx => ?_⟩
  · have : i.b.buys = [] := List.eq_nil_of_length_eq_zero (by have : (i.b.buys.length : Int) = 0 := (by simpa using g); omega)
    rw [Book.leads, rungs1, this]
  · obtain ⟨r, l, hl⟩ : ∃ r l, i.b.buys = r :: l := by
      cases hb : i.b.buys with
      | nil => rw [hb] at g; exact absurd g (by decide)
      | cons r l => exact ⟨r, l, rfl⟩
    refine ⟨⟨by omega, by rw [hl, List.length_cons]; omega⟩, r.price, elA (x := r) (by rw [hl]; rfl) (by simp [rungE]) rfl, ⟨1, i.price, r.price⟩, rfl, rfl, rfl, trivial, fun _ _ => ⟨_, rfl, ?_, by (repeat' (first | exact trivial | exact rfl | apply And.intro))⟩⟩
    rw [Book.leads, rungs1, hl]
  subst hx
  refine Cv.cnd.mk (fun g => ?_) (fun g => ?_)
  · have hled : i.b.led i.id 1 i.price = i.b.leadF i.id 1 := by rw [Book.led, if_pos g]
    have hf1 := leadF_fit hfit i.id 1
    have hst : i.b.stand 1 i.id i.price i.qty = { ((i.b.leadF i.id 1).queueF 1 i.price).1 with a := (((i.b.leadF i.id 1).queueF 1 i.price).1.a.push ((i.b.leadF i.id 1).queueF 1 i.price).2 i.id i.qty (i.b.leads 1 i.price)).1, at_ := pput i.id ⟨1, i.price, (((i.b.leadF i.id 1).queueF 1 i.price).1.a.push ((i.b.leadF i.id 1).queueF 1 i.price).2 i.id i.qty (i.b.leads 1 i.price)).2.1⟩ ((i.b.leadF i.id 1).queueF 1 i.price).1.at_ } := by
      simp only [Book.stand, hled]
    refine ⟨⟨i.b, i.id⟩, rfl, trivial, rfl, rfl, rfl, rfl, rfl, rfl, rfl, rfl, rfl, hsm, fun _ _ => ⟨⟨i.b.leadF i.id 1, i.price⟩, trivial, rfl, rfl, rfl, rfl, rfl, rfl, rfl, rfl, rfl, rfl, hf1, fun _ _ => ⟨trivial, ?_⟩⟩⟩
    refine ⟨⟨((i.b.leadF i.id 1).queueF 1 i.price).1.a, ((i.b.leadF i.id 1).queueF 1 i.price).2, i.id, i.qty, i.b.leads 1 i.price⟩, rfl, rfl, rfl, rfl, rfl, queueF_fit hf1.1 1 i.price, fun _ _ => ⟨like_at _ _, (), ?_⟩⟩
    dsimp only
    rw [hst, plc]
    (repeat' (first | exact rfl | exact trivial | assumption | apply And.intro | (refine fun (_ : Unit) (_ : True) => ?_) | (refine Exists.intro () ?_) | omega | (dsimp only; omega)))
  · have hled : i.b.led i.id 1 i.price = i.b := by rw [Book.led, if_neg (by rw [g]; decide)]
    have hst : i.b.stand 1 i.id i.price i.qty = { (i.b.queueF 1 i.price).1 with a := ((i.b.queueF 1 i.price).1.a.push (i.b.queueF 1 i.price).2 i.id i.qty (i.b.leads 1 i.price)).1, at_ := pput i.id ⟨1, i.price, ((i.b.queueF 1 i.price).1.a.push (i.b.queueF 1 i.price).2 i.id i.qty (i.b.leads 1 i.price)).2.1⟩ (i.b.queueF 1 i.price).1.at_ } := by
      simp only [Book.stand, hled]
    refine ⟨⟨i.b, i.price⟩, trivial, rfl, rfl, rfl, rfl, rfl, rfl, rfl, rfl, rfl, rfl, hfit, fun _ _ => ⟨trivial, ?_⟩⟩
    refine ⟨⟨(i.b.queueF 1 i.price).1.a, (i.b.queueF 1 i.price).2, i.id, i.qty, i.b.leads 1 i.price⟩, rfl, rfl, rfl, rfl, rfl, queueF_fit hfit.1 1 i.price, fun _ _ => ⟨like_at _ _, (), ?_⟩⟩
    dsimp only
    rw [hst, plc]
    (repeat' (first | exact rfl | exact trivial | assumption | apply And.intro | (refine fun (_ : Unit) (_ : True) => ?_) | (refine Exists.intro () ?_) | omega | (dsimp only; omega)))
theorem badd1_ok : badd1C.ok Try.prog 41 := bybadd1 (gokc bis_ok (gokc bbetter_ok (gokc lead1_ok (gokc queue1_ok (gokc apush_ok gok0))))) vbadd1

theorem vbadd2 (i : BaI) (h : badd2C.cnd i) : Vbadd2 i := by
  have hfit : i.b.fit := h
  have hsm := fit_small hfit
  unfold Vbadd2
  have plc : ∀ (b : Book) (x : Int), mput (Value.int IntKind.i64 i.id) [D.v (.int .i64 2), D.v (.int .i64 i.price), D.v (.int .i64 x)] (atE b.at_) = atE (pput i.id ⟨2, i.price, x⟩ b.at_) := fun b x => mput_at i.id ⟨2, i.price, x⟩ b.at_
  refine ⟨like_at _ _, (pget i.b.at_ i.id).isSome, _, _, _, lk_at _ _, 2, rfl, trivial, fun _ _ => ?_⟩
  refine Cv.cnd.mk (fun c => absurd c (by decide)) fun _ => ?_
  refine cndD (fun c => ?_) (fun c => cndD (fun d => ?_) (fun d => ?_))
  · have ha : i.b.addF 2 i.id i.price i.qty = (i.b, 24) := by rw [Book.addF, if_pos (.inl c)]
    rw [ha]; (repeat' (first | exact rfl | exact trivial | assumption | apply And.intro | (refine fun (_ : Unit) (_ : True) => ?_) | (refine Exists.intro () ?_) | omega | (dsimp only; omega)))
  · have ha : i.b.addF 2 i.id i.price i.qty = (i.b, 24) := by rw [Book.addF, if_pos (.inr d)]
    rw [ha]; (repeat' (first | exact rfl | exact trivial | assumption | apply And.intro | (refine fun (_ : Unit) (_ : True) => ?_) | (refine Exists.intro () ?_) | omega | (dsimp only; omega)))
  have hq : ¬ (i.qty < 1 ∨ 1000000 < i.qty) := by omega
  refine Cv.cnd.mk (fun e => ?_) (fun e => ?_)
  · have ha : i.b.addF 2 i.id i.price i.qty = (i.b, 25) := by rw [Book.addF, if_neg hq, if_pos e]
    rw [ha]; (repeat' (first | exact rfl | exact trivial | assumption | apply And.intro | (refine fun (_ : Unit) (_ : True) => ?_) | (refine Exists.intro () ?_) | omega | (dsimp only; omega)))
  have hlen : (atE i.b.at_).length = i.b.at_.length := by simp [atE]
  rw [hlen]
  refine cndD (fun f => ?_) (fun f => ?_)
  · have ha : i.b.addF 2 i.id i.price i.qty = (i.b, 13) := by rw [Book.addF, if_neg hq, if_neg (by rw [e]; decide), if_pos (by omega)]
    rw [ha]; (repeat' (first | exact rfl | exact trivial | assumption | apply And.intro | (refine fun (_ : Unit) (_ : True) => ?_) | (refine Exists.intro () ?_) | omega | (dsimp only; omega)))
  have ha : i.b.addF 2 i.id i.price i.qty = (i.b.stand 2 i.id i.price i.qty, 0) := by rw [Book.addF, if_neg hq, if_neg (by rw [e]; decide), if_neg (by omega)]
  rw [ha]
  simp only [List.length_map]
  refine ⟨true, fun x => x = i.b.leads 2 i.price, Cv.cnd.mk (fun g => ⟨true, rfl, ?_, by (repeat' (first | exact trivial | exact rfl | apply And.intro))⟩) (fun g => ?_), fun x hx => ?_⟩
  · have : i.b.sells = [] := List.eq_nil_of_length_eq_zero (by have : (i.b.sells.length : Int) = 0 := (by simpa using g); omega)
    rw [Book.leads, rungs2, this]
  · obtain ⟨r, l, hl⟩ : ∃ r l, i.b.sells = r :: l := by
      cases hb : i.b.sells with
      | nil => rw [hb] at g; exact absurd g (by decide)
      | cons r l => exact ⟨r, l, rfl⟩
    refine ⟨⟨by omega, by rw [hl, List.length_cons]; omega⟩, r.price, elA (x := r) (by rw [hl]; rfl) (by simp [rungE]) rfl, ⟨2, i.price, r.price⟩, rfl, rfl, rfl, trivial, fun _ _ => ⟨_, rfl, ?_, by (repeat' (first | exact trivial | exact rfl | apply And.intro))⟩⟩
    rw [Book.leads, rungs2, hl]
  subst hx
  refine Cv.cnd.mk (fun g => ?_) (fun g => ?_)
  · have hled : i.b.led i.id 2 i.price = i.b.leadF i.id 2 := by rw [Book.led, if_pos g]
    have hf1 := leadF_fit hfit i.id 2
    have hst : i.b.stand 2 i.id i.price i.qty = { ((i.b.leadF i.id 2).queueF 2 i.price).1 with a := (((i.b.leadF i.id 2).queueF 2 i.price).1.a.push ((i.b.leadF i.id 2).queueF 2 i.price).2 i.id i.qty (i.b.leads 2 i.price)).1, at_ := pput i.id ⟨2, i.price, (((i.b.leadF i.id 2).queueF 2 i.price).1.a.push ((i.b.leadF i.id 2).queueF 2 i.price).2 i.id i.qty (i.b.leads 2 i.price)).2.1⟩ ((i.b.leadF i.id 2).queueF 2 i.price).1.at_ } := by
      simp only [Book.stand, hled]
    refine ⟨⟨i.b, i.id⟩, rfl, trivial, rfl, rfl, rfl, rfl, rfl, rfl, rfl, rfl, rfl, hsm, fun _ _ => ⟨⟨i.b.leadF i.id 2, i.price⟩, trivial, rfl, rfl, rfl, rfl, rfl, rfl, rfl, rfl, rfl, rfl, hf1, fun _ _ => ⟨trivial, ?_⟩⟩⟩
    refine ⟨⟨((i.b.leadF i.id 2).queueF 2 i.price).1.a, ((i.b.leadF i.id 2).queueF 2 i.price).2, i.id, i.qty, i.b.leads 2 i.price⟩, rfl, rfl, rfl, rfl, rfl, queueF_fit hf1.1 2 i.price, fun _ _ => ⟨like_at _ _, (), ?_⟩⟩
    dsimp only
    rw [hst, plc]
    (repeat' (first | exact rfl | exact trivial | assumption | apply And.intro | (refine fun (_ : Unit) (_ : True) => ?_) | (refine Exists.intro () ?_) | omega | (dsimp only; omega)))
  · have hled : i.b.led i.id 2 i.price = i.b := by rw [Book.led, if_neg (by rw [g]; decide)]
    have hst : i.b.stand 2 i.id i.price i.qty = { (i.b.queueF 2 i.price).1 with a := ((i.b.queueF 2 i.price).1.a.push (i.b.queueF 2 i.price).2 i.id i.qty (i.b.leads 2 i.price)).1, at_ := pput i.id ⟨2, i.price, ((i.b.queueF 2 i.price).1.a.push (i.b.queueF 2 i.price).2 i.id i.qty (i.b.leads 2 i.price)).2.1⟩ (i.b.queueF 2 i.price).1.at_ } := by
      simp only [Book.stand, hled]
    refine ⟨⟨i.b, i.price⟩, trivial, rfl, rfl, rfl, rfl, rfl, rfl, rfl, rfl, rfl, rfl, hfit, fun _ _ => ⟨trivial, ?_⟩⟩
    refine ⟨⟨(i.b.queueF 2 i.price).1.a, (i.b.queueF 2 i.price).2, i.id, i.qty, i.b.leads 2 i.price⟩, rfl, rfl, rfl, rfl, rfl, queueF_fit hfit.1 2 i.price, fun _ _ => ⟨like_at _ _, (), ?_⟩⟩
    dsimp only
    rw [hst, plc]
    (repeat' (first | exact rfl | exact trivial | assumption | apply And.intro | (refine fun (_ : Unit) (_ : True) => ?_) | (refine Exists.intro () ?_) | omega | (dsimp only; omega)))
theorem badd2_ok : badd2C.ok Try.prog 41 := bybadd2 (gokc bis_ok (gokc bbetter_ok (gokc lead2_ok (gokc queue2_ok (gokc apush_ok gok0))))) vbadd2

theorem badd_ok : baddC.ok Try.prog 41 := fun j => match j with
  | ⟨i, false⟩ => badd1_ok i
  | ⟨i, true⟩ => badd2_ok i

/-! ### A state -/
theorem vsadd (i : SaI) (h : saddC.cnd i) : Vsadd i := by
  obtain ⟨hp, hbl, hb⟩ : i.s.fit := h
  unfold Vsadd
  simp only [mput_map]
  have hml : (mapE i.s.wh).length = i.s.wh.length := by simp [mapE]
  rw [hml]
  have out (e : i.inst < 0 ∨ i.s.books.length ≤ i.inst) : MSt.addF i = (i.s, 20) := by rw [MSt.addF, if_pos e]
  refine ⟨like_mapE _ _, (aget i.s.wh i.id).isSome, _, lk_map _ _, cndD (fun c => Cv.cnd.mk (fun d => ?_) (fun d => ?_)) (fun c => ?_)⟩
  · have d : ¬ i.inst < (i.s.books.length : Int) := by simpa using d
    rw [out (.inr (by omega))]; (repeat' (first | exact rfl | exact trivial | assumption | apply And.intro | (refine fun (_ : Unit) (_ : True) => ?_) | (refine Exists.intro () ?_) | omega | (dsimp only; omega)))
  · have d : i.inst < (i.s.books.length : Int) := by simpa using d
    have hn : ¬ (i.inst < 0 ∨ (i.s.books.length : Int) ≤ i.inst) := by omega
    refine Cv.cnd.mk (fun e => ?_) (fun e => cndD (fun f => ?_) (fun f => ?_))
    · rw [MSt.addF, if_neg hn, if_pos e]; (repeat' (first | exact rfl | exact trivial | assumption | apply And.intro | (refine fun (_ : Unit) (_ : True) => ?_) | (refine Exists.intro () ?_) | omega | (dsimp only; omega)))
    · rw [MSt.addF, if_neg hn, if_neg (by rw [e]; decide), if_pos (by omega)]; (repeat' (first | exact rfl | exact trivial | assumption | apply And.intro | (refine fun (_ : Unit) (_ : True) => ?_) | (refine Exists.intro () ?_) | omega | (dsimp only; omega)))
    · refine ⟨⟨i.s.p, i.inst, i.price⟩, rfl, rfl, rfl, rfl, rfl, rfl, rfl, rfl, rfl, rfl, rfl, rfl, rfl, hp, fun _ _ => Cv.cnd.mk (fun g => ?_) (fun g => ?_)⟩
      · have g : i.s.p.price i.inst i.price ≠ 0 := by simpa using g
        rw [MSt.addF, if_neg hn, if_neg (by rw [e]; decide), if_neg (by omega), if_pos g]; (repeat' (first | exact rfl | exact trivial | assumption | apply And.intro | (refine fun (_ : Unit) (_ : True) => ?_) | (refine Exists.intro () ?_) | omega | (dsimp only; omega)))
      · have g : i.s.p.price i.inst i.price = 0 := by simpa using g
        obtain ⟨x, hx⟩ := getI (l := i.s.books) (i := i.inst.toNat) (by omega)
        have hba : i.s.bookAt i.inst = x := getD_of hx
        have ha : MSt.addF i = ({ i.s with books := i.s.books.set i.inst.toNat (x.addF (sideN i.sd) i.id i.price i.qty).1, wh := if (x.addF (sideN i.sd) i.id i.price i.qty).2 = 0 then aput i.id i.inst i.s.wh else i.s.wh }, (x.addF (sideN i.sd) i.id i.price i.qty).2) := by
          rw [MSt.addF, if_neg hn, if_neg (by rw [e]; decide), if_neg (by omega), if_neg (by simp [g])]
          simp only [hba]
        refine ⟨⟨by omega, by omega⟩, by omega, x, hx, ⟨⟨x, i.id, i.price, i.qty⟩, i.sd⟩, rfl, rfl, rfl, rfl, rfl, hb x (List.mem_of_getElem? hx), fun _ _ => ⟨(x.addF (sideN i.sd) i.id i.price i.qty).1, rfl, trivial, by omega, Cv.cnd.mk (fun z => ⟨like_mapE _ _, ?_⟩) (fun z => ?_)⟩⟩
        · have z : (x.addF (sideN i.sd) i.id i.price i.qty).2 = 0 := by simpa using z
          rw [ha, z]
          simp only [if_true]
          (repeat' (first | exact rfl | exact trivial | assumption | apply And.intro | (refine fun (_ : Unit) (_ : True) => ?_) | (refine Exists.intro () ?_) | omega | (dsimp only; omega)))
        · have z : ¬ (x.addF (sideN i.sd) i.id i.price i.qty).2 = 0 := by simpa using z
          rw [ha, if_neg z]
          (repeat' (first | exact rfl | exact trivial | assumption | apply And.intro | (refine fun (_ : Unit) (_ : True) => ?_) | (refine Exists.intro () ?_) | omega | (dsimp only; omega)))
  · rw [out (.inl (by omega))]; (repeat' (first | exact rfl | exact trivial | assumption | apply And.intro | (refine fun (_ : Unit) (_ : True) => ?_) | (refine Exists.intro () ?_) | omega | (dsimp only; omega)))
theorem sadd_ok : saddC.ok Try.prog 17 := bysadd (gokc price_ok (gokc badd_ok gok0)) vsadd

end Sx

namespace Sx
set_option linter.unusedVariables false
set_option maxRecDepth 100000
open Go Cv Go.Proofs

def r3prodC : Con := con1 (List UInt8) (fun s => [sV s]) (fun _ => []) (fun s => s.length ≤ 1099511627776) (fun s => boolV (symOk s)) (fun _ => [])
def r3prodA (s : List UInt8) : List SAnn := [{ ι := Nat × Nat, slots := fun x => [(3, i64V x.2), (7, .nm 0 0)], rows := fun x => [.iter (sb s) x.1] }]
def r3prodJ : List (Nat × SAnn) := [(20, bj 29)]
def r5checkC : Con := con1 Prd (fun p => [prdV p]) (fun _ => []) Prd.small (fun p => i64V p.check) (fun _ => [])
def r5checkA : List SAnn := [{ ι := Nat, slots := fun j => [(3, i64V j)], rows := fun _ => [] }, { ι := Nat, slots := fun j => [(4, i64V j)], rows := fun _ => [] }, { ι := Nat, slots := fun j => [(5, i64V j)], rows := fun _ => [] }]
def r5checkJ : List (Nat × SAnn) := [(12, bj 19), (32, bj 58), (40, bj 90), (68, bj 136), (96, bj 168), (104, bj 176), (112, bj 204)]
def r5countC : Con := con1 Prd (fun p => [prdV p]) (fun _ => []) Prd.small (fun p => i64V p.count) (fun _ => [])
def r5legsC : Con := con1 LegI (fun i => [prdV i.p, i64V i.n]) (fun _ => []) (fun i => i.p.small) (fun i => .tup [i64V (i.p.legs i.n).1, i64V (i.p.legs i.n).2.1, boolV (i.p.legs i.n).2.2]) (fun _ => [])
def r5legsA (i : LegI) : List SAnn := [{ ι := Nat, slots := fun m => [(8, i64V (firstOf i.p.months.length m)), (9, i64V m)], rows := fun _ => [] },
  { ι := Nat × Nat, slots := fun m => [(8, i64V ((firstOf i.p.months.length m.1 + m.2 : Nat) : Int)), (9, i64V m.1), (10, i64V ((m.1 + 1 + m.2 : Nat) : Int))], rows := fun _ => [] }]
def r5priceC : Con := con1 SprI (fun i => [prdV i.p, i64V i.a, i64V i.b]) (fun _ => []) (fun i => i.p.small) (fun i => i64V (i.p.price i.a i.b)) (fun _ => [])
def r5priceJ : List (Nat × SAnn) := [(12, bj 20), (32, bj 62)]

/-! ### A right product, by raw numbers -/
def kN (x : Prd) : Int := 2 + within x.months.length 0 3
def kTick (x : Prd) : Int := 1 + within x.tick 0 9
def kMonths (n : Nat) : List Int := (List.range n).map fun (i : Nat) => 10 * (i : Int) + 3
def kSettle (t : Int) (n : Nat) : List Int := (List.range n).map fun (i : Nat) => t * (10 + (i : Int))
def kprod (x : Prd) : Prd := ⟨[206, 169], kMonths (kN x).toNat, kTick x, -20 * kTick x, 100 * kTick x, kTick x * (5 + within x.wide 0 60), 1 + within x.rule 0 2, within x.top 0 9, 1 + within x.least 0 4, within x.part 0 100, kSettle (kTick x) (kN x).toNat⟩
@[reducible] def Prd.raw (x : Prd) : Prop := i64r x.tick ∧ i64r x.wide ∧ i64r x.rule ∧ i64r x.top ∧ i64r x.least ∧ i64r x.part ∧ x.months.length ≤ 9223372036854775807
def kprodC : Con := con1 Prd (fun x => [prdV x]) (fun _ => []) Prd.raw (fun x => prdV (kprod x)) (fun _ => [])
def kRow (x : Prd) (w : Int) (j : Nat) : List AObj := [.cells [sV [206, 169], .own 1, i64V (kTick x), i64V (-20 * kTick x), i64V (100 * kTick x), i64V w, i64V (1 + within x.rule 0 2), i64V (within x.top 0 9), i64V (1 + within x.least 0 4), i64V (within x.part 0 100), .own 2] 25, .own 3 1 (iE (kMonths j)), .own 2 1 (iE (kSettle (kTick x) j))]
def kRow0 (x : Prd) : List AObj := [.cells [sV [206, 169], .d (.v (.slice none 0 0)), i64V (kTick x), i64V (-20 * kTick x), i64V (100 * kTick x), i64V 0, i64V (1 + within x.rule 0 2), i64V (within x.top 0 9), i64V (1 + within x.least 0 4), i64V (within x.part 0 100), .d (.v (.slice none 0 0))] 25]
def kprodA (x : Prd) : List SAnn := [{ ι := Nat, slots := fun j => [(5, .nm 0 0), (6, i64V j)], rows := fun j => kRow x (kTick x * (5 + within x.wide 0 60)) j }]
def kprodJ (x : Prd) : List (Nat × SAnn) := [(12, { ι := Unit, slots := fun _ => [(5, .nm 0 0)], slots0 := fun _ => [], rows0 := fun _ => [], rows := fun _ => kRow0 x })]

end Sx

namespace Sx
set_option linter.unusedVariables false
set_option maxRecDepth 100000
open Go Cv Go.Proofs
def Vr3prod (s : List UInt8) : Prop :=
  ∃ (i0 : Nat × Nat), (↑i0.snd : Int) = (0 : Int) ∧ sb s = sb s ∧ i0.fst = (0 : Nat) ∧ ∃ (I : Nat × Nat → Prop), ∃ (μ : Nat × Nat → Nat), I i0 ∧ ∀ (i : Nat × Nat), I i → cnd (i.fst.blt (sb s).size) (∃ (i0 : Bool), ∃ (I_1 : Bool → Prop), cnd (decide ((↑(Utf8.decode (sb s) i.fst).fst : Int) ≥ (65 : Int))) (cnd (decide ((↑(Utf8.decode (sb s) i.fst).fst : Int) ≤ (90 : Int))) (∃ (i' : Bool), i' = !true ∧ I_1 i' ∧ Sx.AObj.iter (sb s) (i.fst + (Utf8.decode (sb s) i.fst).snd) = Sx.AObj.iter (sb s) (i.fst + (Utf8.decode (sb s) i.fst).snd)) (cnd (decide ((↑(Utf8.decode (sb s) i.fst).fst : Int) ≥ (913 : Int))) (cnd (decide ((↑(Utf8.decode (sb s) i.fst).fst : Int) ≤ (937 : Int))) (∃ (i' : Bool), i' = !(↑(Utf8.decode (sb s) i.fst).fst : Int) != (930 : Int) ∧ I_1 i' ∧ Sx.AObj.iter (sb s) (i.fst + (Utf8.decode (sb s) i.fst).snd) = Sx.AObj.iter (sb s) (i.fst + (Utf8.decode (sb s) i.fst).snd)) (∃ (i' : Bool), i' = !false ∧ I_1 i' ∧ Sx.AObj.iter (sb s) (i.fst + (Utf8.decode (sb s) i.fst).snd) = Sx.AObj.iter (sb s) (i.fst + (Utf8.decode (sb s) i.fst).snd))) (∃ (i' : Bool), i' = !false ∧ I_1 i' ∧ Sx.AObj.iter (sb s) (i.fst + (Utf8.decode (sb s) i.fst).snd) = Sx.AObj.iter (sb s) (i.fst + (Utf8.decode (sb s) i.fst).snd)))) (cnd (decide ((↑(Utf8.decode (sb s) i.fst).fst : Int) ≥ (913 : Int))) (cnd (decide ((↑(Utf8.decode (sb s) i.fst).fst : Int) ≤ (937 : Int))) (∃ (i' : Bool), i' = !(↑(Utf8.decode (sb s) i.fst).fst : Int) != (930 : Int) ∧ I_1 i' ∧ Sx.AObj.iter (sb s) (i.fst + (Utf8.decode (sb s) i.fst).snd) = Sx.AObj.iter (sb s) (i.fst + (Utf8.decode (sb s) i.fst).snd)) (∃ (i' : Bool), i' = !false ∧ I_1 i' ∧ Sx.AObj.iter (sb s) (i.fst + (Utf8.decode (sb s) i.fst).snd) = Sx.AObj.iter (sb s) (i.fst + (Utf8.decode (sb s) i.fst).snd))) (∃ (i' : Bool), i' = !false ∧ I_1 i' ∧ Sx.AObj.iter (sb s) (i.fst + (Utf8.decode (sb s) i.fst).snd) = Sx.AObj.iter (sb s) (i.fst + (Utf8.decode (sb s) i.fst).snd))) ∧ ∀ (i_1 : Bool), I_1 i_1 → cnd i_1 (∃ (o : Unit), symOk s = false ∧ True) (∃ (i' : Nat × Nat), (↑i'.snd : Int) = IntKind.i64.wrap ((↑i.snd : Int) + (1 : Int)) ∧ sb s = sb s ∧ i'.fst = i.fst + (Utf8.decode (sb s) i.fst).snd ∧ I i' ∧ μ i' < μ i ∧ True)) (cnd (decide ((↑i.snd : Int) ≥ (1 : Int))) (∃ (o : Unit), symOk s = decide ((↑i.snd : Int) ≤ (4 : Int)) ∧ True) (∃ (o : Unit), symOk s = false ∧ True))
theorem eqr3prod (s : List UInt8) : Vr3prod s = walk Try.prog ([]) 0 (r3prodJ) (r3prodA s) [] Try.f63 (Try.f63.body.getD .skip) (r3prodC.pat s) (r3prodC.pre s) (r3prodC.alts s) := by kernel_rfl

theorem byr3prod (hG : GOk Try.prog ([])) (h : ∀ (s : List UInt8), r3prodC.cnd s → Vr3prod s) : r3prodC.ok Try.prog 63 := ok_of_walk mixed ([]) hG 0 (fun (s : List UInt8) => r3prodJ) (fun (s : List UInt8) => r3prodA s) [] Try.func63 (by kernel_rfl) (by kernel_rfl) (by kernel_rfl) (fun _ => by kernel_rfl) (fun (s : List UInt8) hc => Eq.mp (eqr3prod s) (h s hc))

@[reducible] def Vr5checkr0 (p : Prd) : AObj := Sx.AObj.cells [V.d (D.v (Value.string (sb p.code))), V.own (0 : Nat), V.d (D.v (.int .i64 p.tick)), V.d (D.v (.int .i64 p.low)), V.d (D.v (.int .i64 p.high)), V.d (D.v (.int .i64 p.wide)), V.d (D.v (.int .i64 p.rule)), V.d (D.v (.int .i64 p.top)), V.d (D.v (.int .i64 p.least)), V.d (D.v (.int .i64 p.part)), V.own ((0 : Nat) + (1 : Nat))] (25 : Nat)
def Vr5check (p : Prd) : Prop :=
  ∃ (i : List UInt8), sb i = sb p.code ∧ i.length ≤ (1099511627776 : Nat) ∧ ∀ (o : Unit), True → cnd (!symOk i) (∃ (o : Unit), p.check = (12 : Int) ∧ True) (∃ (i0 : Bool), ∃ (I : Bool → Prop), cnd (decide ((↑(iE p.months).length : Int) < (2 : Int))) (∃ (i' : Bool), i' = true ∧ I i' ∧ Vr5checkr0 p = Vr5checkr0 p ∧ AObj.fro (1 : Nat) (iE p.settle) = AObj.fro (1 : Nat) (iE p.settle) ∧ AObj.fro (1 : Nat) (iE p.months) = AObj.fro (1 : Nat) (iE p.months)) (∃ (i' : Bool), i' = decide ((↑(iE p.months).length : Int) > (6 : Int)) ∧ I i' ∧ Vr5checkr0 p = Vr5checkr0 p ∧ AObj.fro (1 : Nat) (iE p.settle) = AObj.fro (1 : Nat) (iE p.settle) ∧ AObj.fro (1 : Nat) (iE p.months) = AObj.fro (1 : Nat) (iE p.months)) ∧ ∀ (i : Bool), I i → cnd i (∃ (o : Unit), p.check = (1 : Int) ∧ True) (∃ (i0 : Nat), (↑i0 : Int) = (0 : Int) ∧ ∃ (I : Nat → Prop), ∃ (μ : Nat → Nat), I i0 ∧ ∀ (i : Nat), I i → cnd (decide ((↑i : Int) < (↑(iE p.months).length : Int))) (∃ (i0 : Bool), ∃ (I_1 : Bool → Prop), (((0 : Int) ≤ (↑i : Int) ∧ (↑i : Int) < (↑(iE p.months).length : Int)) ∧ ∃ (n : Int), elPart (iE p.months) (↑i : Int).toNat (0 : Nat) (1 : Nat) = some [D.v (.int .i64 n)] ∧ cnd (decide (n < (0 : Int))) (∃ (i' : Bool), i' = true ∧ I_1 i' ∧ Vr5checkr0 p = Vr5checkr0 p ∧ AObj.fro (1 : Nat) (iE p.settle) = AObj.fro (1 : Nat) (iE p.settle) ∧ AObj.fro (1 : Nat) (iE p.months) = AObj.fro (1 : Nat) (iE p.months)) (((0 : Int) ≤ (↑i : Int) ∧ (↑i : Int) < (↑(iE p.months).length : Int)) ∧ ∃ (n : Int), elPart (iE p.months) (↑i : Int).toNat (0 : Nat) (1 : Nat) = some [D.v (.int .i64 n)] ∧ cnd (decide (n > (1199 : Int))) (∃ (i' : Bool), i' = true ∧ I_1 i' ∧ Vr5checkr0 p = Vr5checkr0 p ∧ AObj.fro (1 : Nat) (iE p.settle) = AObj.fro (1 : Nat) (iE p.settle) ∧ AObj.fro (1 : Nat) (iE p.months) = AObj.fro (1 : Nat) (iE p.months)) (cnd (decide ((↑i : Int) > (0 : Int))) (((0 : Int) ≤ IntKind.i64.wrap ((↑i : Int) - (1 : Int)) ∧ IntKind.i64.wrap ((↑i : Int) - (1 : Int)) < (↑(iE p.months).length : Int)) ∧ ∃ (n : Int), elPart (iE p.months) (IntKind.i64.wrap ((↑i : Int) - (1 : Int))).toNat (0 : Nat) (1 : Nat) = some [D.v (.int .i64 n)] ∧ ((0 : Int) ≤ (↑i : Int) ∧ (↑i : Int) < (↑(iE p.months).length : Int)) ∧ ∃ (n_1 : Int), elPart (iE p.months) (↑i : Int).toNat (0 : Nat) (1 : Nat) = some [D.v (.int .i64 n_1)] ∧ ∃ (i' : Bool), i' = decide (n ≥ n_1) ∧ I_1 i' ∧ Vr5checkr0 p = Vr5checkr0 p ∧ AObj.fro (1 : Nat) (iE p.settle) = AObj.fro (1 : Nat) (iE p.settle) ∧ AObj.fro (1 : Nat) (iE p.months) = AObj.fro (1 : Nat) (iE p.months)) (∃ (i' : Bool), i' = false ∧ I_1 i' ∧ Vr5checkr0 p = Vr5checkr0 p ∧ AObj.fro (1 : Nat) (iE p.settle) = AObj.fro (1 : Nat) (iE p.settle) ∧ AObj.fro (1 : Nat) (iE p.months) = AObj.fro (1 : Nat) (iE p.months))))) ∧ ∀ (i_1 : Bool), I_1 i_1 → cnd i_1 (∃ (o : Unit), p.check = (1 : Int) ∧ True) (∃ (i' : Nat), (↑i' : Int) = IntKind.i64.wrap ((↑i : Int) + (1 : Int)) ∧ I i' ∧ μ i' < μ i ∧ Vr5checkr0 p = Vr5checkr0 p ∧ AObj.fro (1 : Nat) (iE p.settle) = AObj.fro (1 : Nat) (iE p.settle) ∧ AObj.fro (1 : Nat) (iE p.months) = AObj.fro (1 : Nat) (iE p.months))) (∃ (i0 : Bool), ∃ (I : Bool → Prop), cnd (decide (p.tick < (1 : Int))) (∃ (i' : Bool), i' = true ∧ I i' ∧ Vr5checkr0 p = Vr5checkr0 p ∧ AObj.fro (1 : Nat) (iE p.settle) = AObj.fro (1 : Nat) (iE p.settle) ∧ AObj.fro (1 : Nat) (iE p.months) = AObj.fro (1 : Nat) (iE p.months)) (cnd (decide (p.tick > (1000 : Int))) (∃ (i' : Bool), i' = true ∧ I i' ∧ Vr5checkr0 p = Vr5checkr0 p ∧ AObj.fro (1 : Nat) (iE p.settle) = AObj.fro (1 : Nat) (iE p.settle) ∧ AObj.fro (1 : Nat) (iE p.months) = AObj.fro (1 : Nat) (iE p.months)) (IntKind.i64 = IntKind.i64 ∧ p.tick ≠ (0 : Int) ∧ cnd (p.low.tmod p.tick != (0 : Int)) (∃ (i' : Bool), i' = true ∧ I i' ∧ Vr5checkr0 p = Vr5checkr0 p ∧ AObj.fro (1 : Nat) (iE p.settle) = AObj.fro (1 : Nat) (iE p.settle) ∧ AObj.fro (1 : Nat) (iE p.months) = AObj.fro (1 : Nat) (iE p.months)) (IntKind.i64 = IntKind.i64 ∧ p.tick ≠ (0 : Int) ∧ cnd (p.high.tmod p.tick != (0 : Int)) (∃ (i' : Bool), i' = true ∧ I i' ∧ Vr5checkr0 p = Vr5checkr0 p ∧ AObj.fro (1 : Nat) (iE p.settle) = AObj.fro (1 : Nat) (iE p.settle) ∧ AObj.fro (1 : Nat) (iE p.months) = AObj.fro (1 : Nat) (iE p.months)) (IntKind.i64 = IntKind.i64 ∧ p.tick ≠ (0 : Int) ∧ ∃ (i' : Bool), i' = (p.wide.tmod p.tick != (0 : Int)) ∧ I i' ∧ Vr5checkr0 p = Vr5checkr0 p ∧ AObj.fro (1 : Nat) (iE p.settle) = AObj.fro (1 : Nat) (iE p.settle) ∧ AObj.fro (1 : Nat) (iE p.months) = AObj.fro (1 : Nat) (iE p.months))))) ∧ ∀ (i : Bool), I i → cnd i (∃ (o : Unit), p.check = (22 : Int) ∧ True) (∃ (i0 : Nat), (↑i0 : Int) = (0 : Int) ∧ ∃ (I : Nat → Prop), ∃ (μ : Nat → Nat), I i0 ∧ ∀ (i : Nat), I i → cnd (decide ((↑i : Int) < (↑(iE p.settle).length : Int))) (((0 : Int) ≤ (↑i : Int) ∧ (↑i : Int) < (↑(iE p.settle).length : Int)) ∧ ∃ (n : Int), elPart (iE p.settle) (↑i : Int).toNat (0 : Nat) (1 : Nat) = some [D.v (.int .i64 n)] ∧ IntKind.i64 = IntKind.i64 ∧ p.tick ≠ (0 : Int) ∧ cnd (n.tmod p.tick != (0 : Int)) (∃ (o : Unit), p.check = (22 : Int) ∧ True) (∃ (i' : Nat), (↑i' : Int) = IntKind.i64.wrap ((↑i : Int) + (1 : Int)) ∧ I i' ∧ μ i' < μ i ∧ Vr5checkr0 p = Vr5checkr0 p ∧ AObj.fro (1 : Nat) (iE p.settle) = AObj.fro (1 : Nat) (iE p.settle) ∧ AObj.fro (1 : Nat) (iE p.months) = AObj.fro (1 : Nat) (iE p.months))) (∃ (i0 : Bool), ∃ (I : Bool → Prop), cnd (decide (p.low < (-1000000 : Int))) (∃ (i' : Bool), i' = true ∧ I i' ∧ Vr5checkr0 p = Vr5checkr0 p ∧ AObj.fro (1 : Nat) (iE p.settle) = AObj.fro (1 : Nat) (iE p.settle) ∧ AObj.fro (1 : Nat) (iE p.months) = AObj.fro (1 : Nat) (iE p.months)) (cnd (decide (p.low ≥ p.high)) (∃ (i' : Bool), i' = true ∧ I i' ∧ Vr5checkr0 p = Vr5checkr0 p ∧ AObj.fro (1 : Nat) (iE p.settle) = AObj.fro (1 : Nat) (iE p.settle) ∧ AObj.fro (1 : Nat) (iE p.months) = AObj.fro (1 : Nat) (iE p.months)) (cnd (decide (p.high > (1000000 : Int))) (∃ (i' : Bool), i' = true ∧ I i' ∧ Vr5checkr0 p = Vr5checkr0 p ∧ AObj.fro (1 : Nat) (iE p.settle) = AObj.fro (1 : Nat) (iE p.settle) ∧ AObj.fro (1 : Nat) (iE p.months) = AObj.fro (1 : Nat) (iE p.months)) (cnd (decide (p.wide < (0 : Int))) (∃ (i' : Bool), i' = true ∧ I i' ∧ Vr5checkr0 p = Vr5checkr0 p ∧ AObj.fro (1 : Nat) (iE p.settle) = AObj.fro (1 : Nat) (iE p.settle) ∧ AObj.fro (1 : Nat) (iE p.months) = AObj.fro (1 : Nat) (iE p.months)) (∃ (i' : Bool), i' = decide (p.wide > IntKind.i64.wrap (p.high - p.low)) ∧ I i' ∧ Vr5checkr0 p = Vr5checkr0 p ∧ AObj.fro (1 : Nat) (iE p.settle) = AObj.fro (1 : Nat) (iE p.settle) ∧ AObj.fro (1 : Nat) (iE p.months) = AObj.fro (1 : Nat) (iE p.months))))) ∧ ∀ (i : Bool), I i → cnd i (∃ (o : Unit), p.check = (23 : Int) ∧ True) (cnd ((↑(iE p.settle).length : Int) != (↑(iE p.months).length : Int)) (∃ (o : Unit), p.check = (1 : Int) ∧ True) (∃ (i0 : Nat), (↑i0 : Int) = (0 : Int) ∧ ∃ (I : Nat → Prop), ∃ (μ : Nat → Nat), I i0 ∧ ∀ (i : Nat), I i → cnd (decide ((↑i : Int) < (↑(iE p.settle).length : Int))) (∃ (i0 : Bool), ∃ (I_1 : Bool → Prop), (((0 : Int) ≤ (↑i : Int) ∧ (↑i : Int) < (↑(iE p.settle).length : Int)) ∧ ∃ (n : Int), elPart (iE p.settle) (↑i : Int).toNat (0 : Nat) (1 : Nat) = some [D.v (.int .i64 n)] ∧ cnd (decide (n < p.low)) (∃ (i' : Bool), i' = true ∧ I_1 i' ∧ Vr5checkr0 p = Vr5checkr0 p ∧ AObj.fro (1 : Nat) (iE p.settle) = AObj.fro (1 : Nat) (iE p.settle) ∧ AObj.fro (1 : Nat) (iE p.months) = AObj.fro (1 : Nat) (iE p.months)) (((0 : Int) ≤ (↑i : Int) ∧ (↑i : Int) < (↑(iE p.settle).length : Int)) ∧ ∃ (n : Int), elPart (iE p.settle) (↑i : Int).toNat (0 : Nat) (1 : Nat) = some [D.v (.int .i64 n)] ∧ ∃ (i' : Bool), i' = decide (n > p.high) ∧ I_1 i' ∧ Vr5checkr0 p = Vr5checkr0 p ∧ AObj.fro (1 : Nat) (iE p.settle) = AObj.fro (1 : Nat) (iE p.settle) ∧ AObj.fro (1 : Nat) (iE p.months) = AObj.fro (1 : Nat) (iE p.months))) ∧ ∀ (i_1 : Bool), I_1 i_1 → cnd i_1 (∃ (o : Unit), p.check = (1 : Int) ∧ True) (∃ (i' : Nat), (↑i' : Int) = IntKind.i64.wrap ((↑i : Int) + (1 : Int)) ∧ I i' ∧ μ i' < μ i ∧ Vr5checkr0 p = Vr5checkr0 p ∧ AObj.fro (1 : Nat) (iE p.settle) = AObj.fro (1 : Nat) (iE p.settle) ∧ AObj.fro (1 : Nat) (iE p.months) = AObj.fro (1 : Nat) (iE p.months))) (∃ (i0 : Bool), ∃ (I : Bool → Prop), cnd (decide (p.rule < (1 : Int))) (∃ (i' : Bool), i' = true ∧ I i' ∧ Vr5checkr0 p = Vr5checkr0 p ∧ AObj.fro (1 : Nat) (iE p.settle) = AObj.fro (1 : Nat) (iE p.settle) ∧ AObj.fro (1 : Nat) (iE p.months) = AObj.fro (1 : Nat) (iE p.months)) (∃ (i' : Bool), i' = decide (p.rule > (3 : Int)) ∧ I i' ∧ Vr5checkr0 p = Vr5checkr0 p ∧ AObj.fro (1 : Nat) (iE p.settle) = AObj.fro (1 : Nat) (iE p.settle) ∧ AObj.fro (1 : Nat) (iE p.months) = AObj.fro (1 : Nat) (iE p.months)) ∧ ∀ (i : Bool), I i → cnd i (∃ (o : Unit), p.check = (31 : Int) ∧ True) (∃ (i0 : Bool), ∃ (I : Bool → Prop), cnd (decide (p.top < (0 : Int))) (∃ (i' : Bool), i' = true ∧ I i' ∧ Vr5checkr0 p = Vr5checkr0 p ∧ AObj.fro (1 : Nat) (iE p.settle) = AObj.fro (1 : Nat) (iE p.settle) ∧ AObj.fro (1 : Nat) (iE p.months) = AObj.fro (1 : Nat) (iE p.months)) (cnd (decide (p.top > (1000000 : Int))) (∃ (i' : Bool), i' = true ∧ I i' ∧ Vr5checkr0 p = Vr5checkr0 p ∧ AObj.fro (1 : Nat) (iE p.settle) = AObj.fro (1 : Nat) (iE p.settle) ∧ AObj.fro (1 : Nat) (iE p.months) = AObj.fro (1 : Nat) (iE p.months)) (cnd (decide (p.least < (1 : Int))) (∃ (i' : Bool), i' = true ∧ I i' ∧ Vr5checkr0 p = Vr5checkr0 p ∧ AObj.fro (1 : Nat) (iE p.settle) = AObj.fro (1 : Nat) (iE p.settle) ∧ AObj.fro (1 : Nat) (iE p.months) = AObj.fro (1 : Nat) (iE p.months)) (cnd (decide (p.least > (1000 : Int))) (∃ (i' : Bool), i' = true ∧ I i' ∧ Vr5checkr0 p = Vr5checkr0 p ∧ AObj.fro (1 : Nat) (iE p.settle) = AObj.fro (1 : Nat) (iE p.settle) ∧ AObj.fro (1 : Nat) (iE p.months) = AObj.fro (1 : Nat) (iE p.months)) (cnd (decide (p.part < (0 : Int))) (∃ (i' : Bool), i' = true ∧ I i' ∧ Vr5checkr0 p = Vr5checkr0 p ∧ AObj.fro (1 : Nat) (iE p.settle) = AObj.fro (1 : Nat) (iE p.settle) ∧ AObj.fro (1 : Nat) (iE p.months) = AObj.fro (1 : Nat) (iE p.months)) (∃ (i' : Bool), i' = decide (p.part > (100 : Int)) ∧ I i' ∧ Vr5checkr0 p = Vr5checkr0 p ∧ AObj.fro (1 : Nat) (iE p.settle) = AObj.fro (1 : Nat) (iE p.settle) ∧ AObj.fro (1 : Nat) (iE p.months) = AObj.fro (1 : Nat) (iE p.months)))))) ∧ ∀ (i : Bool), I i → cnd i (∃ (o : Unit), p.check = (24 : Int) ∧ True) (∃ (o : Unit), p.check = (0 : Int) ∧ True))))))))))
theorem eqr5check (p : Prd) : Vr5check p = walk Try.prog ([(63, r3prodC)]) 0 (r5checkJ) (r5checkA) [] Try.f43 (Try.f43.body.getD .skip) (r5checkC.pat p) (r5checkC.pre p) (r5checkC.alts p) := by kernel_rfl

theorem byr5check (hG : GOk Try.prog ([(63, r3prodC)])) (h : ∀ (p : Prd), r5checkC.cnd p → Vr5check p) : r5checkC.ok Try.prog 43 := ok_of_walk mixed ([(63, r3prodC)]) hG 0 (fun (p : Prd) => r5checkJ) (fun (p : Prd) => r5checkA) [] Try.func43 (by kernel_rfl) (by kernel_rfl) (by kernel_rfl) (fun _ => by kernel_rfl) (fun (p : Prd) hc => Eq.mp (eqr5check p) (h p hc))

def Vr5count (p : Prd) : Prop :=
  ∃ (i : Prd), sb i.code = sb p.code ∧ iE i.months = iE p.months ∧ i.tick = p.tick ∧ i.low = p.low ∧ i.high = p.high ∧ i.wide = p.wide ∧ i.rule = p.rule ∧ i.top = p.top ∧ i.least = p.least ∧ i.part = p.part ∧ iE i.settle = iE p.settle ∧ (i.code.length ≤ (1099511627776 : Nat) ∧ i.months.length ≤ (1099511627776 : Nat) ∧ i.settle.length ≤ (1099511627776 : Nat)) ∧ ∀ (o : Unit), True → cnd (i.check != (0 : Int)) (∃ (o : Unit), (↑p.count : Int) = (0 : Int) ∧ True) (IntKind.i64 = IntKind.i64 ∧ (2 : Int) ≠ (0 : Int) ∧ ∃ (o : Unit), (↑p.count : Int) = IntKind.i64.wrap ((↑(iE p.months).length : Int) + IntKind.i64.wrap ((IntKind.i64.wrap ((↑(iE p.months).length : Int) * IntKind.i64.wrap ((↑(iE p.months).length : Int) - (1 : Int)))).tdiv (2 : Int))) ∧ True)
theorem eqr5count (p : Prd) : Vr5count p = walk Try.prog ([(43, r5checkC)]) 0 ([]) ([]) [] Try.f19 (Try.f19.body.getD .skip) (r5countC.pat p) (r5countC.pre p) (r5countC.alts p) := by kernel_rfl

theorem byr5count (hG : GOk Try.prog ([(43, r5checkC)])) (h : ∀ (p : Prd), r5countC.cnd p → Vr5count p) : r5countC.ok Try.prog 19 := ok_of_walk mixed ([(43, r5checkC)]) hG 0 (fun (p : Prd) => []) (fun (p : Prd) => []) [] Try.func19 (by kernel_rfl) (by kernel_rfl) (by kernel_rfl) (fun _ => by kernel_rfl) (fun (p : Prd) hc => Eq.mp (eqr5count p) (h p hc))

@[reducible] def Vr5legsr0 (i : LegI) : AObj := Sx.AObj.cells [V.d (D.v (Value.string (sb i.p.code))), V.own (0 : Nat), V.d (D.v (.int .i64 i.p.tick)), V.d (D.v (.int .i64 i.p.low)), V.d (D.v (.int .i64 i.p.high)), V.d (D.v (.int .i64 i.p.wide)), V.d (D.v (.int .i64 i.p.rule)), V.d (D.v (.int .i64 i.p.top)), V.d (D.v (.int .i64 i.p.least)), V.d (D.v (.int .i64 i.p.part)), V.own ((0 : Nat) + (1 : Nat))] (25 : Nat)
def Vr5legs (i : LegI) : Prop :=
  ∃ (i_1 : Prd), sb i_1.code = sb i.p.code ∧ iE i_1.months = iE i.p.months ∧ i_1.tick = i.p.tick ∧ i_1.low = i.p.low ∧ i_1.high = i.p.high ∧ i_1.wide = i.p.wide ∧ i_1.rule = i.p.rule ∧ i_1.top = i.p.top ∧ i_1.least = i.p.least ∧ i_1.part = i.p.part ∧ iE i_1.settle = iE i.p.settle ∧ (i_1.code.length ≤ (1099511627776 : Nat) ∧ i_1.months.length ≤ (1099511627776 : Nat) ∧ i_1.settle.length ≤ (1099511627776 : Nat)) ∧ ∀ (o : Unit), True → cnd (i_1.check != (0 : Int)) (∃ (o : Unit), (i.p.legs i.n).fst = (0 : Int) ∧ (i.p.legs i.n).snd.fst = (0 : Int) ∧ (i.p.legs i.n).snd.snd = false ∧ True) (cnd (decide (i.n < (0 : Int))) (∃ (o : Unit), (i.p.legs i.n).fst = (0 : Int) ∧ (i.p.legs i.n).snd.fst = (0 : Int) ∧ (i.p.legs i.n).snd.snd = false ∧ True) (cnd (decide (i.n < (↑(iE i.p.months).length : Int))) (∃ (o : Unit), (i.p.legs i.n).fst = i.n ∧ (i.p.legs i.n).snd.fst = i.n ∧ (i.p.legs i.n).snd.snd = false ∧ True) (∃ (i0 : Nat), (↑(firstOf i.p.months.length i0) : Int) = (↑(iE i.p.months).length : Int) ∧ (↑i0 : Int) = (0 : Int) ∧ ∃ (I : Nat → Prop), ∃ (μ : Nat → Nat), I i0 ∧ ∀ (i_2 : Nat), I i_2 → cnd (decide ((↑i_2 : Int) < (↑(iE i.p.months).length : Int))) (∃ (i0 : Nat × Nat), (↑(firstOf i.p.months.length i0.fst + i0.snd) : Int) = (↑(firstOf i.p.months.length i_2) : Int) ∧ (↑i0.fst : Int) = (↑i_2 : Int) ∧ (↑(i0.fst + (1 : Nat) + i0.snd) : Int) = IntKind.i64.wrap ((↑i_2 : Int) + (1 : Int)) ∧ ∃ (I_1 : Nat × Nat → Prop), ∃ (μ_1 : Nat × Nat → Nat), I_1 i0 ∧ ∀ (i_3 : Nat × Nat), I_1 i_3 → cnd (decide ((↑(i_3.fst + (1 : Nat) + i_3.snd) : Int) < (↑(iE i.p.months).length : Int))) (cnd ((↑(firstOf i.p.months.length i_3.fst + i_3.snd) : Int) == i.n) (∃ (o : Unit), (i.p.legs i.n).fst = (↑i_3.fst : Int) ∧ (i.p.legs i.n).snd.fst = (↑(i_3.fst + (1 : Nat) + i_3.snd) : Int) ∧ (i.p.legs i.n).snd.snd = true ∧ True) (∃ (i' : Nat × Nat), (↑(firstOf i.p.months.length i'.fst + i'.snd) : Int) = IntKind.i64.wrap ((↑(firstOf i.p.months.length i_3.fst + i_3.snd) : Int) + (1 : Int)) ∧ (↑i'.fst : Int) = (↑i_3.fst : Int) ∧ (↑(i'.fst + (1 : Nat) + i'.snd) : Int) = IntKind.i64.wrap ((↑(i_3.fst + (1 : Nat) + i_3.snd) : Int) + (1 : Int)) ∧ I_1 i' ∧ μ_1 i' < μ_1 i_3 ∧ Vr5legsr0 i = Vr5legsr0 i ∧ AObj.fro (1 : Nat) (iE i.p.settle) = AObj.fro (1 : Nat) (iE i.p.settle) ∧ AObj.fro (1 : Nat) (iE i.p.months) = AObj.fro (1 : Nat) (iE i.p.months))) (∃ (i' : Nat), (↑(firstOf i.p.months.length i') : Int) = (↑(firstOf i.p.months.length i_3.fst + i_3.snd) : Int) ∧ (↑i' : Int) = IntKind.i64.wrap ((↑i_3.fst : Int) + (1 : Int)) ∧ I i' ∧ μ i' < μ i_2 ∧ Vr5legsr0 i = Vr5legsr0 i ∧ AObj.fro (1 : Nat) (iE i.p.settle) = AObj.fro (1 : Nat) (iE i.p.settle) ∧ AObj.fro (1 : Nat) (iE i.p.months) = AObj.fro (1 : Nat) (iE i.p.months))) (∃ (o : Unit), (i.p.legs i.n).fst = (0 : Int) ∧ (i.p.legs i.n).snd.fst = (0 : Int) ∧ (i.p.legs i.n).snd.snd = false ∧ True))))
theorem eqr5legs (i : LegI) : Vr5legs i = walk Try.prog ([(43, r5checkC)]) 0 ([]) (r5legsA i) [] Try.f20 (Try.f20.body.getD .skip) (r5legsC.pat i) (r5legsC.pre i) (r5legsC.alts i) := by kernel_rfl

theorem byr5legs (hG : GOk Try.prog ([(43, r5checkC)])) (h : ∀ (i : LegI), r5legsC.cnd i → Vr5legs i) : r5legsC.ok Try.prog 20 := ok_of_walk mixed ([(43, r5checkC)]) hG 0 (fun (i : LegI) => []) (fun (i : LegI) => r5legsA i) [] Try.func20 (by kernel_rfl) (by kernel_rfl) (by kernel_rfl) (fun _ => by kernel_rfl) (fun (i : LegI) hc => Eq.mp (eqr5legs i) (h i hc))

@[reducible] def Vr5pricer0 (i : SprI) : AObj := Sx.AObj.cells [V.d (D.v (Value.string (sb i.p.code))), V.own (0 : Nat), V.d (D.v (.int .i64 i.p.tick)), V.d (D.v (.int .i64 i.p.low)), V.d (D.v (.int .i64 i.p.high)), V.d (D.v (.int .i64 i.p.wide)), V.d (D.v (.int .i64 i.p.rule)), V.d (D.v (.int .i64 i.p.top)), V.d (D.v (.int .i64 i.p.least)), V.d (D.v (.int .i64 i.p.part)), V.own ((0 : Nat) + (1 : Nat))] (25 : Nat)
def Vr5price (i : SprI) : Prop :=
  ∃ (i_1 : Prd), sb i_1.code = sb i.p.code ∧ iE i_1.months = iE i.p.months ∧ i_1.tick = i.p.tick ∧ i_1.low = i.p.low ∧ i_1.high = i.p.high ∧ i_1.wide = i.p.wide ∧ i_1.rule = i.p.rule ∧ i_1.top = i.p.top ∧ i_1.least = i.p.least ∧ i_1.part = i.p.part ∧ iE i_1.settle = iE i.p.settle ∧ (i_1.code.length ≤ (1099511627776 : Nat) ∧ i_1.months.length ≤ (1099511627776 : Nat) ∧ i_1.settle.length ≤ (1099511627776 : Nat)) ∧ ∀ (o : Unit), True → cnd (i_1.check != (0 : Int)) (∃ (o : Unit), i.p.price i.a i.b = (1 : Int) ∧ True) (∃ (i0 : Bool), ∃ (I : Bool → Prop), cnd (decide (i.a < (0 : Int))) (∃ (i' : Bool), i' = true ∧ I i' ∧ Vr5pricer0 i = Vr5pricer0 i ∧ AObj.fro (1 : Nat) (iE i.p.settle) = AObj.fro (1 : Nat) (iE i.p.settle) ∧ AObj.fro (1 : Nat) (iE i.p.months) = AObj.fro (1 : Nat) (iE i.p.months)) (∃ (i_2 : Prd), sb i_2.code = sb i.p.code ∧ iE i_2.months = iE i.p.months ∧ i_2.tick = i.p.tick ∧ i_2.low = i.p.low ∧ i_2.high = i.p.high ∧ i_2.wide = i.p.wide ∧ i_2.rule = i.p.rule ∧ i_2.top = i.p.top ∧ i_2.least = i.p.least ∧ i_2.part = i.p.part ∧ iE i_2.settle = iE i.p.settle ∧ (i_2.code.length ≤ (1099511627776 : Nat) ∧ i_2.months.length ≤ (1099511627776 : Nat) ∧ i_2.settle.length ≤ (1099511627776 : Nat)) ∧ ∀ (o : Unit), True → ∃ (i' : Bool), i' = decide (i.a ≥ (↑i_2.count : Int)) ∧ I i' ∧ Vr5pricer0 i = Vr5pricer0 i ∧ AObj.fro (1 : Nat) (iE i.p.settle) = AObj.fro (1 : Nat) (iE i.p.settle) ∧ AObj.fro (1 : Nat) (iE i.p.months) = AObj.fro (1 : Nat) (iE i.p.months)) ∧ ∀ (i_2 : Bool), I i_2 → cnd i_2 (∃ (o : Unit), i.p.price i.a i.b = (20 : Int) ∧ True) (IntKind.i64 = IntKind.i64 ∧ i.p.tick ≠ (0 : Int) ∧ cnd (i.b.tmod i.p.tick != (0 : Int)) (∃ (o : Unit), i.p.price i.a i.b = (22 : Int) ∧ True) (∃ (i_3 : LegI), sb i_3.p.code = sb i.p.code ∧ iE i_3.p.months = iE i.p.months ∧ i_3.p.tick = i.p.tick ∧ i_3.p.low = i.p.low ∧ i_3.p.high = i.p.high ∧ i_3.p.wide = i.p.wide ∧ i_3.p.rule = i.p.rule ∧ i_3.p.top = i.p.top ∧ i_3.p.least = i.p.least ∧ i_3.p.part = i.p.part ∧ iE i_3.p.settle = iE i.p.settle ∧ i_3.n = i.a ∧ (i_3.p.code.length ≤ (1099511627776 : Nat) ∧ i_3.p.months.length ≤ (1099511627776 : Nat) ∧ i_3.p.settle.length ≤ (1099511627776 : Nat)) ∧ ∀ (o : Unit), True → ∃ (i0 : Bool), ∃ (I : Bool → Prop), cnd (i_3.p.legs i_3.n).snd.snd (cnd (decide (i.b < IntKind.i64.wrap ((0 : Int) - i.p.wide))) (∃ (i' : Bool), i' = true ∧ I i' ∧ Vr5pricer0 i = Vr5pricer0 i ∧ AObj.fro (1 : Nat) (iE i.p.settle) = AObj.fro (1 : Nat) (iE i.p.settle) ∧ AObj.fro (1 : Nat) (iE i.p.months) = AObj.fro (1 : Nat) (iE i.p.months)) (cnd (decide (i.b > i.p.wide)) (∃ (i' : Bool), i' = true ∧ I i' ∧ Vr5pricer0 i = Vr5pricer0 i ∧ AObj.fro (1 : Nat) (iE i.p.settle) = AObj.fro (1 : Nat) (iE i.p.settle) ∧ AObj.fro (1 : Nat) (iE i.p.months) = AObj.fro (1 : Nat) (iE i.p.months)) (cnd (!(i_3.p.legs i_3.n).snd.snd) (cnd (decide (i.b < i.p.low)) (∃ (i' : Bool), i' = true ∧ I i' ∧ Vr5pricer0 i = Vr5pricer0 i ∧ AObj.fro (1 : Nat) (iE i.p.settle) = AObj.fro (1 : Nat) (iE i.p.settle) ∧ AObj.fro (1 : Nat) (iE i.p.months) = AObj.fro (1 : Nat) (iE i.p.months)) (∃ (i' : Bool), i' = decide (i.b > i.p.high) ∧ I i' ∧ Vr5pricer0 i = Vr5pricer0 i ∧ AObj.fro (1 : Nat) (iE i.p.settle) = AObj.fro (1 : Nat) (iE i.p.settle) ∧ AObj.fro (1 : Nat) (iE i.p.months) = AObj.fro (1 : Nat) (iE i.p.months))) (∃ (i' : Bool), i' = false ∧ I i' ∧ Vr5pricer0 i = Vr5pricer0 i ∧ AObj.fro (1 : Nat) (iE i.p.settle) = AObj.fro (1 : Nat) (iE i.p.settle) ∧ AObj.fro (1 : Nat) (iE i.p.months) = AObj.fro (1 : Nat) (iE i.p.months))))) (cnd (!(i_3.p.legs i_3.n).snd.snd) (cnd (decide (i.b < i.p.low)) (∃ (i' : Bool), i' = true ∧ I i' ∧ Vr5pricer0 i = Vr5pricer0 i ∧ AObj.fro (1 : Nat) (iE i.p.settle) = AObj.fro (1 : Nat) (iE i.p.settle) ∧ AObj.fro (1 : Nat) (iE i.p.months) = AObj.fro (1 : Nat) (iE i.p.months)) (∃ (i' : Bool), i' = decide (i.b > i.p.high) ∧ I i' ∧ Vr5pricer0 i = Vr5pricer0 i ∧ AObj.fro (1 : Nat) (iE i.p.settle) = AObj.fro (1 : Nat) (iE i.p.settle) ∧ AObj.fro (1 : Nat) (iE i.p.months) = AObj.fro (1 : Nat) (iE i.p.months))) (∃ (i' : Bool), i' = false ∧ I i' ∧ Vr5pricer0 i = Vr5pricer0 i ∧ AObj.fro (1 : Nat) (iE i.p.settle) = AObj.fro (1 : Nat) (iE i.p.settle) ∧ AObj.fro (1 : Nat) (iE i.p.months) = AObj.fro (1 : Nat) (iE i.p.months))) ∧ ∀ (i_4 : Bool), I i_4 → cnd i_4 (∃ (o : Unit), i.p.price i.a i.b = (23 : Int) ∧ True) (∃ (o : Unit), i.p.price i.a i.b = (0 : Int) ∧ True))))
theorem eqr5price (i : SprI) : Vr5price i = walk Try.prog ([(43, r5checkC), (19, r5countC), (20, r5legsC)]) 0 (r5priceJ) ([]) [] Try.f21 (Try.f21.body.getD .skip) (r5priceC.pat i) (r5priceC.pre i) (r5priceC.alts i) := by kernel_rfl

theorem byr5price (hG : GOk Try.prog ([(43, r5checkC), (19, r5countC), (20, r5legsC)])) (h : ∀ (i : SprI), r5priceC.cnd i → Vr5price i) : r5priceC.ok Try.prog 21 := ok_of_walk mixed ([(43, r5checkC), (19, r5countC), (20, r5legsC)]) hG 0 (fun (i : SprI) => r5priceJ) (fun (i : SprI) => []) [] Try.func21 (by kernel_rfl) (by kernel_rfl) (by kernel_rfl) (fun _ => by kernel_rfl) (fun (i : SprI) hc => Eq.mp (eqr5price i) (h i hc))

@[reducible] def Vkprodr0  : AObj := Sx.AObj.cells (Sx.V.agg [V.d (D.v (Value.string (ByteArray.mk #[]))), V.d (D.v (Value.slice none (0 : Nat) (0 : Nat))), V.d (D.v (.int .i64 0)), V.d (D.v (.int .i64 0)), V.d (D.v (.int .i64 0)), V.d (D.v (.int .i64 0)), V.d (D.v (.int .i64 0)), V.d (D.v (.int .i64 0)), V.d (D.v (.int .i64 0)), V.d (D.v (.int .i64 0)), V.d (D.v (Value.slice none (0 : Nat) (0 : Nat)))]).cl (25 : Nat)
@[reducible] def Vkprodr1 (x : Prd) : AObj := Sx.AObj.cells [V.d (D.v (Value.string (sb x.code))), V.own (0 : Nat), V.d (D.v (.int .i64 x.tick)), V.d (D.v (.int .i64 x.low)), V.d (D.v (.int .i64 x.high)), V.d (D.v (.int .i64 x.wide)), V.d (D.v (.int .i64 x.rule)), V.d (D.v (.int .i64 x.top)), V.d (D.v (.int .i64 x.least)), V.d (D.v (.int .i64 x.part)), V.own ((0 : Nat) + (1 : Nat))] (25 : Nat)
def Vkprod (x : Prd) : Prop :=
  ∃ (i : WiI), i.n = (↑(iE x.months).length : Int) ∧ i.lo = (0 : Int) ∧ i.hi = (3 : Int) ∧ (((-9223372036854775808 : Int) ≤ i.n ∧ i.n ≤ (9223372036854775807 : Int)) ∧ (-1000000 : Int) ≤ i.lo ∧ i.lo ≤ i.hi ∧ i.hi ≤ (1000000 : Int)) ∧ ∀ (o : Unit), True → ∃ (i_1 : WiI), i_1.n = x.tick ∧ i_1.lo = (0 : Int) ∧ i_1.hi = (9 : Int) ∧ (((-9223372036854775808 : Int) ≤ i_1.n ∧ i_1.n ≤ (9223372036854775807 : Int)) ∧ (-1000000 : Int) ≤ i_1.lo ∧ i_1.lo ≤ i_1.hi ∧ i_1.hi ≤ (1000000 : Int)) ∧ ∀ (o : Unit), True → ∃ (i0 : Unit), ∃ (I : Unit → Prop), ((∃ (i : WiI), i.n = x.rule ∧ i.lo = (0 : Int) ∧ i.hi = (2 : Int) ∧ (((-9223372036854775808 : Int) ≤ i.n ∧ i.n ≤ (9223372036854775807 : Int)) ∧ (-1000000 : Int) ≤ i.lo ∧ i.lo ≤ i.hi ∧ i.hi ≤ (1000000 : Int)) ∧ ∀ (o : Unit), True → x.part = x.part ∧ x.least = x.least ∧ x.top = x.top ∧ (∃ (i_2 : WiI), i_2.n = x.top ∧ i_2.lo = (0 : Int) ∧ i_2.hi = (9 : Int) ∧ (((-9223372036854775808 : Int) ≤ i_2.n ∧ i_2.n ≤ (9223372036854775807 : Int)) ∧ (-1000000 : Int) ≤ i_2.lo ∧ i_2.lo ≤ i_2.hi ∧ i_2.hi ≤ (1000000 : Int)) ∧ ∀ (o : Unit), True → x.part = x.part ∧ x.least = x.least ∧ (∃ (i_3 : WiI), i_3.n = x.least ∧ i_3.lo = (0 : Int) ∧ i_3.hi = (4 : Int) ∧ (((-9223372036854775808 : Int) ≤ i_3.n ∧ i_3.n ≤ (9223372036854775807 : Int)) ∧ (-1000000 : Int) ≤ i_3.lo ∧ i_3.lo ≤ i_3.hi ∧ i_3.hi ≤ (1000000 : Int)) ∧ ∀ (o : Unit), True → x.part = x.part ∧ (∃ (i_4 : WiI), i_4.n = x.part ∧ i_4.lo = (0 : Int) ∧ i_4.hi = (100 : Int) ∧ (((-9223372036854775808 : Int) ≤ i_4.n ∧ i_4.n ≤ (9223372036854775807 : Int)) ∧ (-1000000 : Int) ≤ i_4.lo ∧ i_4.lo ≤ i_4.hi ∧ i_4.hi ≤ (1000000 : Int)) ∧ ∀ (o : Unit), True → ∃ (i' : Unit), sb [(206 : UInt8), (169 : UInt8)] = ByteArray.mk #[(206 : UInt8), (169 : UInt8)] ∧ True ∧ kTick x = IntKind.i64.wrap ((1 : Int) + within i_1.n i_1.lo i_1.hi) ∧ (-20 : Int) * kTick x = IntKind.i64.wrap ((-20 : Int) * IntKind.i64.wrap ((1 : Int) + within i_1.n i_1.lo i_1.hi)) ∧ (100 : Int) * kTick x = IntKind.i64.wrap ((100 : Int) * IntKind.i64.wrap ((1 : Int) + within i_1.n i_1.lo i_1.hi)) ∧ (0 : Int) = (0 : Int) ∧ (1 : Int) + within x.rule (0 : Int) (2 : Int) = IntKind.i64.wrap ((1 : Int) + within i.n i.lo i.hi) ∧ within x.top (0 : Int) (9 : Int) = within i_2.n i_2.lo i_2.hi ∧ (1 : Int) + within x.least (0 : Int) (4 : Int) = IntKind.i64.wrap ((1 : Int) + within i_3.n i_3.lo i_3.hi) ∧ within x.part (0 : Int) (100 : Int) = within i_4.n i_4.lo i_4.hi ∧ True ∧ I i' ∧ Vkprodr0 = Vkprodr0 ∧ Vkprodr1 x = Vkprodr1 x ∧ AObj.fro (1 : Nat) (iE x.settle) = AObj.fro (1 : Nat) (iE x.settle) ∧ AObj.fro (1 : Nat) (iE x.months) = AObj.fro (1 : Nat) (iE x.months)) ∧ x.part = x.part ∧ ∃ (i_4 : WiI), i_4.n = x.part ∧ i_4.lo = (0 : Int) ∧ i_4.hi = (100 : Int) ∧ (((-9223372036854775808 : Int) ≤ i_4.n ∧ i_4.n ≤ (9223372036854775807 : Int)) ∧ (-1000000 : Int) ≤ i_4.lo ∧ i_4.lo ≤ i_4.hi ∧ i_4.hi ≤ (1000000 : Int)) ∧ ∀ (o : Unit), True → ∃ (i' : Unit), sb [(206 : UInt8), (169 : UInt8)] = ByteArray.mk #[(206 : UInt8), (169 : UInt8)] ∧ True ∧ kTick x = IntKind.i64.wrap ((1 : Int) + within i_1.n i_1.lo i_1.hi) ∧ (-20 : Int) * kTick x = IntKind.i64.wrap ((-20 : Int) * IntKind.i64.wrap ((1 : Int) + within i_1.n i_1.lo i_1.hi)) ∧ (100 : Int) * kTick x = IntKind.i64.wrap ((100 : Int) * IntKind.i64.wrap ((1 : Int) + within i_1.n i_1.lo i_1.hi)) ∧ (0 : Int) = (0 : Int) ∧ (1 : Int) + within x.rule (0 : Int) (2 : Int) = IntKind.i64.wrap ((1 : Int) + within i.n i.lo i.hi) ∧ within x.top (0 : Int) (9 : Int) = within i_2.n i_2.lo i_2.hi ∧ (1 : Int) + within x.least (0 : Int) (4 : Int) = IntKind.i64.wrap ((1 : Int) + within i_3.n i_3.lo i_3.hi) ∧ within x.part (0 : Int) (100 : Int) = within i_4.n i_4.lo i_4.hi ∧ True ∧ I i' ∧ Vkprodr0 = Vkprodr0 ∧ Vkprodr1 x = Vkprodr1 x ∧ AObj.fro (1 : Nat) (iE x.settle) = AObj.fro (1 : Nat) (iE x.settle) ∧ AObj.fro (1 : Nat) (iE x.months) = AObj.fro (1 : Nat) (iE x.months)) ∧ x.part = x.part ∧ x.least = x.least ∧ ∃ (i_3 : WiI), i_3.n = x.least ∧ i_3.lo = (0 : Int) ∧ i_3.hi = (4 : Int) ∧ (((-9223372036854775808 : Int) ≤ i_3.n ∧ i_3.n ≤ (9223372036854775807 : Int)) ∧ (-1000000 : Int) ≤ i_3.lo ∧ i_3.lo ≤ i_3.hi ∧ i_3.hi ≤ (1000000 : Int)) ∧ ∀ (o : Unit), True → x.part = x.part ∧ ∃ (i_4 : WiI), i_4.n = x.part ∧ i_4.lo = (0 : Int) ∧ i_4.hi = (100 : Int) ∧ (((-9223372036854775808 : Int) ≤ i_4.n ∧ i_4.n ≤ (9223372036854775807 : Int)) ∧ (-1000000 : Int) ≤ i_4.lo ∧ i_4.lo ≤ i_4.hi ∧ i_4.hi ≤ (1000000 : Int)) ∧ ∀ (o : Unit), True → ∃ (i' : Unit), sb [(206 : UInt8), (169 : UInt8)] = ByteArray.mk #[(206 : UInt8), (169 : UInt8)] ∧ True ∧ kTick x = IntKind.i64.wrap ((1 : Int) + within i_1.n i_1.lo i_1.hi) ∧ (-20 : Int) * kTick x = IntKind.i64.wrap ((-20 : Int) * IntKind.i64.wrap ((1 : Int) + within i_1.n i_1.lo i_1.hi)) ∧ (100 : Int) * kTick x = IntKind.i64.wrap ((100 : Int) * IntKind.i64.wrap ((1 : Int) + within i_1.n i_1.lo i_1.hi)) ∧ (0 : Int) = (0 : Int) ∧ (1 : Int) + within x.rule (0 : Int) (2 : Int) = IntKind.i64.wrap ((1 : Int) + within i.n i.lo i.hi) ∧ within x.top (0 : Int) (9 : Int) = within i_2.n i_2.lo i_2.hi ∧ (1 : Int) + within x.least (0 : Int) (4 : Int) = IntKind.i64.wrap ((1 : Int) + within i_3.n i_3.lo i_3.hi) ∧ within x.part (0 : Int) (100 : Int) = within i_4.n i_4.lo i_4.hi ∧ True ∧ I i' ∧ Vkprodr0 = Vkprodr0 ∧ Vkprodr1 x = Vkprodr1 x ∧ AObj.fro (1 : Nat) (iE x.settle) = AObj.fro (1 : Nat) (iE x.settle) ∧ AObj.fro (1 : Nat) (iE x.months) = AObj.fro (1 : Nat) (iE x.months)) ∧ x.part = x.part ∧ x.least = x.least ∧ x.top = x.top ∧ ∃ (i_2 : WiI), i_2.n = x.top ∧ i_2.lo = (0 : Int) ∧ i_2.hi = (9 : Int) ∧ (((-9223372036854775808 : Int) ≤ i_2.n ∧ i_2.n ≤ (9223372036854775807 : Int)) ∧ (-1000000 : Int) ≤ i_2.lo ∧ i_2.lo ≤ i_2.hi ∧ i_2.hi ≤ (1000000 : Int)) ∧ ∀ (o : Unit), True → x.part = x.part ∧ x.least = x.least ∧ ∃ (i_3 : WiI), i_3.n = x.least ∧ i_3.lo = (0 : Int) ∧ i_3.hi = (4 : Int) ∧ (((-9223372036854775808 : Int) ≤ i_3.n ∧ i_3.n ≤ (9223372036854775807 : Int)) ∧ (-1000000 : Int) ≤ i_3.lo ∧ i_3.lo ≤ i_3.hi ∧ i_3.hi ≤ (1000000 : Int)) ∧ ∀ (o : Unit), True → x.part = x.part ∧ ∃ (i_4 : WiI), i_4.n = x.part ∧ i_4.lo = (0 : Int) ∧ i_4.hi = (100 : Int) ∧ (((-9223372036854775808 : Int) ≤ i_4.n ∧ i_4.n ≤ (9223372036854775807 : Int)) ∧ (-1000000 : Int) ≤ i_4.lo ∧ i_4.lo ≤ i_4.hi ∧ i_4.hi ≤ (1000000 : Int)) ∧ ∀ (o : Unit), True → ∃ (i' : Unit), sb [(206 : UInt8), (169 : UInt8)] = ByteArray.mk #[(206 : UInt8), (169 : UInt8)] ∧ True ∧ kTick x = IntKind.i64.wrap ((1 : Int) + within i_1.n i_1.lo i_1.hi) ∧ (-20 : Int) * kTick x = IntKind.i64.wrap ((-20 : Int) * IntKind.i64.wrap ((1 : Int) + within i_1.n i_1.lo i_1.hi)) ∧ (100 : Int) * kTick x = IntKind.i64.wrap ((100 : Int) * IntKind.i64.wrap ((1 : Int) + within i_1.n i_1.lo i_1.hi)) ∧ (0 : Int) = (0 : Int) ∧ (1 : Int) + within x.rule (0 : Int) (2 : Int) = IntKind.i64.wrap ((1 : Int) + within i.n i.lo i.hi) ∧ within x.top (0 : Int) (9 : Int) = within i_2.n i_2.lo i_2.hi ∧ (1 : Int) + within x.least (0 : Int) (4 : Int) = IntKind.i64.wrap ((1 : Int) + within i_3.n i_3.lo i_3.hi) ∧ within x.part (0 : Int) (100 : Int) = within i_4.n i_4.lo i_4.hi ∧ True ∧ I i' ∧ Vkprodr0 = Vkprodr0 ∧ Vkprodr1 x = Vkprodr1 x ∧ AObj.fro (1 : Nat) (iE x.settle) = AObj.fro (1 : Nat) (iE x.settle) ∧ AObj.fro (1 : Nat) (iE x.months) = AObj.fro (1 : Nat) (iE x.months)) ∧ x.part = x.part ∧ x.least = x.least ∧ x.top = x.top ∧ x.rule = x.rule ∧ ∃ (i : WiI), i.n = x.rule ∧ i.lo = (0 : Int) ∧ i.hi = (2 : Int) ∧ (((-9223372036854775808 : Int) ≤ i.n ∧ i.n ≤ (9223372036854775807 : Int)) ∧ (-1000000 : Int) ≤ i.lo ∧ i.lo ≤ i.hi ∧ i.hi ≤ (1000000 : Int)) ∧ ∀ (o : Unit), True → x.part = x.part ∧ x.least = x.least ∧ x.top = x.top ∧ ∃ (i_2 : WiI), i_2.n = x.top ∧ i_2.lo = (0 : Int) ∧ i_2.hi = (9 : Int) ∧ (((-9223372036854775808 : Int) ≤ i_2.n ∧ i_2.n ≤ (9223372036854775807 : Int)) ∧ (-1000000 : Int) ≤ i_2.lo ∧ i_2.lo ≤ i_2.hi ∧ i_2.hi ≤ (1000000 : Int)) ∧ ∀ (o : Unit), True → x.part = x.part ∧ x.least = x.least ∧ ∃ (i_3 : WiI), i_3.n = x.least ∧ i_3.lo = (0 : Int) ∧ i_3.hi = (4 : Int) ∧ (((-9223372036854775808 : Int) ≤ i_3.n ∧ i_3.n ≤ (9223372036854775807 : Int)) ∧ (-1000000 : Int) ≤ i_3.lo ∧ i_3.lo ≤ i_3.hi ∧ i_3.hi ≤ (1000000 : Int)) ∧ ∀ (o : Unit), True → x.part = x.part ∧ ∃ (i_4 : WiI), i_4.n = x.part ∧ i_4.lo = (0 : Int) ∧ i_4.hi = (100 : Int) ∧ (((-9223372036854775808 : Int) ≤ i_4.n ∧ i_4.n ≤ (9223372036854775807 : Int)) ∧ (-1000000 : Int) ≤ i_4.lo ∧ i_4.lo ≤ i_4.hi ∧ i_4.hi ≤ (1000000 : Int)) ∧ ∀ (o : Unit), True → ∃ (i' : Unit), sb [(206 : UInt8), (169 : UInt8)] = ByteArray.mk #[(206 : UInt8), (169 : UInt8)] ∧ True ∧ kTick x = IntKind.i64.wrap ((1 : Int) + within i_1.n i_1.lo i_1.hi) ∧ (-20 : Int) * kTick x = IntKind.i64.wrap ((-20 : Int) * IntKind.i64.wrap ((1 : Int) + within i_1.n i_1.lo i_1.hi)) ∧ (100 : Int) * kTick x = IntKind.i64.wrap ((100 : Int) * IntKind.i64.wrap ((1 : Int) + within i_1.n i_1.lo i_1.hi)) ∧ (0 : Int) = (0 : Int) ∧ (1 : Int) + within x.rule (0 : Int) (2 : Int) = IntKind.i64.wrap ((1 : Int) + within i.n i.lo i.hi) ∧ within x.top (0 : Int) (9 : Int) = within i_2.n i_2.lo i_2.hi ∧ (1 : Int) + within x.least (0 : Int) (4 : Int) = IntKind.i64.wrap ((1 : Int) + within i_3.n i_3.lo i_3.hi) ∧ within x.part (0 : Int) (100 : Int) = within i_4.n i_4.lo i_4.hi ∧ True ∧ I i' ∧ Vkprodr0 = Vkprodr0 ∧ Vkprodr1 x = Vkprodr1 x ∧ AObj.fro (1 : Nat) (iE x.settle) = AObj.fro (1 : Nat) (iE x.settle) ∧ AObj.fro (1 : Nat) (iE x.months) = AObj.fro (1 : Nat) (iE x.months)) ∧ ∀ (i_2 : Unit), I i_2 → ∃ (i_3 : WiI), i_3.n = x.wide ∧ i_3.lo = (0 : Int) ∧ i_3.hi = (60 : Int) ∧ (((-9223372036854775808 : Int) ≤ i_3.n ∧ i_3.n ≤ (9223372036854775807 : Int)) ∧ (-1000000 : Int) ≤ i_3.lo ∧ i_3.lo ≤ i_3.hi ∧ i_3.hi ≤ (1000000 : Int)) ∧ ∀ (o : Unit), True → ∃ (i0 : Nat), (↑i0 : Int) = (0 : Int) ∧ sb [(206 : UInt8), (169 : UInt8)] = sb [(206 : UInt8), (169 : UInt8)] ∧ kTick x = kTick x ∧ (-20 : Int) * kTick x = (-20 : Int) * kTick x ∧ (100 : Int) * kTick x = (100 : Int) * kTick x ∧ kTick x * ((5 : Int) + within x.wide (0 : Int) (60 : Int)) = IntKind.i64.wrap (IntKind.i64.wrap ((1 : Int) + within i_1.n i_1.lo i_1.hi) * IntKind.i64.wrap ((5 : Int) + within i_3.n i_3.lo i_3.hi)) ∧ (1 : Int) + within x.rule (0 : Int) (2 : Int) = (1 : Int) + within x.rule (0 : Int) (2 : Int) ∧ within x.top (0 : Int) (9 : Int) = within x.top (0 : Int) (9 : Int) ∧ (1 : Int) + within x.least (0 : Int) (4 : Int) = (1 : Int) + within x.least (0 : Int) (4 : Int) ∧ within x.part (0 : Int) (100 : Int) = within x.part (0 : Int) (100 : Int) ∧ iE (kMonths i0) = [] ∧ iE (kSettle (kTick x) i0) = [] ∧ ∃ (I : Nat → Prop), ∃ (μ : Nat → Nat), I i0 ∧ ∀ (i_4 : Nat), I i_4 → cnd (decide ((↑i_4 : Int) < IntKind.i64.wrap ((2 : Int) + within i.n i.lo i.hi))) (((iE (kMonths i_4)).length + (1 : Nat)) * (8 : Nat) ≤ (70368744177664 : Nat) ∧ ((iE (kSettle (kTick x) i_4)).length + (1 : Nat)) * (8 : Nat) ≤ (70368744177664 : Nat) ∧ ∃ (i' : Nat), (↑i' : Int) = IntKind.i64.wrap ((↑i_4 : Int) + (1 : Int)) ∧ sb [(206 : UInt8), (169 : UInt8)] = sb [(206 : UInt8), (169 : UInt8)] ∧ kTick x = kTick x ∧ (-20 : Int) * kTick x = (-20 : Int) * kTick x ∧ (100 : Int) * kTick x = (100 : Int) * kTick x ∧ kTick x * ((5 : Int) + within x.wide (0 : Int) (60 : Int)) = kTick x * ((5 : Int) + within x.wide (0 : Int) (60 : Int)) ∧ (1 : Int) + within x.rule (0 : Int) (2 : Int) = (1 : Int) + within x.rule (0 : Int) (2 : Int) ∧ within x.top (0 : Int) (9 : Int) = within x.top (0 : Int) (9 : Int) ∧ (1 : Int) + within x.least (0 : Int) (4 : Int) = (1 : Int) + within x.least (0 : Int) (4 : Int) ∧ within x.part (0 : Int) (100 : Int) = within x.part (0 : Int) (100 : Int) ∧ iE (kMonths i') = iE (kMonths i_4) ++ [[D.v (.int .i64 (IntKind.i64.wrap (IntKind.i64.wrap ((10 : Int) * (↑i_4 : Int)) + (3 : Int))))]] ∧ iE (kSettle (kTick x) i') = iE (kSettle (kTick x) i_4) ++ [[D.v (.int .i64 (IntKind.i64.wrap (IntKind.i64.wrap ((1 : Int) + within i_1.n i_1.lo i_1.hi) * IntKind.i64.wrap ((10 : Int) + (↑i_4 : Int)))))]] ∧ I i' ∧ μ i' < μ i_4 ∧ Vkprodr0 = Vkprodr0 ∧ Vkprodr1 x = Vkprodr1 x ∧ AObj.fro (1 : Nat) (iE x.settle) = AObj.fro (1 : Nat) (iE x.settle) ∧ AObj.fro (1 : Nat) (iE x.months) = AObj.fro (1 : Nat) (iE x.months)) (∃ (o : Unit), sb [(206 : UInt8), (169 : UInt8)] = sb [(206 : UInt8), (169 : UInt8)] ∧ iE (kMonths (kN x).toNat) = iE (kMonths i_4) ∧ kTick x = kTick x ∧ (-20 : Int) * kTick x = (-20 : Int) * kTick x ∧ (100 : Int) * kTick x = (100 : Int) * kTick x ∧ kTick x * ((5 : Int) + within x.wide (0 : Int) (60 : Int)) = kTick x * ((5 : Int) + within x.wide (0 : Int) (60 : Int)) ∧ (1 : Int) + within x.rule (0 : Int) (2 : Int) = (1 : Int) + within x.rule (0 : Int) (2 : Int) ∧ within x.top (0 : Int) (9 : Int) = within x.top (0 : Int) (9 : Int) ∧ (1 : Int) + within x.least (0 : Int) (4 : Int) = (1 : Int) + within x.least (0 : Int) (4 : Int) ∧ within x.part (0 : Int) (100 : Int) = within x.part (0 : Int) (100 : Int) ∧ iE (kSettle (kTick x) (kN x).toNat) = iE (kSettle (kTick x) i_4) ∧ True)
theorem eqkprod (x : Prd) : Vkprod x = walk Try.prog ([(8, withinC)]) 0 (kprodJ x) (kprodA x) [] Try.f14 (Try.f14.body.getD .skip) (kprodC.pat x) (kprodC.pre x) (kprodC.alts x) := by kernel_rfl

theorem bykprod (hG : GOk Try.prog ([(8, withinC)])) (h : ∀ (x : Prd), kprodC.cnd x → Vkprod x) : kprodC.ok Try.prog 14 := ok_of_walk mixed ([(8, withinC)]) hG 0 (fun (x : Prd) => kprodJ x) (fun (x : Prd) => kprodA x) [] Try.func14 (by kernel_rfl) (by kernel_rfl) (by kernel_rfl) (fun _ => by kernel_rfl) (fun (x : Prd) hc => Eq.mp (eqkprod x) (h x hc))

end Sx

