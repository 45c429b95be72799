/- Texts of ours, one behind the other: a walk that the kernel reckons, and contracts of functions. No condition. -/
import Derived.Test.YthlgpiinapiiaaaDoorM6

namespace Sx
set_option linter.unusedVariables false
set_option linter.unusedSimpArgs false
set_option maxRecDepth 100000
open Go Cv Go.Proofs

abbrev Wd := Nat × List (List UInt8)
def nextW (n : Nat) (c : List UInt8) : Option Wd → Wd
  | none => (n, [c])
  | some (m, u) => (m, u ++ [c])
/-- Words: at which piece each begins; its pieces. -/
def spl : Nat → Option Wd → List (List UInt8) → List Wd
  | n, cur, [] => cur.toList
  | n, cur, c :: cs => if c = [32] then cur.toList ++ spl (n + 1) none cs else spl (n + 1) (some (nextW n c cur)) cs

def curOk (s : List UInt8) (p : Nat) (x : WSt) (done : List Wd) : Option Wd → Prop
  | none => x.from_ < 0 ∧ x.at_ = done.map fun w => (w.1 : Int)
  | some (m, u) => ∃ f : Nat, x.from_ = f ∧ f ≤ p ∧ u.flatten = (s.take p).drop f ∧ x.at_ = done.map (fun w => (w.1 : Int)) ++ [(m : Int)]
def endW (s : List UInt8) (x : WSt) : List (List UInt8) := if 0 ≤ x.from_ then x.words ++ [s.drop x.from_.toNat] else x.words
theorem take_more {s : List UInt8} {f p d : Nat} (h : f ≤ p) (hp : p ≤ s.length) : (s.take (p + d)).drop f = (s.take p).drop f ++ (s.drop p).take d := by
  have : s.take (p + d) = s.take p ++ (s.drop p).take d := by rw [← List.take_append_drop p s, List.take_append, List.take_append, List.drop_append]; simp [Nat.min_eq_left hp]; try omega
  rw [this, List.drop_append_of_le_length (by rw [List.length_take]; omega)]
theorem fold_spl (s : List UInt8) : ∀ (k p : Nat) (x : WSt) (done : List Wd) (cur : Option Wd), s.length - p ≤ k → p ≤ s.length → x.words = done.map (fun w => w.2.flatten) → curOk s p x done cur →
    endW s ((runesP s p).foldl (WSt.step s) x) = (done ++ spl x.n cur (chunks (s.drop p))).map (fun w => w.2.flatten) ∧ ((runesP s p).foldl (WSt.step s) x).at_ = (done ++ spl x.n cur (chunks (s.drop p))).map fun w => (w.1 : Int)
  | k, p, x, done, cur, hk, hp, hw, hc => by
    rcases Nat.lt_or_ge p s.length with hlt | hge
    · obtain ⟨k', rfl⟩ : ∃ k', k = k' + 1 := ⟨k - 1, by omega⟩
      have hne : s.drop p ≠ [] := by intro e; rw [List.drop_eq_nil_iff] at e; omega
      have hwd := dec1_w hne
      rw [List.length_drop] at hwd
      obtain ⟨q1, q2, q3⟩ := dec_32 hne
      rw [runesP_step hlt, List.foldl_cons, decode_drop, chunks_cons hne]
      have hcm := chunk_mem _ (s.drop p) (Nat.le_refl _) ((s.drop p).take (dec1 (s.drop p)).2) (by rw [chunks_cons hne]; exact List.mem_cons_self)
      have h32 : (dec1 (s.drop p)).1 = 32 ↔ (s.drop p).take (dec1 (s.drop p)).2 = [32] := by
        rw [q1]
        obtain ⟨b, l, hb⟩ : ∃ b l, s.drop p = b :: l := by
          cases hd : s.drop p with
          | nil => exact absurd hd hne
          | cons b l => exact ⟨b, l, rfl⟩
        rw [hb] at hwd q2 ⊢
        have e0 : gB (b :: l) 0 = b.toNat := rfl
        rw [e0] at q2 ⊢
        constructor
        · intro h
          have := (q2 (by omega)).1
          rw [this]
          have : b = 32 := UInt8.toNat.inj h
          subst this; rfl
        · intro h
          obtain ⟨d, hd⟩ : ∃ d, (dec1 (b :: l)).2 = d + 1 := ⟨(dec1 (b :: l)).2 - 1, by omega⟩
          rw [hd, List.take_succ_cons, List.cons.injEq] at h
          rw [h.1]; rfl
      rw [List.drop_drop]
      generalize hd : (dec1 (s.drop p)).2 = d at hwd h32 ⊢
      generalize (dec1 (s.drop p)).1 = r at h32 ⊢
      have tm : ∀ f, f ≤ p → (s.take (p + d)).drop f = (s.take p).drop f ++ (s.drop p).take d := fun f hf => take_more hf hp
      generalize hcc : (s.drop p).take d = c at h32 tm ⊢
      have ih := fold_spl s k' (p + d)
      by_cases hr : r = 32
      · have hc32 := h32.1 hr
        cases cur with
        | none =>
          obtain ⟨g1, g2⟩ := hc
          have e : WSt.step s x (p, r) = ⟨x.words, x.at_, x.from_, x.n + 1⟩ := by
            simp only [WSt.step]; rw [if_pos hr, if_neg (by omega)]
          rw [e]
          have := ih ⟨x.words, x.at_, x.from_, x.n + 1⟩ done none (by omega) (by omega) hw ⟨g1, g2⟩
          rw [spl, if_pos hc32]
          simpa using this
        | some w =>
          obtain ⟨m, u⟩ := w
          obtain ⟨f, g1, g2, g3, g4⟩ := hc
          have e : WSt.step s x (p, r) = ⟨x.words ++ [(s.take p).drop x.from_.toNat], x.at_, -1, x.n + 1⟩ := by
            simp only [WSt.step]; rw [if_pos hr, if_pos (by omega)]
          rw [e]
          have hf : x.from_.toNat = f := by omega
          have := ih ⟨x.words ++ [(s.take p).drop x.from_.toNat], x.at_, -1, x.n + 1⟩ (done ++ [(m, u)]) none (by omega) (by omega) (by simp [hw, g3, hf]) ⟨by dsimp only; omega, by simp [g4]⟩
          rw [spl, if_pos hc32]
          simpa using this
      · have hc32 : ¬ c = [32] := fun e => hr (h32.2 e)
        cases cur with
        | none =>
          obtain ⟨g1, g2⟩ := hc
          have e : WSt.step s x (p, r) = ⟨x.words, x.at_ ++ [(x.n : Int)], p, x.n + 1⟩ := by
            simp only [WSt.step]; rw [if_neg hr, if_pos g1]
          rw [e]
          have := ih ⟨x.words, x.at_ ++ [(x.n : Int)], p, x.n + 1⟩ done (some (x.n, [c])) (by omega) (by omega) hw ⟨p, rfl, by omega, by rw [tm p (Nat.le_refl _)]; simp, by rw [g2]⟩
          rw [spl, if_neg hc32]
          exact this
        | some w =>
          obtain ⟨m, u⟩ := w
          obtain ⟨f, g1, g2, g3, g4⟩ := hc
          have e : WSt.step s x (p, r) = ⟨x.words, x.at_, x.from_, x.n + 1⟩ := by
            simp only [WSt.step]; rw [if_neg hr, if_neg (by omega)]
          rw [e]
          have := ih ⟨x.words, x.at_, x.from_, x.n + 1⟩ done (some (m, u ++ [c])) (by omega) (by omega) hw ⟨f, g1, by omega, by rw [tm f g2]; simp [g3], g4⟩
          rw [spl, if_neg hc32]
          exact this
    · have hp' : s.drop p = [] := List.drop_eq_nil_of_le hge
      rw [runesP_end hge, hp', chunks_nil]
      simp only [List.foldl_nil, spl]
      cases cur with
      | none =>
        obtain ⟨g1, g2⟩ := hc
        rw [endW, if_neg (by omega)]
        simp [hw, g2]
      | some w =>
        obtain ⟨m, u⟩ := w
        obtain ⟨f, g1, g2, g3, g4⟩ := hc
        rw [endW, if_pos (by omega), show x.from_.toNat = f by omega]
        have : (s.take p).drop f = s.drop f := by rw [List.take_of_length_le hge]
        simp [hw, g3, g4, this]

structure WdOk (s : List UInt8) (w : Wd) : Prop where
  ne : w.2.flatten ≠ []
  no : (32 : UInt8) ∉ w.2.flatten
  cnt : (runes w.2.flatten).length = w.2.length
end Sx

namespace Sx
set_option linter.unusedVariables false
set_option linter.unusedSimpArgs false
set_option maxRecDepth 100000
open Go Cv Go.Proofs

theorem head_len {s : List UInt8} {n : Int} (h : 0 ≤ n) : ((headF s n).length : Int) ≤ n := by
  unfold headF
  split
  · rw [List.length_take]; omega
  · omega
theorem sb_getE {l : List UInt8} {q : Nat} {b : UInt8} (h : l[q]? = some b) : (sb l)[q]? = some b := by
  obtain ⟨h1, h2⟩ := List.getElem?_eq_some_iff.1 h
  rw [getElem?_pos (sb l) q (by simpa using h1)]
  rw [← h2]; rfl

end Sx

namespace Sx
set_option linter.unusedVariables false
set_option linter.unusedSimpArgs false
set_option maxRecDepth 100000
open Go Cv Go.Proofs

theorem enc_dig : ∀ k < 10, Utf8.encode ((48 + k : Nat) : Int) = sb [UInt8.ofNat (48 + k)] := by decide
theorem wu64m (x : Int) : IntKind.u64.wrap x = x % 18446744073709551616 := rfl
theorem wi32 {k : Nat} (h : k < 100) : IntKind.i32.wrap (k : Int) = k := by
  have : ∀ k < 100, IntKind.i32.wrap ((k : Nat) : Int) = k := by decide
  exact this k h
theorem digN_stop (k : Nat) {acc : List UInt8} (h : acc ≠ []) : digN k 0 acc = acc := by
  cases k with
  | zero => rfl
  | succ k => rw [digN, if_pos ⟨rfl, h⟩]
theorem enc_step (u : Nat) : Utf8.encode (IntKind.i32.wrap (IntKind.u64.wrap (48 + (u : Int).tmod 10))) = sb [UInt8.ofNat (48 + u % 10)] := by
  have e : (48 : Int) + (u : Int).tmod 10 = ((48 + u % 10 : Nat) : Int) := by
    rw [Int.tmod_eq_emod_of_nonneg (by omega)]; omega
  rw [e, wu64 (by omega), wi32 (by omega), enc_dig _ (by omega)]

structure DInv (v : Nat) (x : Nat × List UInt8) : Prop where
  lt : x.1 < 18446744073709551616
  run : ∃ k, digN k x.1 x.2 = digU v ∧ k + x.2.length = 25 ∧ x.1 < 10 ^ k
def dmu (x : Nat × List UInt8) : Nat := 2 * x.1 + (match x.2 with | [] => 1 | _ :: _ => 0)
theorem dinv_step {v : Nat} {x : Nat × List UInt8} (h : DInv v x) (hc : ¬ (x.1 = 0 ∧ x.2 ≠ [])) : DInv v (x.1 / 10, UInt8.ofNat (48 + x.1 % 10) :: x.2) ∧ dmu (x.1 / 10, UInt8.ofNat (48 + x.1 % 10) :: x.2) < dmu x ∧ x.2.length < 25 := by
  obtain ⟨h1, k, h2, h3, h4⟩ := h
  obtain ⟨u, acc⟩ := x
  dsimp only at *
  obtain ⟨k', rfl⟩ : ∃ k', k = k' + 1 := by
    cases k with
    | zero =>
      have hu : u = 0 := by simpa using h4
      have ha : acc = [] := Classical.byContradiction fun e => hc ⟨hu, e⟩
      rw [ha] at h3; simp at h3
    | succ k' => exact ⟨k', rfl⟩
  rw [digN, if_neg hc] at h2
  rw [Nat.pow_succ] at h4
  refine ⟨⟨by dsimp only; omega, k', h2, by simp only [List.length_cons]; omega, by dsimp only; omega⟩, ?_, by omega⟩
  unfold dmu
  dsimp only
  cases acc with
  | nil => dsimp only; omega
  | cons a l =>
    dsimp only
    have : u ≠ 0 := fun e => hc ⟨e, by simp⟩
    omega
theorem dinv_end {v : Nat} {x : Nat × List UInt8} (h : DInv v x) (h0 : x.1 = 0) (ha : x.2 ≠ []) : x.2 = digU v ∧ x.2.length ≤ 25 := by
  obtain ⟨h1, k, h2, h3, h4⟩ := h
  rw [h0, digN_stop k ha] at h2
  exact ⟨h2, by omega⟩

theorem vdig (n : Int) (h : digC.cnd n) : Vdig n := by
  obtain ⟨h1, h2⟩ : i64r n := h
  unfold Vdig
  simp only [cEMPTY, eqB]
  refine ⟨0, fun u => ∃ v : Nat, u = v ∧ v < 18446744073709551616 ∧ digF n = if n < 0 then 45 :: digU v else digU v, cndD (fun c => ⟨_, rfl, ⟨(-n).toNat, ?_, by omega, ?_⟩, trivial⟩) (fun c => ⟨_, rfl, ⟨n.toNat, ?_, by omega, ?_⟩, trivial⟩), ?_⟩
  · rw [wu64m, wu64m]; omega
  · rw [digF, if_pos c, if_pos c]
  · rw [wu64m]; omega
  · rw [digF, if_neg c, if_neg c]
  rintro _ ⟨v, rfl, hv, hd⟩
  refine ⟨(v, []), rfl, rfl, fun x => DInv v x, dmu, ⟨hv, 25, rfl, rfl, Nat.lt_of_lt_of_le hv (by decide)⟩, ?_⟩
  rintro ⟨u, acc⟩ hI
  dsimp only
  rw [enc_step]
  have stp (hc : ¬ (u = 0 ∧ acc ≠ [])) : ((sb [UInt8.ofNat (48 + u % 10)]).size + (sb acc).size : Int) ≤ IntKind.i64.max ∧ ∃ (i' : Nat × List UInt8), (i'.1 : Int) = IntKind.u64.wrap ((u : Int).tdiv 10) ∧ sb i'.2 = sb [UInt8.ofNat (48 + u % 10)] ++ sb acc ∧ DInv v i' ∧ dmu i' < dmu (u, acc) ∧ True := by
    obtain ⟨q1, q2, q3⟩ := dinv_step hI hc
    dsimp only at q3
    have hlt := hI.lt
    dsimp only at hlt
    refine ⟨?_, (u / 10, UInt8.ofNat (48 + u % 10) :: acc), ?_, ?_, q1, q2, trivial⟩
    · rw [sb_size, sb_size, i64max, List.length_singleton]; omega
    · rw [Int.tdiv_eq_ediv_of_nonneg (by omega), wu64 (by omega)]; rfl
    · rw [← sb_app]; rfl
  refine cndD (fun c => ?_) (fun c => cndD (fun d => ?_) (fun d => ?_))
  · obtain ⟨s1, s2⟩ := stp (fun e => by omega)
    exact ⟨by (first | exact rfl | exact trivial), by decide, by simpa using s1, by (first | exact rfl | exact trivial), by decide, s2⟩
  · obtain ⟨s1, s2⟩ := stp (fun e => e.2 d)
    exact ⟨by (first | exact rfl | exact trivial), by decide, by simpa using s1, by (first | exact rfl | exact trivial), by decide, s2⟩
  · have hu : u = 0 := by omega
    obtain ⟨e1, e2⟩ := dinv_end hI hu d
    dsimp only at e1 e2
    refine cndD (fun c2 => ⟨?_, (), ?_, trivial⟩) (fun c2 => ⟨(), ?_, trivial⟩)
    · rw [sb_size, i64max]
      show ((1 + acc.length : Nat) : Int) ≤ _
      omega
    · rw [hd, if_pos c2, ← e1, show ByteArray.mk #[45] = sb [45] from rfl, ← sb_app]; rfl
    · rw [hd, if_neg c2, ← e1]
theorem dig_ok : digC.ok Tryd.prog 22 := bydig gok0 vdig
theorem rdig_ok : digC.ok Tryd.prog 13 := byrdig (gokc dig_ok gok0) fun n h => ⟨n, rfl, h, fun _ _ => ⟨(), rfl, trivial⟩⟩

/-! ### ConsoleDigits -/
def gp (s : List UInt8) : Bool := match s with
  | [] => true
  | b :: l => (digB b || decide (b = 45)) && l.all digB
theorem goodB_gp (s : List UInt8) : goodB s = (decide (s ≠ []) && gp s) := rfl
theorem gp_snoc (l : List UInt8) (b : UInt8) : gp (l ++ [b]) = (gp l && (digB b || (decide (l = []) && decide (b = 45)))) := by
  cases l with
  | nil => simp [gp]
  | cons a l => simp [gp, Bool.and_assoc]
theorem cnt_snoc (l : List UInt8) (b : UInt8) : cntB (l ++ [b]) = cntB l + (if digB b = true then 1 else 0) := by
  unfold cntB
  rw [List.filter_append, List.length_append]
  by_cases h : digB b = true
  · rw [if_pos h]; simp [h]
  · rw [if_neg h]; simp [h]
theorem cnt_le (l : List UInt8) : cntB l ≤ l.length := List.length_filter_le _ _

structure CInv (S : List UInt8) (x : CdL) : Prop where
  le : x.i ≤ S.length
  dg : x.digits = cntB (S.take x.i)
  gd : x.good = (decide (S ≠ []) && gp (S.take x.i))
theorem cinv_dig {S : List UInt8} {x : CdL} {b : UInt8} (h : CInv S x) (hb : S[x.i]? = some b) (hd : digB b = true) : CInv S ⟨x.good, x.digits + 1, x.i + 1⟩ := by
  obtain ⟨h1, h2, h3⟩ := h
  have hlt : x.i < S.length := (List.getElem?_eq_some_iff.1 hb).1
  have e : S.take (x.i + 1) = S.take x.i ++ [b] := by rw [List.take_add_one, hb]; rfl
  refine ⟨hlt, ?_, ?_⟩
  · dsimp only; rw [e, cnt_snoc, if_pos hd, h2]
  · dsimp only; rw [e, gp_snoc, hd, Bool.true_or, Bool.and_true, h3]
theorem cinv_bad {S : List UInt8} {x : CdL} {b : UInt8} (h : CInv S x) (hb : S[x.i]? = some b) (hd : digB b = false) (hm : 0 < x.i ∨ b ≠ 45) : CInv S ⟨false, x.digits, x.i + 1⟩ := by
  obtain ⟨h1, h2, h3⟩ := h
  have hlt : x.i < S.length := (List.getElem?_eq_some_iff.1 hb).1
  have e : S.take (x.i + 1) = S.take x.i ++ [b] := by rw [List.take_add_one, hb]; rfl
  refine ⟨hlt, ?_, ?_⟩
  · dsimp only; rw [e, cnt_snoc, if_neg (by rw [hd]; simp), h2]; rfl
  · dsimp only; rw [e, gp_snoc, hd, Bool.false_or]
    have : (decide (S.take x.i = []) && decide (b = 45)) = false := by
      rcases hm with hm | hm
      · have : S.take x.i ≠ [] := by
          intro e0
          have := congrArg List.length e0
          rw [List.length_take, List.length_nil] at this
          omega
        rw [decide_eq_false this, Bool.false_and]
      · rw [decide_eq_false hm, Bool.and_false]
    rw [this, Bool.and_false, Bool.and_false]
theorem cinv_min {S : List UInt8} {x : CdL} {b : UInt8} (h : CInv S x) (hb : S[x.i]? = some b) (hd : digB b = false) (hi : x.i = 0) (hm : b = 45) : CInv S ⟨x.good, x.digits, x.i + 1⟩ := by
  obtain ⟨h1, h2, h3⟩ := h
  have hlt : x.i < S.length := (List.getElem?_eq_some_iff.1 hb).1
  have e : S.take (x.i + 1) = S.take x.i ++ [b] := by rw [List.take_add_one, hb]; rfl
  refine ⟨hlt, ?_, ?_⟩
  · dsimp only; rw [e, cnt_snoc, if_neg (by rw [hd]; simp), h2]; rfl
  · dsimp only; rw [e, gp_snoc, h3, hi, hm]; simp
theorem cinv_end {S : List UInt8} {x : CdL} (h : CInv S x) (he : S.length ≤ x.i) : x.digits = cntB S ∧ x.good = goodB S := by
  obtain ⟨h1, h2, h3⟩ := h
  rw [List.take_of_length_le he] at h2 h3
  exact ⟨h2, by rw [h3, goodB_gp]⟩
theorem digB_ge {b : UInt8} (h : ¬ (b.toNat : Int) ≥ 48) : digB b = false := by
  simp only [digB]; rw [decide_eq_false (by omega)]; rfl
theorem digB_le {b : UInt8} (h : ¬ (b.toNat : Int) ≤ 57) : digB b = false := by
  simp only [digB]; rw [decide_eq_false (show ¬ b.toNat ≤ 57 by omega), Bool.and_false]
theorem digB_in {b : UInt8} (h : (b.toNat : Int) ≥ 48) (h' : (b.toNat : Int) ≤ 57) : digB b = true := by
  simp only [digB]; rw [decide_eq_true (show 48 ≤ b.toNat by omega), decide_eq_true (show b.toNat ≤ 57 by omega)]; rfl

def fate (ok : Bool) (n : Int) : Prop := Cv.cnd ok (∃ (i : Unit), True ∧ ∀ (o : Unit), True → ∃ (o : Unit), true = true ∧ True) (Cv.cnd (n == (0 : Int)) (∃ (i : Unit), True ∧ ∀ (o : Unit), True → ∃ (o : Unit), true = true ∧ True) (∃ (o : Unit), true = false ∧ True))
theorem fate_ok {ok : Bool} {n : Int} (h : ok = false → n = 0) : fate ok n := by
  have e : ∃ (i : Unit), True ∧ ∀ (o : Unit), True → ∃ (o : Unit), true = true ∧ True := ⟨(), trivial, fun _ _ => ⟨(), rfl, trivial⟩⟩
  refine Cv.cnd.mk (fun _ => e) (fun c => Cv.cnd.mk (fun _ => e) (fun d => ?_))
  have := h c
  subst this
  cases d

theorem vcdig (i : CdI) (h : cdigC.cnd i) : Vcdig i := by
  obtain ⟨⟨h1, h2⟩, h3⟩ : i64r i.n ∧ i.s.length ≤ 9223372036854775807 := h
  have b1 : -1000000000000000000 < i.n.tmod 1000000000000000000 ∧ i.n.tmod 1000000000000000000 < 1000000000000000000 := by
    have := Int.tmod_lt_of_pos i.n (show (0 : Int) < 1000000000000000000 by omega)
    have := Int.lt_tmod_of_pos i.n (show (0 : Int) < 1000000000000000000 by omega)
    omega
  unfold Vcdig
  generalize hm : i.n.tmod 1000000000000000000 = m at b1 ⊢
  have b2 : -1000 < m.tmod 1000 ∧ m.tmod 1000 < 1000 := by
    have := Int.tmod_lt_of_pos m (show (0 : Int) < 1000 by omega)
    have := Int.lt_tmod_of_pos m (show (0 : Int) < 1000 by omega)
    omega
  have sg : (0 ≤ m → 0 ≤ m.tmod 1000) ∧ (m < 0 → m.tmod 1000 ≤ 0) := by
    refine ⟨fun h => Int.tmod_nonneg _ h, fun h => ?_⟩
    have := Int.tmod_nonneg (a := -m) 1000 (by omega)
    rw [Int.neg_tmod] at this
    omega
  generalize hr : m.tmod 1000 = r at b2 sg ⊢
  have l1 := digF_len18 b1.1 b1.2
  have l2 := digF_len b2.1 b2.2
  have hh : headF (digF r) 17 = digF r := by unfold headF; rw [if_neg (by omega)]
  have n1 := numF_digF b1.1 b1.2
  have n2 := fun h => numF_zero (n := r) h b2.2
  have n3 := numF_zneg (n := r)
  refine ⟨rfl, by decide, m, rfl, ⟨by omega, by omega⟩, fun _ _ => ⟨digF m, rfl, by omega, fun _ _ => ⟨rfl, by decide, r, rfl, ⟨by omega, by omega⟩, fun _ _ => ⟨⟨digF r, 17⟩, rfl, rfl, ⟨by (first | omega | (dsimp only; omega)), by (first | omega | (dsimp only; omega)), by dsimp only; omega⟩, fun _ _ => ?_⟩⟩⟩⟩
  dsimp only
  rw [hh]
  refine ⟨?_, 48 :: digF r, ?_, ?_, fun _ _ => ⟨(), fun _ => True, ?_, fun _ _ => ?_⟩⟩
  · rw [sb_size, i64max]
    show ((1 + (digF r).length : Nat) : Int) ≤ _
    omega
  · rw [show ByteArray.mk #[48] = sb [48] from rfl, ← sb_app]; rfl
  · rw [List.length_cons]; omega
  · rw [n1, bneI, bneI, bneI]
    have done : ∃ (i' : Unit), (fun _ : Unit => True) i' ∧ True := ⟨(), trivial, trivial⟩
    have neg : Cv.cnd (decide (m < (0 : Int))) (IntKind.i64 = IntKind.i64 ∧ (1000 : Int) ≠ (0 : Int) ∧ Cv.cnd (decide (r ≠ 0)) (Cv.cnd (numF (48 :: digF r)).snd (∃ (o : Unit), true = false ∧ True) (∃ (i' : Unit), (fun _ : Unit => True) i' ∧ True)) (∃ (i' : Unit), (fun _ : Unit => True) i' ∧ True)) (∃ (i' : Unit), (fun _ : Unit => True) i' ∧ True) := by
      refine cndD (fun c => ⟨rfl, by decide, cndD (fun d => Cv.cnd.mk (fun e => ?_) (fun _ => done)) (fun _ => done)⟩) (fun _ => done)
      have := n3 (by omega)
      rw [this] at e
      cases e
    refine Cv.cnd.mk (fun c => by cases c) (fun _ => cndD (fun c => absurd rfl c) (fun _ => cndD (fun c => ?_) (fun _ => neg)))
    have n2' := n2 (sg.1 c)
    rw [n2']
    refine Cv.cnd.mk (fun c => by cases c) (fun _ => ⟨rfl, by decide, cndD (fun c => absurd rfl c) (fun _ => ?_)⟩)
    rw [n2'] at neg
    exact neg
  · refine ⟨⟨i.s, 30⟩, rfl, rfl, ⟨by (first | omega | (dsimp only; omega)), by (first | omega | (dsimp only; omega)), h3⟩, fun _ _ => ?_⟩
    dsimp only
    have hs := head_len (s := i.s) (n := 30) (by decide)
    generalize headF i.s 30 = S at hs ⊢
    rw [sb_size]
    refine ⟨S, rfl, by omega, fun _ _ => ⟨⟨decide ((S.length : Int) > 0), 0, 0⟩, rfl, rfl, rfl, CInv S, fun x => S.length - x.i, ⟨Nat.zero_le _, rfl, ?_⟩, ?_⟩⟩
    · dsimp only
      cases S with
      | nil => rfl
      | cons a l => simp [gp]
    rintro ⟨g, d, q⟩ hI
    dsimp only
    refine cndD (fun hl => ?_) (fun hl => ?_)
    · obtain ⟨b, hb⟩ := getI (l := S) (i := q) (by omega)
      have hdle : d ≤ S.length := by
        have := hI.dg
        dsimp only at this
        have h2 := cnt_le (S.take q)
        rw [List.length_take] at h2
        omega
      have ei : IntKind.i64.wrap ((q : Int) + 1) = ((q + 1 : Nat) : Int) := by rw [w64 (by omega)]; rfl
      have ed : IntKind.i64.wrap ((d : Int) + 1) = ((d + 1 : Nat) : Int) := by rw [w64 (by omega)]; rfl
      rw [ei, ed]
      have rest (hd : digB b = false) : Cv.cnd (decide ((q : Int) > (0 : Int))) (∃ (i' : CdL), i'.good = false ∧ (↑i'.digits : Int) = (d : Int) ∧ (↑i'.i : Int) = ((q + 1 : Nat) : Int) ∧ CInv S i' ∧ S.length - i'.i < S.length - q ∧ True) (∃ (b : UInt8), ((0 : Int) ≤ (q : Int) ∧ (sb S)[(q : Int).toNat]? = some b) ∧ Cv.cnd ((↑b.toNat : Int) != (45 : Int)) (∃ (i' : CdL), i'.good = false ∧ (↑i'.digits : Int) = (d : Int) ∧ (↑i'.i : Int) = ((q + 1 : Nat) : Int) ∧ CInv S i' ∧ S.length - i'.i < S.length - q ∧ True) (∃ (i' : CdL), i'.good = g ∧ (↑i'.digits : Int) = (d : Int) ∧ (↑i'.i : Int) = ((q + 1 : Nat) : Int) ∧ CInv S i' ∧ S.length - i'.i < S.length - q ∧ True)) := by
        refine cndD (fun c => ⟨⟨false, d, q + 1⟩, rfl, rfl, rfl, cinv_bad hI hb hd (Or.inl (by dsimp only; omega)), by dsimp only; omega, trivial⟩) (fun c => ⟨b, ⟨by omega, sb_getE hb⟩, ?_⟩)
        rw [bneI]
        refine cndD (fun e => ⟨⟨false, d, q + 1⟩, rfl, rfl, rfl, cinv_bad hI hb hd (Or.inr (fun e' => e (by rw [e']; rfl))), by dsimp only; omega, trivial⟩) (fun e => ⟨⟨g, d, q + 1⟩, rfl, rfl, rfl, cinv_min hI hb hd (by dsimp only; omega) (UInt8.toNat.inj (by show b.toNat = 45; omega)), by dsimp only; omega, trivial⟩)
      refine ⟨b, ⟨by omega, sb_getE hb⟩, cndD (fun c => ⟨b, ⟨by omega, sb_getE hb⟩, cndD (fun c' => ?_) (fun c' => rest (digB_le c'))⟩) (fun c => rest (digB_ge c))⟩
      exact ⟨⟨g, d + 1, q + 1⟩, rfl, rfl, rfl, cinv_dig hI hb (digB_in c c'), by dsimp only; omega, trivial⟩
    · obtain ⟨e1, e2⟩ := cinv_end hI (by dsimp only; omega)
      dsimp only at e1 e2
      subst e1 e2
      obtain ⟨f1, f2⟩ := numF_good S
      have hf : fate (numF S).2 (numF S).1 := fate_ok f2
      generalize numF S = z at f1 hf ⊢
      obtain ⟨zn, zo⟩ := z
      dsimp only at f1 hf ⊢
      refine Cv.cnd.mk (fun g1 => cndD (fun g2 => Cv.cnd.mk (fun _ => hf) (fun g3 => ?_)) (fun g2 => Cv.cnd.mk (fun _ => hf) (fun g3 => ?_))) (fun g1 => Cv.cnd.mk (fun _ => hf) (fun g3 => ?_))
      · rw [g1, Bool.true_and, decide_eq_true (show 1 ≤ cntB S by omega), Bool.true_and] at f1
        rw [f1] at g3
        by_cases q : cntB S ≤ 18
        · rw [decide_eq_true q, decide_eq_true (show (cntB S : Int) ≤ 18 by omega)] at g3; cases g3
        · rw [decide_eq_false q, decide_eq_false (show ¬ (cntB S : Int) ≤ 18 by omega)] at g3; cases g3
      · rw [decide_eq_false (show ¬ 1 ≤ cntB S by omega), Bool.false_and, Bool.and_false] at f1
        rw [f1] at g3; cases g3
      · rw [g1, Bool.false_and] at f1
        rw [f1] at g3; cases g3
end Sx

