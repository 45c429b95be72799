/- Texts of ours, one behind the other: a walk that the kernel reckons, and contracts of functions. No condition. -/
import Derived.Lib.AppendIntMem
import Derived.Lib.LaidU8
import Derived.Shelf.Strconv.Itoa4
import Derived.Shelf.Strings.BuilderRune
import Derived.Shelf.Unicode.DecodeAny
import Derived.Test.YthlgpiinapiiaaaDoorM7

namespace Sx
set_option maxRecDepth 100000
open Go Go.Proofs Go.Shelf
theorem layn173 : Go.Proofs.LaysM.n173 Tryd.prog shelfRen := {
  mixed := by kernel_rfl
  f129 := Tryd.func78.trans (congrArg some (by kernel_rfl))
  f173 := Tryd.func43.trans (congrArg some (by kernel_rfl))
  f246 := Tryd.func56.trans (congrArg some (by kernel_rfl))
  f283 := Tryd.func69.trans (congrArg some (by kernel_rfl))
  f284 := Tryd.func70.trans (congrArg some (by kernel_rfl))
  f285 := Tryd.func71.trans (congrArg some (by kernel_rfl))
  f286 := Tryd.func72.trans (congrArg some (by kernel_rfl))
  f317 := Tryd.func77.trans (congrArg some (by kernel_rfl))
  f318 := Tryd.func79.trans (congrArg some (by kernel_rfl))
  f319 := Tryd.func80.trans (congrArg some (by kernel_rfl))
  f320 := Tryd.func81.trans (congrArg some (by kernel_rfl))
  f337 := Tryd.func84.trans (congrArg some (by kernel_rfl))
  f338 := Tryd.func85.trans (congrArg some (by kernel_rfl))
  t0 := Tryd.underlying0
  a0 := Tryd.isAgg0
  z0 := Tryd.sizeOf0
  v0 := Tryd.zeroValue0
  t2 := Tryd.underlying2
  a2 := Tryd.isAgg2
  z2 := Tryd.sizeOf2
  v2 := Tryd.zeroValue2
  t3 := Tryd.underlying3
  a3 := Tryd.isAgg3
  z3 := Tryd.sizeOf3
  v3 := Tryd.zeroValue3
  t4 := Tryd.underlying4
  a4 := Tryd.isAgg4
  z4 := Tryd.sizeOf4
  v4 := Tryd.zeroValue4
  t5 := Tryd.underlying5
  a5 := Tryd.isAgg5
  z5 := Tryd.sizeOf5
  v5 := Tryd.zeroValue5
  t9 := Tryd.underlying9
  a9 := Tryd.isAgg9
  z9 := Tryd.sizeOf9
  v9 := Tryd.zeroValue9
  t20 := Tryd.underlying20
  a20 := Tryd.isAgg20
  z20 := Tryd.sizeOf20
  v20 := Tryd.zeroValue20
  t37 := Tryd.underlying64
  a37 := Tryd.isAgg64
  z37 := Tryd.sizeOf64
  v37 := Tryd.zeroValue64
  t46 := Tryd.underlying123
  a46 := Tryd.isAgg123
  z46 := Tryd.sizeOf123
  v46 := Tryd.zeroValue123
  t51 := Tryd.underlying115
  a51 := Tryd.isAgg115
  z51 := Tryd.sizeOf115
  v51 := Tryd.zeroValue115
  t53 := Tryd.underlying73
  a53 := Tryd.isAgg73
  z53 := Tryd.sizeOf73
  v53 := Tryd.zeroValue73
  t171 := Tryd.underlying118
  a171 := Tryd.isAgg118
  z171 := Tryd.sizeOf118
  v171 := Tryd.zeroValue118
  t173 := Tryd.underlying121
  a173 := Tryd.isAgg121
  z173 := Tryd.sizeOf121
  v173 := Tryd.zeroValue121
  t212 := Tryd.underlying133
  a212 := Tryd.isAgg133
  z212 := Tryd.sizeOf133
  v212 := Tryd.zeroValue133
  t213 := Tryd.underlying134
  a213 := Tryd.isAgg134
  z213 := Tryd.sizeOf134
  t232 := Tryd.underlying140
  a232 := Tryd.isAgg140
  z232 := Tryd.sizeOf140
  v232 := Tryd.zeroValue140
  t233 := Tryd.underlying141
  a233 := Tryd.isAgg141
  z233 := Tryd.sizeOf141
  v233 := Tryd.zeroValue141
  g17 := by kernel_rfl
  g18 := by kernel_rfl
  g19 := by kernel_rfl
  i0 := by kernel_rfl
  i2 := by kernel_rfl
  i3 := by kernel_rfl
  i4 := by kernel_rfl
  i5 := by kernel_rfl
  i9 := by kernel_rfl
  i20 := by kernel_rfl
  i37 := by kernel_rfl
  i46 := by kernel_rfl
  i51 := by kernel_rfl
  i53 := by kernel_rfl
  i171 := by kernel_rfl
  i173 := by kernel_rfl
  i212 := by kernel_rfl
  i232 := by kernel_rfl
  i233 := by kernel_rfl
  m17 := by kernel_rfl
  m18 := by kernel_rfl
  m19 := by kernel_rfl }
end Sx

namespace Sx
set_option linter.unusedVariables false
set_option linter.unusedSimpArgs false
open Go Go.RowKit Go.Proofs

theorem digN_dec : ∀ (k u : Nat) (acc : List UInt8), 0 < u → u < 10 ^ k → digN k u acc = Lib.decDigits u ++ acc
  | 0, u, acc, h0, h => by simp at h; omega
  | k + 1, u, acc, h0, h => by
    rw [digN, if_neg (by omega), Lib.decDigits]
    split
    · rename_i hlt
      rw [show u / 10 = 0 by omega, show u % 10 = u by omega]
      cases k with
      | zero => rfl
      | succ k => rw [digN, if_pos ⟨rfl, by simp⟩]; rfl
    · rw [digN_dec k (u / 10) _ (by omega) (by rw [Nat.pow_succ] at h; omega), List.append_assoc]
      rfl
theorem digU_dec {u : Nat} (h : u < 10 ^ 25) : digU u = Lib.decDigits u := by
  rcases Nat.eq_zero_or_pos u with rfl | h0
  · rw [Lib.decDigits, dif_pos (by omega)]; rfl
  · rw [digU, digN_dec 25 u [] h0 h, List.append_nil]
theorem digF_itoa {n : Int} (h0 : -9223372036854775808 ≤ n) (h1 : n ≤ 9223372036854775807) : digF n = Lib.itoa n := by
  unfold digF Lib.itoa
  split
  · rw [show (-n).toNat = n.natAbs by omega, digU_dec (by omega)]
  · rw [digU_dec (by omega)]
theorem tab_of {w : World} (h : HTab w) : Lib.TabIs Tryd.prog w "internal/strconv.uint64pow10" .u64 Lib.pow10Tab := by
  obtain ⟨o, h1, T, fr, rfl⟩ := h _ (List.mem_cons_of_mem _ (List.mem_cons_of_mem _ (List.mem_cons_self)))
  dsimp only at h1
  have hg : Tryd.prog.globalNamed "internal/strconv.uint64pow10" = some 2 := by kernel_rfl
  show (Tryd.prog.globalNamed "internal/strconv.uint64pow10").bind _ = _
  rw [hg, Option.bind_some, h1]

set_option maxHeartbeats 4000000 in
theorem fmt_calls (n : Int) (w : World) (hG : HTab w) (h0 : -9223372036854775808 ≤ n) (h1 : n ≤ 9223372036854775807) :
    Calls Tryd.prog 43 #[.int .i64 n, .int .i64 10] w fun e w' => e = .returned (.string (sb (digF n))) ∧ Below w.heap.size w w' := by
  refine (Any.strconv_FormatInt_10 layn173 n h0 h1 w (tab_of hG)).mono ?_
  rintro e w' ⟨rfl, k, os, rfl⟩
  refine ⟨?_, Lib.below_grow _ w (Nat.le_refl _) k os⟩
  rw [digF_itoa h0 h1]; rfl
theorem fmt_ok : fmtC.ok Tryd.prog 43 := con_of_calls (by kernel_rfl) fun n hs E w ys hG hv => by
  obtain ⟨h0, h1⟩ : -9223372036854775808 ≤ n ∧ n ≤ 9223372036854775807 := hs
  simp only [VRL, VR, DR] at hv
  obtain ⟨y, _, rfl, ⟨rfl, _⟩, z, _, rfl, ⟨rfl, _⟩, rfl⟩ := hv
  refine (fmt_calls n w hG h0 h1).mono ?_
  rintro e w' ⟨rfl, hb⟩
  exact ⟨_, rfl, by simp only [VR, DR]; exact ⟨trivial, rfl⟩, hb⟩

end Sx

namespace Sx
set_option linter.unusedVariables false
set_option linter.unusedSimpArgs false
set_option maxRecDepth 100000
open Go Cv Go.Proofs

/-! ### Texts that fold to themselves -/
def plainY (b : UInt8) : Bool := decide (b.toNat < 128) && !(decide (97 ≤ b.toNat) && decide (b.toNat ≤ 122))
theorem foldT_plain (s : List UInt8) (h : s.all plainY = true) : ∀ (k p : Nat), s.length - p ≤ k → foldT s (runesP s p) = s.drop p
  | k, p, hk => by
    rcases Nat.lt_or_ge p s.length with hlt | hge
    · obtain ⟨k', rfl⟩ : ∃ k', k = k' + 1 := ⟨k - 1, by omega⟩
      rw [runesP_step hlt, decode_drop]
      obtain ⟨b, l, hb⟩ : ∃ b l, s.drop p = b :: l := by
        cases hd : s.drop p with
        | nil => rw [List.drop_eq_nil_iff] at hd; omega
        | cons b l => exact ⟨b, l, rfl⟩
      have hmem : b ∈ s := List.mem_of_mem_drop (i := p) (by rw [hb]; exact List.mem_cons_self)
      have hp := List.all_eq_true.1 h b hmem
      simp only [plainY, Bool.and_eq_true, decide_eq_true_eq, Bool.not_eq_true', Bool.and_eq_false_iff, decide_eq_false_iff_not] at hp
      have hl : l = s.drop (p + 1) := by
        rw [← List.drop_drop, hb]; rfl
      obtain ⟨_, q2, _⟩ := dec_32 (l := b :: l) (by simp)
      have e0 : gB (b :: l) 0 = b.toNat := rfl
      rw [e0] at q2
      obtain ⟨r1, r2⟩ := q2 hp.1
      have hu : upR b.toNat = false := by
        simp only [upR, Bool.or_eq_false_iff, Bool.and_eq_false_iff, decide_eq_false_iff_not]
        omega
      have e1 : fold1 s (p, (dec1 (b :: l)).1) = [b] := by
        unfold fold1
        dsimp only
        rw [r2, hu]
        simp only [Bool.false_eq_true, if_false]
        rw [rawAt, hb, r1]; rfl
      rw [hb]
      show fold1 s (p, (dec1 (b :: l)).1) ++ foldT s (runesP s (p + (dec1 (b :: l)).2)) = _
      rw [e1, r1, foldT_plain s h k' (p + 1) (by omega), hl]; rfl
    · rw [runesP_end hge, List.drop_eq_nil_of_le hge]; rfl
theorem foldF_plain {s : List UInt8} (h : s.all plainY = true) : foldF s = s := by
  rw [foldF, foldT_plain s h s.length 0 (by omega), List.drop_zero]
theorem dig_plain {l : List UInt8} (h : l.all digB = true) : l.all plainY = true := by
  rw [List.all_eq_true] at h ⊢
  intro b hb
  have := h b hb
  simp only [digB, Bool.and_eq_true, decide_eq_true_eq] at this
  simp only [plainY, Bool.and_eq_true, decide_eq_true_eq, Bool.not_eq_true', Bool.and_eq_false_iff, decide_eq_false_iff_not]
  omega
theorem digF_plain (n : Int) : (digF n).all plainY = true := by
  unfold digF
  split
  · rw [List.all_cons, dig_plain (digU_all _)]; rfl
  · exact dig_plain (digU_all _)
theorem dig_no {l : List UInt8} (h : l.all digB = true) : (32 : UInt8) ∉ l := fun hm => by
  have := List.all_eq_true.1 h 32 hm
  revert this; decide
theorem isW1_mk {w : List UInt8} (h : w ≠ []) (h2 : (32 : UInt8) ∉ w) : isW1 w = true := by
  simp only [isW1, Bool.and_eq_true, decide_eq_true_eq, Bool.not_eq_true']
  refine ⟨h, ?_⟩
  cases hc : w.contains 32 with
  | false => rfl
  | true => exact absurd (List.contains_iff_mem.1 hc) h2
theorem digF_w (n : Int) : isW1 (digF n) = true := by
  unfold digF
  split
  · refine isW1_mk (by simp) ?_
    rw [List.mem_cons]
    rintro (h | h)
    · revert h; decide
    · exact dig_no (digU_all _) h
  · exact isW1_mk (digU_ne _) (dig_no (digU_all _))

/-! ### Names of a product that is asked most -/
def nameN (n i : Nat) : List UInt8 := if i < n then (codeF [206, 169] (10 * (i : Int) + 3)).1 else (sprF [206, 169] (10 * (legsFrom n i n 0).1 + 3) (10 * (legsFrom n i n 0).2.1 + 3)).1
def cntN (n : Nat) : Nat := n + n * (n - 1) / 2
def nameOk (n i : Nat) : Bool := decide (foldF (nameN n i) = nameN n i) && (isW1 (nameN n i) && (decide ((nameN n i).length ≤ 11) && (List.range i).all fun j => decide (nameN n j ≠ nameN n i)))
theorem names_all : ((List.range 6).all fun n => decide (n < 2) || (List.range (cntN n)).all (nameOk n)) = true := by decide +kernel
theorem names_ok {n : Nat} (h6 : n < 6) (h2 : 2 ≤ n) {i : Nat} (hi : i < cntN n) : foldF (nameN n i) = nameN n i ∧ isW1 (nameN n i) = true ∧ (nameN n i).length ≤ 11 ∧ ∀ j, j < i → nameN n j ≠ nameN n i := by
  have h := List.all_eq_true.1 names_all n (List.mem_range.2 h6)
  rw [Bool.or_eq_true, decide_eq_true_eq] at h
  have h := List.all_eq_true.1 (h.resolve_left (by omega)) i (List.mem_range.2 hi)
  unfold nameOk at h
  simp only [Bool.and_eq_true, decide_eq_true_eq] at h
  obtain ⟨q1, q2, q3, q4⟩ := h
  refine ⟨q1, q2, q3, fun j hj => ?_⟩
  have := List.all_eq_true.1 q4 j (List.mem_range.2 hj)
  simpa using this
theorem legs_fin5 : ∀ n < 6, ∀ i < cntN n, n ≤ i → (legsFrom n i n 0).2.2 = true ∧ 0 ≤ (legsFrom n i n 0).1 ∧ (legsFrom n i n 0).1 < n ∧ 0 ≤ (legsFrom n i n 0).2.1 ∧ (legsFrom n i n 0).2.1 < n := by decide +kernel
theorem kN_nat (x : Prd) : 2 ≤ (kN x).toNat ∧ (kN x).toNat < 6 := by have := kN_bd x; omega
theorem kcnt (x : Prd) : (kprod x).count = cntN (kN x).toNat := by
  rw [count_def (kprod_check x)]
  show (kMonths (kN x).toNat).length + _ = _
  rw [show (kprod x).months.length = (kN x).toNat from kMonths_len _, kMonths_len]
  rfl
theorem kmonth (x : Prd) {n : Nat} (h : n < (kN x).toNat) : (kprod x).month n = 10 * (n : Int) + 3 := by
  show (kMonths (kN x).toNat).getD (n : Int).toNat 0 = _
  simp [kMonths, List.getD_eq_getElem?_getD, h]
theorem kname (x : Prd) {i : Nat} (h : i < (kprod x).count) : (kprod x).name (i : Int) = nameN (kN x).toNat i := by
  have hc := kcnt x
  have hl : (kprod x).months.length = (kN x).toNat := kMonths_len _
  obtain ⟨b1, b2⟩ := kN_nat x
  have hneg : ¬ ((i : Int) < 0 ∨ ((kprod x).count : Int) ≤ i) := by omega
  rw [Prd.name, if_neg hneg, Prd.legs, if_neg hneg, hl, nameN]
  by_cases hi : i < (kN x).toNat
  · rw [if_pos (by omega : (i : Int) < ((kN x).toNat : Int)), if_pos hi]
    dsimp only
    rw [if_neg (by decide), kmonth x hi]; rfl
  · rw [if_neg (by omega : ¬ (i : Int) < ((kN x).toNat : Int)), if_neg hi, Int.toNat_natCast]
    obtain ⟨q1, q2, q3, q4, q5⟩ := legs_fin5 (kN x).toNat b2 i (by omega) (by omega)
    generalize legsFrom (kN x).toNat i (kN x).toNat 0 = L at q1 q2 q3 q4 q5 ⊢
    obtain ⟨a, b, s⟩ := L
    dsimp only at q1 q2 q3 q4 q5 ⊢
    obtain ⟨a', rfl⟩ : ∃ a' : Nat, a = a' := ⟨a.toNat, by omega⟩
    obtain ⟨b', rfl⟩ : ∃ b' : Nat, b = b' := ⟨b.toNat, by omega⟩
    rw [if_pos q1, kmonth x (by omega), kmonth x (by omega)]; rfl
structure NmOk (p : Prd) (i : Int) : Prop where
  fold : foldF (p.name i) = p.name i
  w : isW1 (p.name i) = true
  len : (p.name i).length ≤ 11
  find : p.find (p.name i) = (i, true)
theorem kname_ok (x : Prd) {i : Int} (h0 : 0 ≤ i) (h1 : i < (kprod x).count) : NmOk (kprod x) i := by
  obtain ⟨n, rfl⟩ : ∃ n : Nat, i = n := ⟨i.toNat, by omega⟩
  have hn : n < (kprod x).count := by omega
  have hc := kcnt x
  obtain ⟨b1, b2⟩ := kN_nat x
  obtain ⟨q1, q2, q3, q4⟩ := names_ok b2 b1 (i := n) (by omega)
  have e := kname x hn
  refine ⟨by rw [e]; exact q1, by rw [e]; exact q2, by rw [e]; exact q3, ?_⟩
  have hf : (List.range (kprod x).count).find? (fun (m : Nat) => decide ((kprod x).name (m : Int) = (kprod x).name (n : Int))) = some n := by
    rw [List.find?_range_eq_some]
    refine ⟨by simp, List.mem_range.2 hn, fun j hj => ?_⟩
    rw [kname x (by omega), e]
    have := q4 j hj
    simpa using this
  rw [Prd.find, hf]

/-! ### What is printed is read -/
theorem sepL_words (ws : List (List UInt8)) (h : ∀ w ∈ ws, isW1 w = true) : wordsL (sepL ws) = ws := by
  cases ws with
  | nil => rfl
  | cons w ws =>
    rw [sepL, wordsL_sepW 0 ws w (fun x hx => h x (List.mem_cons_of_mem _ hx)), wordsL_one (h w List.mem_cons_self)]; rfl
theorem sepW_words (n : Nat) (ws : List (List UInt8)) (h : ∀ w ∈ ws, isW1 w = true) : wordsL (sepW n ws) = ws := by
  have := wordsL_sepW n ws [] h
  rw [List.nil_append] at this
  rw [this]; rfl
structure CmOk (p : Prd) (c : Cmd) : Prop where
  kind : c.kind = 1 ∨ c.kind = 2 ∨ c.kind = 3 ∨ c.kind = 4
  id : -1000000000000000000 < c.id ∧ c.id < 1000000000000000000
  qty : -1000000000000000000 < c.qty ∧ c.qty < 1000000000000000000
  price : -1000000000000000000 < c.price ∧ c.price < 1000000000000000000
  least : -1000000000000000000 < c.least ∧ c.least < 1000000000000000000
  side : c.kind = 1 → c.side = 1 ∨ c.side = 2
  time : c.kind = 1 → c.time = 1 ∨ c.time = 2 ∨ c.time = 3
  nm : c.kind = 1 → NmOk p c.inst
  lab : c.kind = 1 → c.label ≠ [] → labOk c.label = true ∧ isW1 c.label = true
theorem fold_kw : foldF pBUY = wBUY ∧ foldF pSELL = wSELL ∧ foldF pAT = wAT ∧ foldF pID = wID ∧ foldF pLEAST = wLEAST ∧ foldF pNOW = wNOW ∧ foldF pWHOLE = wWHOLE ∧ foldF pLABEL = wLABEL ∧ foldF pCANCEL = wCANCEL ∧ foldF pCUT = wCUT ∧ foldF pCHANGE = wCHANGE := by decide +kernel
theorem fold_kw2 : foldF wBUY = wBUY ∧ foldF wSELL = wSELL ∧ foldF wAT = wAT ∧ foldF wID = wID ∧ foldF wLEAST = wLEAST ∧ foldF wNOW = wNOW ∧ foldF wWHOLE = wWHOLE ∧ foldF wLABEL = wLABEL ∧ foldF wCANCEL = wCANCEL ∧ foldF wCUT = wCUT ∧ foldF wCHANGE = wCHANGE := by decide +kernel
/-- A New's words, small or great. -/
def nwG (g : Bool) (p : Prd) (c : Cmd) : NewW := ⟨if c.side = 2 then (if g then wSELL else pSELL) else (if g then wBUY else pBUY), p.name c.inst, digF c.qty, if g then wAT else pAT, digF c.price, if g then wID else pID, digF c.id⟩
def nwOG (g : Bool) (c : Cmd) : List OI := (if c.least ≠ 0 then [oLeast (if g then wLEAST else pLEAST) (digF c.least) c.least] else []) ++ (if c.time = 2 then [oTime (if g then wNOW else pNOW) 2] else if c.time = 3 then [oTime (if g then wWHOLE else pWHOLE) 3] else []) ++ (if c.label ≠ [] then [oLabel (if g then wLABEL else pLABEL) c.label] else [])
def lineG (g : Bool) (p : Prd) (c : Cmd) : List (List UInt8) := if c.kind = 1 then (nwG g p c).ws ++ oWords (nwOG g c) else if c.kind = 2 then [if g then wCANCEL else pCANCEL, digF c.id] else if c.kind = 3 then [if g then wCUT else pCUT, digF c.id, digF c.qty] else [if g then wCHANGE else pCHANGE, digF c.id, digF c.price, digF c.qty]
theorem nwG_reads {p : Prd} {c : Cmd} (h : CmOk p c) (hk : c.kind = 1) (g : Bool) : (nwG g p c).reads p c := by
  obtain ⟨f1, f2, f3, f4, f5, f6, f7, f8, f9, f10, f11⟩ := fold_kw
  obtain ⟨g1, g2, g3, g4, g5, g6, g7, g8, g9, g10, g11⟩ := fold_kw2
  have hn := h.nm hk
  refine ⟨?_, ?_, numF_digF h.qty.1 h.qty.2, ?_, numF_digF h.price.1 h.price.2, ?_, numF_digF h.id.1 h.id.2⟩
  · rcases h.side hk with e | e
    · left
      refine ⟨?_, e⟩
      show foldF (if c.side = 2 then _ else _) = _
      rw [if_neg (by omega)]
      cases g
      · exact f1
      · exact g1
    · right
      refine ⟨?_, e⟩
      show foldF (if c.side = 2 then _ else _) = _
      rw [if_pos e]
      cases g
      · exact f2
      · exact g2
  · show p.find (foldF (p.name c.inst)) = _
    rw [hn.fold, hn.find]
  · cases g
    · exact f3
    · exact g3
  · cases g
    · exact f4
    · exact g4
theorem nwOG_reads {p : Prd} {c : Cmd} (h : CmOk p c) (hk : c.kind = 1) (g : Bool) : ∀ o ∈ nwOG g c, o.reads := by
  obtain ⟨f1, f2, f3, f4, f5, f6, f7, f8, f9, f10, f11⟩ := fold_kw
  obtain ⟨g1, g2, g3, g4, g5, g6, g7, g8, g9, g10, g11⟩ := fold_kw2
  intro o ho
  unfold nwOG at ho
  rcases List.mem_append.1 ho with ho | ho
  · rcases List.mem_append.1 ho with ho | ho
    · split at ho
      · rw [List.mem_singleton] at ho
        subst ho
        refine oLeast_reads ?_ (numF_digF h.least.1 h.least.2)
        cases g
        · exact f5
        · exact g5
      · cases ho
    · split at ho
      · rw [List.mem_singleton] at ho
        subst ho
        refine oTime_reads (.inl ⟨?_, rfl⟩)
        cases g
        · exact f6
        · exact g6
      · split at ho
        · rw [List.mem_singleton] at ho
          subst ho
          refine oTime_reads (.inr ⟨?_, rfl⟩)
          cases g
          · exact f7
          · exact g7
        · cases ho
  · split at ho
    · rename_i hl
      rw [List.mem_singleton] at ho
      subst ho
      refine oLabel_reads ?_ (h.lab hk hl).1
      cases g
      · exact f8
      · exact g8
    · cases ho
theorem nwOG_nodup (g : Bool) (c : Cmd) : ((nwOG g c).map OI.kind).Nodup := by
  unfold nwOG
  by_cases a : c.least ≠ 0 <;> by_cases b : c.time = 2 <;> by_cases b2 : c.time = 3 <;> by_cases d : c.label ≠ [] <;> simp [a, b, b2, d, oLeast, oTime, oLabel] <;> decide
theorem nwOG_all {p : Prd} {c : Cmd} (h : CmOk p c) (hk : c.kind = 1) (g : Bool) : oAll (nwOG g c) (newC c) = c := by
  have ht := h.time hk
  obtain ⟨kind, id, inst, side, price, qty, least, time, label⟩ := c
  dsimp only at hk ht
  subst hk
  unfold nwOG newC oAll
  by_cases a : least = 0 <;> by_cases d : label = [] <;> rcases ht with rfl | rfl | rfl <;> simp [a, d, oLeast, oTime, oLabel]
theorem lineG_w {p : Prd} {c : Cmd} (h : CmOk p c) (g : Bool) : ∀ w ∈ lineG g p c, isW1 w = true := by
  have k1 : isW1 pBUY = true ∧ isW1 pSELL = true ∧ isW1 pAT = true ∧ isW1 pID = true ∧ isW1 pLEAST = true ∧ isW1 pNOW = true ∧ isW1 pWHOLE = true ∧ isW1 pLABEL = true ∧ isW1 pCANCEL = true ∧ isW1 pCUT = true ∧ isW1 pCHANGE = true := by decide
  have k2 : isW1 wBUY = true ∧ isW1 wSELL = true ∧ isW1 wAT = true ∧ isW1 wID = true ∧ isW1 wLEAST = true ∧ isW1 wNOW = true ∧ isW1 wWHOLE = true ∧ isW1 wLABEL = true ∧ isW1 wCANCEL = true ∧ isW1 wCUT = true ∧ isW1 wCHANGE = true := by decide
  obtain ⟨a1, a2, a3, a4, a5, a6, a7, a8, a9, a10, a11⟩ := k1
  obtain ⟨b1, b2, b3, b4, b5, b6, b7, b8, b9, b10, b11⟩ := k2
  have hd := digF_w
  intro w hw
  unfold lineG at hw
  split at hw
  · rename_i hk
    have hn := (h.nm hk).w
    rcases List.mem_append.1 hw with hw | hw
    · simp only [nwG, NewW.ws, List.mem_cons, List.not_mem_nil, or_false] at hw
      rcases hw with rfl | rfl | rfl | rfl | rfl | rfl | rfl
      · cases g <;> split <;> simp [*]
      · exact hn
      · exact hd _
      · cases g <;> simp [*]
      · exact hd _
      · cases g <;> simp [*]
      · exact hd _
    · obtain ⟨l, hl, hw⟩ := List.mem_flatten.1 hw
      obtain ⟨o, ho, rfl⟩ := List.mem_map.1 hl
      unfold nwOG at ho
      rcases List.mem_append.1 ho with ho | ho
      · rcases List.mem_append.1 ho with ho | ho
        · split at ho
          · rw [List.mem_singleton] at ho
            subst ho
            simp only [oLeast, List.mem_cons, List.not_mem_nil, or_false] at hw
            rcases hw with rfl | rfl
            · cases g <;> simp [*]
            · exact hd _
          · cases ho
        · split at ho
          · rw [List.mem_singleton] at ho
            subst ho
            simp only [oTime, List.mem_cons, List.not_mem_nil, or_false] at hw
            subst hw
            cases g <;> simp [*]
          · split at ho
            · rw [List.mem_singleton] at ho
              subst ho
              simp only [oTime, List.mem_cons, List.not_mem_nil, or_false] at hw
              subst hw
              cases g <;> simp [*]
            · cases ho
      · split at ho
        · rename_i hlab
          rw [List.mem_singleton] at ho
          subst ho
          simp only [oLabel, List.mem_cons, List.not_mem_nil, or_false] at hw
          rcases hw with rfl | rfl
          · cases g <;> simp [*]
          · exact (h.lab hk hlab).2
        · cases ho
  · split at hw
    · simp only [List.mem_cons, List.not_mem_nil, or_false] at hw
      rcases hw with rfl | rfl
      · cases g <;> simp [*]
      · exact hd _
    · split at hw
      · simp only [List.mem_cons, List.not_mem_nil, or_false] at hw
        rcases hw with rfl | rfl | rfl
        · cases g <;> simp [*]
        · exact hd _
        · exact hd _
      · simp only [List.mem_cons, List.not_mem_nil, or_false] at hw
        rcases hw with rfl | rfl | rfl | rfl
        · cases g <;> simp [*]
        · exact hd _
        · exact hd _
        · exact hd _
theorem right_kind {c : Cmd} (h : c.right = 0) : c.kind = 1 ∨ c.kind = 2 ∨ c.kind = 3 ∨ c.kind = 4 := by
  unfold Cmd.right at h
  split at h
  · cases h
  · omega
theorem ask_right {c : Cmd} (h : c.right = 0) : c.ask.right = 0 := by
  rcases right_kind h with k | k | k | k
  · rw [Cmd.ask, if_pos k]; exact h
  · simp [Cmd.right, Cmd.ask, k] at h ⊢
    exact h
  · simp [Cmd.right, Cmd.ask, k] at h ⊢
    exact h
  · simp [Cmd.right, Cmd.ask, k] at h ⊢
    exact h
/-- A text of a command's words is read as what is asked. -/
theorem read_back {p : Prd} {c : Cmd} {s : List UInt8} (h : CmOk p c) (hR : c.right = 0) (g : Bool) (hs : wordsL s = lineG g p c) : parseF p s = (c.ask, 0, 0) := by
  obtain ⟨f1, f2, f3, f4, f5, f6, f7, f8, f9, f10, f11⟩ := fold_kw
  obtain ⟨g1, g2, g3, g4, g5, g6, g7, g8, g9, g10, g11⟩ := fold_kw2
  have hA := ask_right hR
  have nid := numF_digF h.id.1 h.id.2
  have nq := numF_digF h.qty.1 h.qty.2
  have npr := numF_digF h.price.1 h.price.2
  unfold lineG at hs
  unfold Cmd.ask at hA ⊢
  by_cases hk : c.kind = 1
  · rw [if_pos hk] at hs hA ⊢
    have e := nwOG_all h hk g
    have := parse_new (nwG_reads h hk g) hs (nwOG_reads h hk g) (nwOG_nodup g c) (by rw [e]; exact hR)
    rw [this, e]
  rw [if_neg hk] at hs hA ⊢
  by_cases hk2 : c.kind = 2
  · rw [if_pos hk2] at hs hA ⊢
    refine parse_cancel hs ?_ nid hA
    cases g
    · exact f9
    · exact g9
  rw [if_neg hk2] at hs hA ⊢
  by_cases hk3 : c.kind = 3
  · rw [if_pos hk3] at hs hA ⊢
    refine parse_cut hs ?_ nid nq hA
    cases g
    · exact f10
    · exact g10
  rw [if_neg hk3] at hs hA ⊢
  have hk4 : c.kind = 4 := by rcases h.kind with e | e | e | e <;> first | exact absurd e hk | exact absurd e hk2 | exact absurd e hk3 | exact e
  rw [if_pos hk4] at hA ⊢
  refine parse_change hs ?_ nid npr nq hA
  cases g
  · exact f11
  · exact g11
theorem print_ok {p : Prd} {c : Cmd} (h : CmOk p c) (hR : c.right = 0) : printF p c = lineF p c ∧ wordsL (lineF p c) = lineW p c ∧ parseF p (lineF p c) = (c.ask, 0, 0) := by
  have hw : wordsL (lineF p c) = lineW p c := by
    rw [lineF, sepL_words]
    intro w hw
    exact lineG_w h false w hw
  have hp := read_back h hR false (s := lineF p c) hw
  refine ⟨?_, hw, hp⟩
  rw [printF, if_neg (by rw [hR]; simp), hp, if_neg (by simp)]
/-- A label that is read is a word. -/
theorem word_in (r : Rdr) : r.word = [] ∨ r.word ∈ r.words := by
  unfold Rdr.word
  split
  · rename_i h
    rw [List.getD_eq_getElem?_getD]
    cases e : r.words[r.k]? with
    | none => left; rfl
    | some w => right; exact List.mem_of_getElem? e
  · left; rfl
theorem step_in {x : Opt} (h : x.c.label = [] ∨ x.c.label ∈ x.r.words) : x.step.c.label = [] ∨ x.step.c.label ∈ x.r.words := by
  unfold Opt.step
  split
  · exact h
  split
  · exact h
  split
  · exact h
  split
  · exact h
  split
  · have := word_in x.r.next
    rw [next_words] at this
    exact this
  · exact h
theorem run_in : ∀ (m : Nat) {x : Opt}, (x.c.label = [] ∨ x.c.label ∈ x.r.words) → (Opt.run m x).c.label = [] ∨ (Opt.run m x).c.label ∈ x.r.words
  | 0, x, h => h
  | m + 1, x, h => by
    rw [Opt.run]
    split
    · have := run_in m (x := x.step) (by rw [step_words]; exact step_in h)
      rw [step_words] at this
      exact this
    · exact h
theorem order_in (r : Rdr) (side : Int) : (r.order side).c.label = [] ∨ (r.order side).c.label ∈ r.words := by
  have := run_in r.words.length (x := r.order0 side) (.inl rfl)
  have e : (r.order0 side).r.words = r.words := by
    show r.o3.numR.words = _
    rw [numR_words, o3_words]
  rw [e] at this
  exact this
theorem cmd_in (r : Rdr) : r.cmd.2.label = [] ∨ r.cmd.2.label ∈ r.words := by
  unfold Rdr.cmd
  split
  · exact .inl rfl
  split
  · exact .inl rfl
  split
  · exact .inl rfl
  split
  · exact .inl rfl
  split
  · have := order_in r.next 1
    rw [next_words] at this
    exact this
  split
  · have := order_in r.next 2
    rw [next_words] at this
    exact this
  · exact .inl rfl
theorem parse_lab (p : Prd) (s : List UInt8) : (32 : UInt8) ∉ (parseF p s).1.label := by
  have h0 : ∀ w ∈ wordsL s, (32 : UInt8) ∉ w := by
    intro w hw
    rw [wordsL_eq] at hw
    obtain ⟨v, hv, rfl⟩ := List.mem_map.1 hw
    exact (wordsW_ok s v hv).no
  unfold parseF
  split
  · simp [cmd0]
  · split
    · simp [cmd0]
    · rcases cmd_in (rdr0 p s) with e | e
      · rw [e]; simp
      · exact h0 _ e

end Sx

namespace Sx
set_option linter.unusedVariables false
set_option linter.unusedSimpArgs false
set_option maxRecDepth 100000
open Go Cv Go.Proofs

theorem digs_ok : digC.ok Tryd.prog 27 := bydigs (gokc fmt_ok gok0) fun n h => ⟨n, rfl, rfl, h, fun _ _ => ⟨(), rfl, trivial⟩⟩
theorem digN_fuel : ∀ (k u : Nat) (acc : List UInt8), (digN k u acc).length ≤ k + acc.length
  | 0, u, acc => by simp [digN]
  | k + 1, u, acc => by
    rw [digN]
    split
    · omega
    · have := digN_fuel k (u / 10) (UInt8.ofNat (48 + u % 10) :: acc)
      rw [List.length_cons] at this
      omega
theorem digF_26 (n : Int) : (digF n).length ≤ 26 := by
  have h := fun u => digN_fuel 25 u []
  unfold digF
  split
  · have := h (-n).toNat
    simp only [digU, List.length_cons, List.length_nil] at this ⊢
    omega
  · have := h n.toNat
    simp only [digU, List.length_nil] at this ⊢
    omega
theorem sprF_len (c : List UInt8) (a b : Int) : (sprF c a b).1.length ≤ 2 * c.length + 7 := by
  have h1 := codeF_len c a
  have h2 := codeF_len c b
  unfold sprF
  split
  · simp
  split
  · simp
  split
  · simp
  · simp only [List.length_append, List.length_cons, List.length_nil]
    omega
theorem name_len (p : Prd) (n : Int) : (p.name n).length ≤ 2 * p.code.length + 7 := by
  unfold Prd.name
  split
  · simp
  split
  · exact sprF_len _ _ _
  · have := codeF_len p.code (p.month (p.legs n).1)
    omega

theorem vask (c : Cmd) (h : askC.cnd c) : Vask c := by
  unfold Vask
  refine Cv.cnd.mk (fun d => ?_) fun d => Cv.cnd.mk (fun d2 => ?_) fun d2 => Cv.cnd.mk (fun d3 => ?_) fun d3 => Cv.cnd.mk (fun d4 => ?_) fun d4 => ?_
  all_goals
    simp only [beq_iff_eq, beq_eq_false_iff_ne, ne_eq] at *
    simp only [Cmd.ask, *, if_true, if_false]
    (repeat' (first | exact rfl | exact trivial | assumption | apply And.intro | (refine fun (_ : Unit) (_ : True) => ?_) | (refine Exists.intro () ?_) | omega | (dsimp only; omega)))
theorem ask_ok : askC.ok Tryd.prog 28 := byask gok0 vask
theorem vask6 (c : Cmd) (h : askC.cnd c) : Vask6 c := by
  unfold Vask6
  refine Cv.cnd.mk (fun d => ?_) fun d => Cv.cnd.mk (fun d2 => ?_) fun d2 => Cv.cnd.mk (fun d3 => ?_) fun d3 => Cv.cnd.mk (fun d4 => ?_) fun d4 => ?_
  all_goals
    simp only [beq_iff_eq, beq_eq_false_iff_ne, ne_eq] at *
    simp only [Cmd.ask, *, if_true, if_false]
    (repeat' (first | exact rfl | exact trivial | assumption | apply And.intro | (refine fun (_ : Unit) (_ : True) => ?_) | (refine Exists.intro () ?_) | omega | (dsimp only; omega)))
theorem ask6_ok : askC.ok Tryd.prog 18 := byask6 gok0 vask6

theorem bBUY : ByteArray.mk #[98, 117, 121] = sb [98, 117, 121] := rfl
theorem bSELL : ByteArray.mk #[115, 101, 108, 108] = sb [115, 101, 108, 108] := rfl
theorem b32 : ByteArray.mk #[32] = sb [32] := rfl
theorem bAT : ByteArray.mk #[32, 97, 116, 32] = sb [32, 97, 116, 32] := rfl
theorem bID : ByteArray.mk #[32, 105, 100, 32] = sb [32, 105, 100, 32] := rfl
theorem bLEAST : ByteArray.mk #[32, 108, 101, 97, 115, 116, 32] = sb [32, 108, 101, 97, 115, 116, 32] := rfl
theorem bNOW : ByteArray.mk #[32, 110, 111, 119] = sb [32, 110, 111, 119] := rfl
theorem bWHOLE : ByteArray.mk #[32, 119, 104, 111, 108, 101] = sb [32, 119, 104, 111, 108, 101] := rfl
theorem bLABEL : ByteArray.mk #[32, 108, 97, 98, 101, 108, 32] = sb [32, 108, 97, 98, 101, 108, 32] := rfl
theorem bCANCEL : ByteArray.mk #[99, 97, 110, 99, 101, 108, 32] = sb [99, 97, 110, 99, 101, 108, 32] := rfl
theorem bCUT : ByteArray.mk #[99, 117, 116, 32] = sb [99, 117, 116, 32] := rfl
theorem bCHANGE : ByteArray.mk #[99, 104, 97, 110, 103, 101, 32] = sb [99, 104, 97, 110, 103, 101, 32] := rfl

set_option maxHeartbeats 4000000 in
theorem vprnt (i : PcI) (h : prntC.cnd i) : Vprnt i := by
  obtain ⟨h1, h2, h3, h4⟩ : i.p.small ∧ i.p.code.length ≤ 1000 ∧ i.c.raw ∧ i.c.label.length ≤ 1000 := h
  obtain ⟨r1, r2, r3, r4, r5, r6, r7, r8⟩ := h3
  have hn := name_len i.p i.c.inst
  have d1 := digF_26 i.c.qty
  have d2 := digF_26 i.c.price
  have d3 := digF_26 i.c.id
  have d4 := digF_26 i.c.least
  unfold Vprnt
  simp only [bBUY, bSELL, b32, bAT, bID, bLEAST, bNOW, bWHOLE, bLABEL, sb_nil', ← sb_app, sb_size, i64max, eqB, List.length_append, List.length_cons, List.length_nil]
  refine Cv.cnd.mk (fun c1 => ?_) fun c1 => ?_
  all_goals
    refine ⟨by omega, ⟨i.p, i.c.inst⟩, rfl, rfl, rfl, rfl, rfl, rfl, rfl, rfl, rfl, rfl, rfl, rfl, h1, fun _ _ => ⟨by (first | exact rfl | exact trivial), by (first | exact rfl | exact trivial), by (first | exact rfl | exact trivial), by (first | omega | (dsimp only; omega)), by (first | omega | (dsimp only; omega)), i.c.qty, rfl, r6, fun _ _ => ⟨by (first | exact rfl | exact trivial), by (first | exact rfl | exact trivial), by (first | omega | (dsimp only; omega)), by (first | omega | (dsimp only; omega)), i.c.price, rfl, r5, fun _ _ => ⟨by (first | exact rfl | exact trivial), by (first | omega | (dsimp only; omega)), by (first | omega | (dsimp only; omega)), i.c.id, rfl, r2, fun _ _ => ⟨by (first | omega | (dsimp only; omega)), ?_⟩⟩⟩⟩⟩
    refine Cv.cnd.mk (fun c2 => ⟨i.c.least, rfl, r7, fun _ _ => ⟨by omega, by (first | omega | (dsimp only; omega)), Cv.cnd.mk (fun c3 => ⟨by (first | omega | (dsimp only; omega)), Cv.cnd.mk (fun c4 => ⟨by omega, by (first | omega | (dsimp only; omega)), (), ?_, trivial⟩) (fun c4 => ⟨(), ?_, trivial⟩)⟩) (fun c3 => Cv.cnd.mk (fun c5 => ⟨by (first | omega | (dsimp only; omega)), Cv.cnd.mk (fun c4 => ⟨by omega, by (first | omega | (dsimp only; omega)), (), ?_, trivial⟩) (fun c4 => ⟨(), ?_, trivial⟩)⟩) (fun c5 => Cv.cnd.mk (fun c4 => ⟨by omega, by (first | omega | (dsimp only; omega)), (), ?_, trivial⟩) (fun c4 => ⟨(), ?_, trivial⟩)))⟩⟩)
      (fun c2 => Cv.cnd.mk (fun c3 => ⟨by (first | omega | (dsimp only; omega)), Cv.cnd.mk (fun c4 => ⟨by omega, by (first | omega | (dsimp only; omega)), (), ?_, trivial⟩) (fun c4 => ⟨(), ?_, trivial⟩)⟩) (fun c3 => Cv.cnd.mk (fun c5 => ⟨by (first | omega | (dsimp only; omega)), Cv.cnd.mk (fun c4 => ⟨by omega, by (first | omega | (dsimp only; omega)), (), ?_, trivial⟩) (fun c4 => ⟨(), ?_, trivial⟩)⟩) (fun c5 => Cv.cnd.mk (fun c4 => ⟨by omega, by (first | omega | (dsimp only; omega)), (), ?_, trivial⟩) (fun c4 => ⟨(), ?_, trivial⟩))))
  all_goals
    clear hn d1 d2 d3 d4 h1 h2 h4 r1 r2 r3 r4 r5 r6 r7 r8
    simp only [beq_iff_eq, beq_eq_false_iff_ne, ne_eq, bne_iff_ne, bne_eq_false_iff_eq, Bool.not_eq_true', Bool.not_eq_false', decide_eq_true_eq, decide_eq_false_iff_not, Decidable.not_not] at *
    refine congrArg sb ?_
    simp [nwW, NewW.ws, nwO, oWords, sepL, sepW, oLeast, oTime, oLabel, pBUY, pSELL, pAT, pID, pLEAST, pNOW, pWHOLE, pLABEL, *]
theorem prnt_ok : prntC.ok Tryd.prog 26 := byprnt (gokc name_ok (gokc digs_ok gok0)) vprnt

theorem beqSb (a b : List UInt8) : (sb a == sb b) = decide (a = b) := by
  have e : (sb a == sb b) = (a.toArray == b.toArray) := rfl
  rw [e]
  by_cases h : a = b
  · subst h; simp
  · rw [decide_eq_false h]
    simpa using h
theorem cmd_ne (a b : Cmd) : (!(a.kind == b.kind && (a.id == b.id && (a.inst == b.inst && (a.side == b.side && (a.price == b.price && (a.qty == b.qty && (a.least == b.least && (a.time == b.time && (sb a.label == sb b.label && true)))))))))) = !decide (a = b) := by
  rw [beqSb]
  by_cases h : a = b
  · subst h; simp
  · rw [decide_eq_false h]
    cases hb : (a.kind == b.kind && (a.id == b.id && (a.inst == b.inst && (a.side == b.side && (a.price == b.price && (a.qty == b.qty && (a.least == b.least && (a.time == b.time && (decide (a.label = b.label) && true))))))))) with
    | false => rfl
    | true =>
      exfalso
      simp only [Bool.and_eq_true, beq_iff_eq, decide_eq_true_eq] at hb
      obtain ⟨q1, q2, q3, q4, q5, q6, q7, q8, q9, _⟩ := hb
      apply h
      cases a; cases b
      simp only [Cmd.mk.injEq]
      exact ⟨q1, q2, q3, q4, q5, q6, q7, q8, q9⟩
theorem line_len (p : Prd) (c : Cmd) : (lineF p c).length ≤ 2 * p.code.length + c.label.length + 400 := by
  have hn := name_len p c.inst
  have d1 := digF_26 c.qty
  have d2 := digF_26 c.price
  have d3 := digF_26 c.id
  have d4 := digF_26 c.least
  unfold lineF lineW
  split
  · unfold nwO nwW
    by_cases a : c.least = 0 <;> by_cases b : c.time = 2 <;> by_cases b2 : c.time = 3 <;> by_cases d : c.label = [] <;> by_cases e : c.side = 2 <;> simp [NewW.ws, oWords, sepL, sepW, oLeast, oTime, oLabel, pBUY, pSELL, pAT, pID, pLEAST, pNOW, pWHOLE, pLABEL, a, b, b2, d, e] <;> omega
  split
  · simp [sepL, sepW, pCANCEL]; omega
  split
  · simp [sepL, sepW, pCUT]; omega
  · simp [sepL, sepW, pCHANGE]; omega

set_option maxHeartbeats 4000000 in
theorem vprint (i : PcI) (h : printC.cnd i) : Vprint i := by
  obtain ⟨h1, h2, h3, h4⟩ : i.p.small ∧ i.p.code.length ≤ 1000 ∧ i.c.raw ∧ i.c.label.length ≤ 1000 := h
  have h3' := h3
  obtain ⟨r1, r2, r3, r4, r5, r6, r7, r8⟩ := h3
  have d1 := digF_26 i.c.qty
  have d2 := digF_26 i.c.price
  have d3 := digF_26 i.c.id
  have hl := line_len i.p i.c
  have hL : (lineF i.p i.c).length ≤ 1048576 := by omega
  have hp : printF i.p i.c = if i.c.right ≠ 0 then [] else if (parseF i.p (lineF i.p i.c)).2.1 ≠ 0 ∨ (parseF i.p (lineF i.p i.c)).1 ≠ i.c.ask then [] else lineF i.p i.c := rfl
  unfold Vprint
  simp only [bCANCEL, bCUT, bCHANGE, b32, sb_nil', ← sb_app, sb_size, i64max, List.length_append, List.length_cons, List.length_nil, cmd_ne]
  generalize printF i.p i.c = F at hp ⊢
  refine ⟨i.c, rfl, rfl, rfl, rfl, rfl, rfl, rfl, rfl, rfl, by omega, fun _ _ => Cv.cnd.mk (fun c => ⟨(), ?_, trivial⟩) fun c => ?_⟩
  · have c : i.c.right ≠ 0 := by simpa using c
    rw [hp, if_pos c]
  have c : ¬ i.c.right ≠ 0 := by simpa using c
  rw [if_neg c] at hp
  refine Cv.cnd.mk (fun k => ?_) fun k => Cv.cnd.mk (fun k2 => ?_) fun k2 => Cv.cnd.mk (fun k3 => ?_) fun k3 => ?_
  all_goals simp only [beq_iff_eq, beq_eq_false_iff_ne, ne_eq] at k
  · have e : lineF i.p i.c = sepL ((nwW i.p i.c).ws ++ oWords (nwO i.c)) := by rw [lineF, lineW, if_pos k]
    refine ⟨i, rfl, rfl, rfl, rfl, rfl, rfl, rfl, rfl, rfl, rfl, rfl, rfl, rfl, rfl, rfl, rfl, rfl, rfl, rfl, rfl, ⟨h1, h2, h3', h4⟩, fun _ _ => ?_⟩
    rw [← e]
    generalize lineF i.p i.c = L at hp hL ⊢
    clear e hl d1 d2 d3
    refine ⟨⟨i.p, L⟩, rfl, rfl, rfl, rfl, rfl, rfl, rfl, rfl, rfl, rfl, rfl, rfl, ⟨h1, hL⟩, fun _ _ => ?_⟩
    dsimp only
    generalize parseF i.p L = R at hp ⊢
    refine Cv.cnd.mk (fun d => ⟨(), ?_, trivial⟩) fun d => ⟨i.c, rfl, rfl, rfl, rfl, rfl, rfl, rfl, rfl, rfl, trivial, fun _ _ => ⟨by (repeat' (first | exact rfl | exact trivial | assumption | apply And.intro | (refine fun (_ : Unit) (_ : True) => ?_) | (refine Exists.intro () ?_) | omega | (dsimp only; omega))), Cv.cnd.mk (fun f => ⟨(), ?_, trivial⟩) fun f => ⟨(), ?_, trivial⟩⟩⟩
    · rw [hp, if_pos (.inl (by simpa using d))]
    · rw [hp, if_pos (.inr (by simpa using f))]
    · rw [hp, if_neg]
      rintro (g | g)
      · exact g (by simpa using d)
      · exact g (by simpa using f)
  · simp only [beq_iff_eq, beq_eq_false_iff_ne, ne_eq] at k2
    have e : lineF i.p i.c = [99, 97, 110, 99, 101, 108, 32] ++ digF i.c.id := by
      rw [lineF, lineW, if_neg k, if_pos k2]; simp [sepL, sepW, pCANCEL]
    refine ⟨i.c.id, rfl, r2, fun _ _ => ⟨by omega, ?_⟩⟩
    rw [← e]
    generalize lineF i.p i.c = L at hp hL ⊢
    clear e hl d1 d2 d3
    refine ⟨⟨i.p, L⟩, rfl, rfl, rfl, rfl, rfl, rfl, rfl, rfl, rfl, rfl, rfl, rfl, ⟨h1, hL⟩, fun _ _ => ?_⟩
    dsimp only
    generalize parseF i.p L = R at hp ⊢
    refine Cv.cnd.mk (fun d => ⟨(), ?_, trivial⟩) fun d => ⟨i.c, rfl, rfl, rfl, rfl, rfl, rfl, rfl, rfl, rfl, trivial, fun _ _ => ⟨by (repeat' (first | exact rfl | exact trivial | assumption | apply And.intro | (refine fun (_ : Unit) (_ : True) => ?_) | (refine Exists.intro () ?_) | omega | (dsimp only; omega))), Cv.cnd.mk (fun f => ⟨(), ?_, trivial⟩) fun f => ⟨(), ?_, trivial⟩⟩⟩
    · rw [hp, if_pos (.inl (by simpa using d))]
    · rw [hp, if_pos (.inr (by simpa using f))]
    · rw [hp, if_neg]
      rintro (g | g)
      · exact g (by simpa using d)
      · exact g (by simpa using f)
  · simp only [beq_iff_eq, beq_eq_false_iff_ne, ne_eq] at k2 k3
    have e : lineF i.p i.c = [99, 117, 116, 32] ++ digF i.c.id ++ [32] ++ digF i.c.qty := by
      rw [lineF, lineW, if_neg k, if_neg k2, if_pos k3]; simp [sepL, sepW, pCUT]
    refine ⟨i.c.id, rfl, r2, fun _ _ => ⟨by (first | exact rfl | exact trivial), by omega, by omega, i.c.qty, rfl, r6, fun _ _ => ⟨by (first | omega | (dsimp only; omega)), ?_⟩⟩⟩
    rw [← e]
    generalize lineF i.p i.c = L at hp hL ⊢
    clear e hl d1 d2 d3
    refine ⟨⟨i.p, L⟩, rfl, rfl, rfl, rfl, rfl, rfl, rfl, rfl, rfl, rfl, rfl, rfl, ⟨h1, hL⟩, fun _ _ => ?_⟩
    dsimp only
    generalize parseF i.p L = R at hp ⊢
    refine Cv.cnd.mk (fun d => ⟨(), ?_, trivial⟩) fun d => ⟨i.c, rfl, rfl, rfl, rfl, rfl, rfl, rfl, rfl, rfl, trivial, fun _ _ => ⟨by (repeat' (first | exact rfl | exact trivial | assumption | apply And.intro | (refine fun (_ : Unit) (_ : True) => ?_) | (refine Exists.intro () ?_) | omega | (dsimp only; omega))), Cv.cnd.mk (fun f => ⟨(), ?_, trivial⟩) fun f => ⟨(), ?_, trivial⟩⟩⟩
    · rw [hp, if_pos (.inl (by simpa using d))]
    · rw [hp, if_pos (.inr (by simpa using f))]
    · rw [hp, if_neg]
      rintro (g | g)
      · exact g (by simpa using d)
      · exact g (by simpa using f)
  · simp only [beq_iff_eq, beq_eq_false_iff_ne, ne_eq] at k2 k3
    have e : lineF i.p i.c = [99, 104, 97, 110, 103, 101, 32] ++ digF i.c.id ++ [32] ++ digF i.c.price ++ [32] ++ digF i.c.qty := by
      rw [lineF, lineW, if_neg k, if_neg k2, if_neg k3]; simp [sepL, sepW, pCHANGE]
    refine ⟨i.c.id, rfl, r2, fun _ _ => ⟨by (first | exact rfl | exact trivial), by (first | exact rfl | exact trivial), by omega, by omega, i.c.price, rfl, r5, fun _ _ => ⟨by (first | exact rfl | exact trivial), by (first | omega | (dsimp only; omega)), by (first | omega | (dsimp only; omega)), i.c.qty, rfl, r6, fun _ _ => ⟨by (first | omega | (dsimp only; omega)), ?_⟩⟩⟩⟩
    rw [← e]
    generalize lineF i.p i.c = L at hp hL ⊢
    clear e hl d1 d2 d3
    refine ⟨⟨i.p, L⟩, rfl, rfl, rfl, rfl, rfl, rfl, rfl, rfl, rfl, rfl, rfl, rfl, ⟨h1, hL⟩, fun _ _ => ?_⟩
    dsimp only
    generalize parseF i.p L = R at hp ⊢
    refine Cv.cnd.mk (fun d => ⟨(), ?_, trivial⟩) fun d => ⟨i.c, rfl, rfl, rfl, rfl, rfl, rfl, rfl, rfl, rfl, trivial, fun _ _ => ⟨by (repeat' (first | exact rfl | exact trivial | assumption | apply And.intro | (refine fun (_ : Unit) (_ : True) => ?_) | (refine Exists.intro () ?_) | omega | (dsimp only; omega))), Cv.cnd.mk (fun f => ⟨(), ?_, trivial⟩) fun f => ⟨(), ?_, trivial⟩⟩⟩
    · rw [hp, if_pos (.inl (by simpa using d))]
    · rw [hp, if_pos (.inr (by simpa using f))]
    · rw [hp, if_neg]
      rintro (g | g)
      · exact g (by simpa using d)
      · exact g (by simpa using f)
theorem print_okC : printC.ok Tryd.prog 16 := byprint (gokc right_ok (gokc prnt_ok (gokc digs_ok (gokc parse_ok (gokc ask_ok gok0))))) vprint

end Sx

namespace Sx
set_option linter.unusedVariables false
set_option maxRecDepth 100000
open Go Cv Go.Proofs

structure CbI where
  x : Prd
  c : Cmd
  blanks : Int
def cbD (i : CbI) : Cmd := { tame ⟨kprod i.x, i.c, 3⟩ with label := headF i.c.label 60 }
def cbS (i : CbI) : List UInt8 := printF (kprod i.x) (cbD i)
def cbW (i : CbI) : List (List UInt8) := wordsL (cbS i)
def cbN (i : CbI) : Nat := (within i.blanks 0 5).toNat
/-- A word as it comes again. -/
def cbOne (i : CbI) (k : Nat) : List UInt8 := if k + 1 < (cbW i).length ∨ (cbD i).label = [] then foldF ((cbW i).getD k []) else (cbW i).getD k []
def cbT (i : CbI) (k : Nat) : List UInt8 := ((List.range k).map fun j => List.replicate (cbN i + 1) 32 ++ cbOne i j).flatten
def cbackC : Con := con1 CbI (fun i => [prdV i.x, cmdV i.c, i64V i.blanks]) (fun _ => []) (fun i => i.x.raw ∧ i.c.raw ∧ i64r i.blanks ∧ i.c.label.length ≤ 9223372036854775807) (fun _ => boolV true) (fun _ => [])
def cbackA (i : CbI) : List SAnn := [{ ι := Nat, slots := fun k => [(18, sV (cbT i k)), (19, i64V k)], rows := fun _ => [] }]
def cbackJ : List (Nat × SAnn) := [(26, { ι := Unit, slots := fun _ => [], rows := fun _ => [] })]

end Sx

namespace Sx
set_option linter.unusedVariables false
set_option maxRecDepth 100000
open Go Cv Go.Proofs
@[reducible] def Vcbackr0 (i_2 : TmI) (i_3 : HdI) (n : Int) (s : ByteArray) : AObj := Sx.AObj.cells [V.d (D.v (.int .i64 (tame i_2).kind)), V.d (D.v (.int .i64 (tame i_2).id)), V.d (D.v (.int .i64 (tame i_2).inst)), V.d (D.v (.int .i64 (tame i_2).side)), V.d (D.v (.int .i64 (tame i_2).price)), V.d (D.v (.int .i64 (tame i_2).qty)), V.d (D.v (.int .i64 (tame i_2).least)), V.d (D.v (.int .i64 (tame i_2).time)), V.d (D.v (Value.string (sb (headF i_3.s i_3.n))))] (39 : Nat)
@[reducible] def Vcbackr1 (i_1 : Prd) : AObj := Sx.AObj.cells [V.d (D.v (Value.string (sb [(206 : UInt8), (169 : UInt8)]))), V.own ((0 : Nat) + (1 : Nat) + (1 : Nat) + (1 : Nat) + (1 : Nat) + ((0 : Nat) - (0 : Nat)) + (1 : Nat)), V.d (D.v (.int .i64 (kTick i_1))), V.d (D.v (.int .i64 ((-20 : Int) * kTick i_1))), V.d (D.v (.int .i64 ((100 : Int) * kTick i_1))), V.d (D.v (.int .i64 (kTick i_1 * ((5 : Int) + within i_1.wide (0 : Int) (60 : Int))))), V.d (D.v (.int .i64 ((1 : Int) + within i_1.rule (0 : Int) (2 : Int)))), V.d (D.v (.int .i64 (within i_1.top (0 : Int) (9 : Int)))), V.d (D.v (.int .i64 ((1 : Int) + within i_1.least (0 : Int) (4 : Int)))), V.d (D.v (.int .i64 (within i_1.part (0 : Int) (100 : Int)))), V.own ((0 : Nat) + (1 : Nat) + (1 : Nat) + (1 : Nat) + (1 : Nat) + ((0 : Nat) - (0 : Nat)) + (1 : Nat) + (1 : Nat))] (37 : Nat)
@[reducible] def Vcbackr2 (i : CbI) : AObj := Sx.AObj.cells [V.d (D.v (.int .i64 i.c.kind)), V.d (D.v (.int .i64 i.c.id)), V.d (D.v (.int .i64 i.c.inst)), V.d (D.v (.int .i64 i.c.side)), V.d (D.v (.int .i64 i.c.price)), V.d (D.v (.int .i64 i.c.qty)), V.d (D.v (.int .i64 i.c.least)), V.d (D.v (.int .i64 i.c.time)), V.d (D.v (Value.string (sb i.c.label)))] (39 : Nat)
@[reducible] def Vcbackr3 (i : CbI) : AObj := Sx.AObj.cells [V.d (D.v (Value.string (sb i.x.code))), V.own (0 : Nat), V.d (D.v (.int .i64 i.x.tick)), V.d (D.v (.int .i64 i.x.low)), V.d (D.v (.int .i64 i.x.high)), V.d (D.v (.int .i64 i.x.wide)), V.d (D.v (.int .i64 i.x.rule)), V.d (D.v (.int .i64 i.x.top)), V.d (D.v (.int .i64 i.x.least)), V.d (D.v (.int .i64 i.x.part)), V.own ((0 : Nat) + (1 : Nat))] (37 : Nat)
@[reducible] def Vcbackr4 (i_2 : TmI) (i_3 : HdI) : AObj := Sx.AObj.cells [V.d (D.v (.int .i64 (tame i_2).kind)), V.d (D.v (.int .i64 (tame i_2).id)), V.d (D.v (.int .i64 (tame i_2).inst)), V.d (D.v (.int .i64 (tame i_2).side)), V.d (D.v (.int .i64 (tame i_2).price)), V.d (D.v (.int .i64 (tame i_2).qty)), V.d (D.v (.int .i64 (tame i_2).least)), V.d (D.v (.int .i64 (tame i_2).time)), V.d (D.v (Value.string (sb (headF i_3.s i_3.n))))] (39 : Nat)
@[reducible] def Vcbackr5 (i_8 : FndI) (s : ByteArray) : AObj := Sx.AObj.cells [V.d (D.v (.int .i64 (parseF i_8.p i_8.s).fst.kind)), V.d (D.v (.int .i64 (parseF i_8.p i_8.s).fst.id)), V.d (D.v (.int .i64 (parseF i_8.p i_8.s).fst.inst)), V.d (D.v (.int .i64 (parseF i_8.p i_8.s).fst.side)), V.d (D.v (.int .i64 (parseF i_8.p i_8.s).fst.price)), V.d (D.v (.int .i64 (parseF i_8.p i_8.s).fst.qty)), V.d (D.v (.int .i64 (parseF i_8.p i_8.s).fst.least)), V.d (D.v (.int .i64 (parseF i_8.p i_8.s).fst.time)), V.d (D.v (Value.string (sb (parseF i_8.p i_8.s).fst.label)))] (39 : Nat)
@[reducible] def Vcbackr6 (i_7 : Cmd) : AObj := Sx.AObj.cells [V.d (D.v (.int .i64 i_7.ask.kind)), V.d (D.v (.int .i64 i_7.ask.id)), V.d (D.v (.int .i64 i_7.ask.inst)), V.d (D.v (.int .i64 i_7.ask.side)), V.d (D.v (.int .i64 i_7.ask.price)), V.d (D.v (.int .i64 i_7.ask.qty)), V.d (D.v (.int .i64 i_7.ask.least)), V.d (D.v (.int .i64 i_7.ask.time)), V.d (D.v (Value.string (sb i_7.ask.label)))] (39 : Nat)
@[reducible] def Vcbackr7 (i_2 : TmI) (i_3 : HdI) (s : ByteArray) : AObj := Sx.AObj.cells [V.d (D.v (.int .i64 (tame i_2).kind)), V.d (D.v (.int .i64 (tame i_2).id)), V.d (D.v (.int .i64 (tame i_2).inst)), V.d (D.v (.int .i64 (tame i_2).side)), V.d (D.v (.int .i64 (tame i_2).price)), V.d (D.v (.int .i64 (tame i_2).qty)), V.d (D.v (.int .i64 (tame i_2).least)), V.d (D.v (.int .i64 (tame i_2).time)), V.d (D.v (Value.string (sb (headF i_3.s i_3.n))))] (39 : Nat)
def Vcback (i : CbI) : Prop :=
  ∃ (i_1 : Prd), sb i_1.code = sb i.x.code ∧ iE i_1.months = iE i.x.months ∧ i_1.tick = i.x.tick ∧ i_1.low = i.x.low ∧ i_1.high = i.x.high ∧ i_1.wide = i.x.wide ∧ i_1.rule = i.x.rule ∧ i_1.top = i.x.top ∧ i_1.least = i.x.least ∧ i_1.part = i.x.part ∧ iE i_1.settle = iE i.x.settle ∧ (((-9223372036854775808 : Int) ≤ i_1.tick ∧ i_1.tick ≤ (9223372036854775807 : Int)) ∧ ((-9223372036854775808 : Int) ≤ i_1.wide ∧ i_1.wide ≤ (9223372036854775807 : Int)) ∧ ((-9223372036854775808 : Int) ≤ i_1.rule ∧ i_1.rule ≤ (9223372036854775807 : Int)) ∧ ((-9223372036854775808 : Int) ≤ i_1.top ∧ i_1.top ≤ (9223372036854775807 : Int)) ∧ ((-9223372036854775808 : Int) ≤ i_1.least ∧ i_1.least ≤ (9223372036854775807 : Int)) ∧ ((-9223372036854775808 : Int) ≤ i_1.part ∧ i_1.part ≤ (9223372036854775807 : Int)) ∧ i_1.months.length ≤ (9223372036854775807 : Nat)) ∧ ∀ (o : Unit), True → ∃ (i_2 : TmI), sb i_2.p.code = sb [(206 : UInt8), (169 : UInt8)] ∧ iE i_2.p.months = iE (kMonths (kN i_1).toNat) ∧ i_2.p.tick = kTick i_1 ∧ i_2.p.low = (-20 : Int) * kTick i_1 ∧ i_2.p.high = (100 : Int) * kTick i_1 ∧ i_2.p.wide = kTick i_1 * ((5 : Int) + within i_1.wide (0 : Int) (60 : Int)) ∧ i_2.p.rule = (1 : Int) + within i_1.rule (0 : Int) (2 : Int) ∧ i_2.p.top = within i_1.top (0 : Int) (9 : Int) ∧ i_2.p.least = (1 : Int) + within i_1.least (0 : Int) (4 : Int) ∧ i_2.p.part = within i_1.part (0 : Int) (100 : Int) ∧ iE i_2.p.settle = iE (kSettle (kTick i_1) (kN i_1).toNat) ∧ i_2.c.kind = i.c.kind ∧ i_2.c.id = i.c.id ∧ i_2.c.inst = i.c.inst ∧ i_2.c.side = i.c.side ∧ i_2.c.price = i.c.price ∧ i_2.c.qty = i.c.qty ∧ i_2.c.least = i.c.least ∧ i_2.c.time = i.c.time ∧ sb i_2.c.label = sb i.c.label ∧ i_2.i = (3 : Int) ∧ (i_2.p.check = (0 : Int) ∧ (i_2.p.code.length ≤ (1099511627776 : Nat) ∧ i_2.p.months.length ≤ (1099511627776 : Nat) ∧ i_2.p.settle.length ≤ (1099511627776 : Nat)) ∧ (((-9223372036854775808 : Int) ≤ i_2.c.kind ∧ i_2.c.kind ≤ (9223372036854775807 : Int)) ∧ ((-9223372036854775808 : Int) ≤ i_2.c.id ∧ i_2.c.id ≤ (9223372036854775807 : Int)) ∧ ((-9223372036854775808 : Int) ≤ i_2.c.inst ∧ i_2.c.inst ≤ (9223372036854775807 : Int)) ∧ ((-9223372036854775808 : Int) ≤ i_2.c.side ∧ i_2.c.side ≤ (9223372036854775807 : Int)) ∧ ((-9223372036854775808 : Int) ≤ i_2.c.price ∧ i_2.c.price ≤ (9223372036854775807 : Int)) ∧ ((-9223372036854775808 : Int) ≤ i_2.c.qty ∧ i_2.c.qty ≤ (9223372036854775807 : Int)) ∧ ((-9223372036854775808 : Int) ≤ i_2.c.least ∧ i_2.c.least ≤ (9223372036854775807 : Int)) ∧ (-9223372036854775808 : Int) ≤ i_2.c.time ∧ i_2.c.time ≤ (9223372036854775807 : Int)) ∧ (0 : Int) ≤ i_2.i ∧ i_2.i ≤ (1000000 : Int)) ∧ ∀ (o : Unit), True → ∃ (i_3 : HdI), sb i_3.s = sb i.c.label ∧ i_3.n = (60 : Int) ∧ ((0 : Int) ≤ i_3.n ∧ i_3.n ≤ (1000000 : Int) ∧ i_3.s.length ≤ (9223372036854775807 : Nat)) ∧ ∀ (o : Unit), True → ∃ (i_4 : PcI), sb i_4.p.code = sb [(206 : UInt8), (169 : UInt8)] ∧ iE i_4.p.months = iE (kMonths (kN i_1).toNat) ∧ i_4.p.tick = kTick i_1 ∧ i_4.p.low = (-20 : Int) * kTick i_1 ∧ i_4.p.high = (100 : Int) * kTick i_1 ∧ i_4.p.wide = kTick i_1 * ((5 : Int) + within i_1.wide (0 : Int) (60 : Int)) ∧ i_4.p.rule = (1 : Int) + within i_1.rule (0 : Int) (2 : Int) ∧ i_4.p.top = within i_1.top (0 : Int) (9 : Int) ∧ i_4.p.least = (1 : Int) + within i_1.least (0 : Int) (4 : Int) ∧ i_4.p.part = within i_1.part (0 : Int) (100 : Int) ∧ iE i_4.p.settle = iE (kSettle (kTick i_1) (kN i_1).toNat) ∧ i_4.c.kind = (tame i_2).kind ∧ i_4.c.id = (tame i_2).id ∧ i_4.c.inst = (tame i_2).inst ∧ i_4.c.side = (tame i_2).side ∧ i_4.c.price = (tame i_2).price ∧ i_4.c.qty = (tame i_2).qty ∧ i_4.c.least = (tame i_2).least ∧ i_4.c.time = (tame i_2).time ∧ sb i_4.c.label = sb (headF i_3.s i_3.n) ∧ ((i_4.p.code.length ≤ (1099511627776 : Nat) ∧ i_4.p.months.length ≤ (1099511627776 : Nat) ∧ i_4.p.settle.length ≤ (1099511627776 : Nat)) ∧ i_4.p.code.length ≤ (1000 : Nat) ∧ (((-9223372036854775808 : Int) ≤ i_4.c.kind ∧ i_4.c.kind ≤ (9223372036854775807 : Int)) ∧ ((-9223372036854775808 : Int) ≤ i_4.c.id ∧ i_4.c.id ≤ (9223372036854775807 : Int)) ∧ ((-9223372036854775808 : Int) ≤ i_4.c.inst ∧ i_4.c.inst ≤ (9223372036854775807 : Int)) ∧ ((-9223372036854775808 : Int) ≤ i_4.c.side ∧ i_4.c.side ≤ (9223372036854775807 : Int)) ∧ ((-9223372036854775808 : Int) ≤ i_4.c.price ∧ i_4.c.price ≤ (9223372036854775807 : Int)) ∧ ((-9223372036854775808 : Int) ≤ i_4.c.qty ∧ i_4.c.qty ≤ (9223372036854775807 : Int)) ∧ ((-9223372036854775808 : Int) ≤ i_4.c.least ∧ i_4.c.least ≤ (9223372036854775807 : Int)) ∧ (-9223372036854775808 : Int) ≤ i_4.c.time ∧ i_4.c.time ≤ (9223372036854775807 : Int)) ∧ i_4.c.label.length ≤ (1000 : Nat)) ∧ ∀ (o : Unit), True → ∃ (i_5 : List UInt8), sb i_5 = sb (headF i_3.s i_3.n) ∧ i_5.length ≤ (1048576 : Nat) ∧ ∀ (o : Unit), True → ∃ (i0 : Unit), ∃ (I : Unit → Prop), cnd ((tame i_2).kind == (1 : Int)) (cnd (!(sb (headF i_3.s i_3.n)).toList == (ByteArray.mk #[]).toList) (∃ (i_6 : List UInt8), sb i_6 = sb (headF i_3.s i_3.n) ∧ i_6.length ≤ (1099511627776 : Nat) ∧ ∀ (o : Unit), True → cnd (!labOk i_6) (cnd ((sb (printF i_4.p i_4.c)).toList == (ByteArray.mk #[]).toList) (∃ (i : Unit), True ∧ ∀ (o : Unit), True → ∃ (o : Unit), true = true ∧ True) (∃ (o : Unit), true = false ∧ True)) (cnd ((↑(tE (wordsL i_5)).length : Int) != (1 : Int)) (cnd ((sb (printF i_4.p i_4.c)).toList == (ByteArray.mk #[]).toList) (∃ (i : Unit), True ∧ ∀ (o : Unit), True → ∃ (o : Unit), true = true ∧ True) (∃ (o : Unit), true = false ∧ True)) (((0 : Int) ≤ (0 : Int) ∧ (0 : Int) < (↑(iE (wordsA i_5)).length : Int)) ∧ ∃ (n : Int), elPart (iE (wordsA i_5)) (Int.toNat (0 : Int)) (0 : Nat) (1 : Nat) = some [D.v (.int .i64 n)] ∧ cnd (n != (0 : Int)) (cnd ((sb (printF i_4.p i_4.c)).toList == (ByteArray.mk #[]).toList) (∃ (i : Unit), True ∧ ∀ (o : Unit), True → ∃ (o : Unit), true = true ∧ True) (∃ (o : Unit), true = false ∧ True)) (((0 : Int) ≤ (0 : Int) ∧ (0 : Int) < (↑(tE (wordsL i_5)).length : Int)) ∧ ∃ (s : ByteArray), elPart (tE (wordsL i_5)) (Int.toNat (0 : Int)) (0 : Nat) (1 : Nat) = some [D.v (Value.string s)] ∧ cnd (!s.toList == (sb (headF i_3.s i_3.n)).toList) (cnd ((sb (printF i_4.p i_4.c)).toList == (ByteArray.mk #[]).toList) (∃ (i : Unit), True ∧ ∀ (o : Unit), True → ∃ (o : Unit), true = true ∧ True) (∃ (o : Unit), true = false ∧ True)) (∃ (i' : Unit), I i' ∧ Vcbackr0 i_2 i_3 n s = Vcbackr0 i_2 i_3 n s ∧ AObj.fro (1 : Nat) (iE (kSettle (kTick i_1) (kN i_1).toNat)) = AObj.fro (1 : Nat) (iE (kSettle (kTick i_1) (kN i_1).toNat)) ∧ AObj.fro (1 : Nat) (iE (kMonths (kN i_1).toNat)) = AObj.fro (1 : Nat) (iE (kMonths (kN i_1).toNat)) ∧ Vcbackr1 i_1 = Vcbackr1 i_1 ∧ Vcbackr2 i = Vcbackr2 i ∧ Vcbackr3 i = Vcbackr3 i ∧ AObj.fro (1 : Nat) (iE i.x.settle) = AObj.fro (1 : Nat) (iE i.x.settle) ∧ AObj.fro (1 : Nat) (iE i.x.months) = AObj.fro (1 : Nat) (iE i.x.months)))))) (∃ (i' : Unit), I i' ∧ Vcbackr4 i_2 i_3 = Vcbackr4 i_2 i_3 ∧ AObj.fro (1 : Nat) (iE (kSettle (kTick i_1) (kN i_1).toNat)) = AObj.fro (1 : Nat) (iE (kSettle (kTick i_1) (kN i_1).toNat)) ∧ AObj.fro (1 : Nat) (iE (kMonths (kN i_1).toNat)) = AObj.fro (1 : Nat) (iE (kMonths (kN i_1).toNat)) ∧ Vcbackr1 i_1 = Vcbackr1 i_1 ∧ Vcbackr2 i = Vcbackr2 i ∧ Vcbackr3 i = Vcbackr3 i ∧ AObj.fro (1 : Nat) (iE i.x.settle) = AObj.fro (1 : Nat) (iE i.x.settle) ∧ AObj.fro (1 : Nat) (iE i.x.months) = AObj.fro (1 : Nat) (iE i.x.months))) (∃ (i' : Unit), I i' ∧ Vcbackr4 i_2 i_3 = Vcbackr4 i_2 i_3 ∧ AObj.fro (1 : Nat) (iE (kSettle (kTick i_1) (kN i_1).toNat)) = AObj.fro (1 : Nat) (iE (kSettle (kTick i_1) (kN i_1).toNat)) ∧ AObj.fro (1 : Nat) (iE (kMonths (kN i_1).toNat)) = AObj.fro (1 : Nat) (iE (kMonths (kN i_1).toNat)) ∧ Vcbackr1 i_1 = Vcbackr1 i_1 ∧ Vcbackr2 i = Vcbackr2 i ∧ Vcbackr3 i = Vcbackr3 i ∧ AObj.fro (1 : Nat) (iE i.x.settle) = AObj.fro (1 : Nat) (iE i.x.settle) ∧ AObj.fro (1 : Nat) (iE i.x.months) = AObj.fro (1 : Nat) (iE i.x.months)) ∧ ∀ (i_6 : Unit), I i_6 → ∃ (i_7 : Cmd), i_7.kind = (tame i_2).kind ∧ i_7.id = (tame i_2).id ∧ i_7.inst = (tame i_2).inst ∧ i_7.side = (tame i_2).side ∧ i_7.price = (tame i_2).price ∧ i_7.qty = (tame i_2).qty ∧ i_7.least = (tame i_2).least ∧ i_7.time = (tame i_2).time ∧ sb i_7.label = sb (headF i_3.s i_3.n) ∧ True ∧ ∀ (o : Unit), True → ∃ (i_8 : FndI), sb i_8.p.code = sb [(206 : UInt8), (169 : UInt8)] ∧ iE i_8.p.months = iE (kMonths (kN i_1).toNat) ∧ i_8.p.tick = kTick i_1 ∧ i_8.p.low = (-20 : Int) * kTick i_1 ∧ i_8.p.high = (100 : Int) * kTick i_1 ∧ i_8.p.wide = kTick i_1 * ((5 : Int) + within i_1.wide (0 : Int) (60 : Int)) ∧ i_8.p.rule = (1 : Int) + within i_1.rule (0 : Int) (2 : Int) ∧ i_8.p.top = within i_1.top (0 : Int) (9 : Int) ∧ i_8.p.least = (1 : Int) + within i_1.least (0 : Int) (4 : Int) ∧ i_8.p.part = within i_1.part (0 : Int) (100 : Int) ∧ iE i_8.p.settle = iE (kSettle (kTick i_1) (kN i_1).toNat) ∧ sb i_8.s = sb (printF i_4.p i_4.c) ∧ ((i_8.p.code.length ≤ (1099511627776 : Nat) ∧ i_8.p.months.length ≤ (1099511627776 : Nat) ∧ i_8.p.settle.length ≤ (1099511627776 : Nat)) ∧ i_8.s.length ≤ (1048576 : Nat)) ∧ ∀ (o : Unit), True → cnd ((sb (printF i_4.p i_4.c)).toList == (ByteArray.mk #[]).toList) (∃ (o : Unit), true = false ∧ True) (cnd ((parseF i_8.p i_8.s).snd.fst != (0 : Int)) (∃ (o : Unit), true = false ∧ True) (cnd (!((parseF i_8.p i_8.s).fst.kind == i_7.ask.kind && ((parseF i_8.p i_8.s).fst.id == i_7.ask.id && ((parseF i_8.p i_8.s).fst.inst == i_7.ask.inst && ((parseF i_8.p i_8.s).fst.side == i_7.ask.side && ((parseF i_8.p i_8.s).fst.price == i_7.ask.price && ((parseF i_8.p i_8.s).fst.qty == i_7.ask.qty && ((parseF i_8.p i_8.s).fst.least == i_7.ask.least && ((parseF i_8.p i_8.s).fst.time == i_7.ask.time && (sb (parseF i_8.p i_8.s).fst.label == sb i_7.ask.label && true)))))))))) (∃ (o : Unit), true = false ∧ True) (∃ (i_9 : List UInt8), sb i_9 = sb (printF i_4.p i_4.c) ∧ i_9.length ≤ (1048576 : Nat) ∧ ∀ (o : Unit), True → ∃ (i0 : Nat), sb (cbT i i0) = ByteArray.mk #[] ∧ (↑i0 : Int) = (0 : Int) ∧ ∃ (I : Nat → Prop), ∃ (μ : Nat → Nat), I i0 ∧ ∀ (i_10 : Nat), I i_10 → cnd (decide ((↑i_10 : Int) < (↑(tE (wordsL i_9)).length : Int))) (∃ (i_11 : WiI), i_11.n = i.blanks ∧ i_11.lo = (0 : Int) ∧ i_11.hi = (5 : Int) ∧ (((-9223372036854775808 : Int) ≤ i_11.n ∧ i_11.n ≤ (9223372036854775807 : Int)) ∧ (-1000000 : Int) ≤ i_11.lo ∧ i_11.lo ≤ i_11.hi ∧ i_11.hi ≤ (1000000 : Int)) ∧ ∀ (o : Unit), True → ∃ (i_12 : HdI), sb i_12.s = ByteArray.mk #[(32 : UInt8), (32 : UInt8), (32 : UInt8), (32 : UInt8), (32 : UInt8), (32 : UInt8), (32 : UInt8)] ∧ i_12.n = IntKind.i64.wrap ((1 : Int) + within i_11.n i_11.lo i_11.hi) ∧ ((0 : Int) ≤ i_12.n ∧ i_12.n ≤ (1000000 : Int) ∧ i_12.s.length ≤ (9223372036854775807 : Nat)) ∧ ∀ (o : Unit), True → (↑((sb (cbT i i_10)).size + (sb (headF i_12.s i_12.n)).size) : Int) ≤ IntKind.i64.max ∧ cnd (decide (IntKind.i64.wrap ((↑i_10 : Int) + (1 : Int)) < (↑(tE (wordsL i_9)).length : Int))) (((0 : Int) ≤ (↑i_10 : Int) ∧ (↑i_10 : Int) < (↑(tE (wordsL i_9)).length : Int)) ∧ ∃ (s : ByteArray), elPart (tE (wordsL i_9)) (↑i_10 : Int).toNat (0 : Nat) (1 : Nat) = some [D.v (Value.string s)] ∧ ∃ (i_13 : List UInt8), sb i_13 = s ∧ i_13.length ≤ (1099511627776 : Nat) ∧ ∀ (o : Unit), True → (↑((sb (cbT i i_10) ++ sb (headF i_12.s i_12.n)).size + (sb (foldF i_13)).size) : Int) ≤ IntKind.i64.max ∧ ∃ (i' : Nat), sb (cbT i i') = sb (cbT i i_10) ++ sb (headF i_12.s i_12.n) ++ sb (foldF i_13) ∧ (↑i' : Int) = IntKind.i64.wrap ((↑i_10 : Int) + (1 : Int)) ∧ I i' ∧ μ i' < μ i_10 ∧ Vcbackr5 i_8 s = Vcbackr5 i_8 s ∧ Vcbackr6 i_7 = Vcbackr6 i_7 ∧ Vcbackr7 i_2 i_3 s = Vcbackr7 i_2 i_3 s ∧ AObj.fro (1 : Nat) (iE (kSettle (kTick i_1) (kN i_1).toNat)) = AObj.fro (1 : Nat) (iE (kSettle (kTick i_1) (kN i_1).toNat)) ∧ AObj.fro (1 : Nat) (iE (kMonths (kN i_1).toNat)) = AObj.fro (1 : Nat) (iE (kMonths (kN i_1).toNat)) ∧ Vcbackr1 i_1 = Vcbackr1 i_1 ∧ Vcbackr2 i = Vcbackr2 i ∧ Vcbackr3 i = Vcbackr3 i ∧ AObj.fro (1 : Nat) (iE i.x.settle) = AObj.fro (1 : Nat) (iE i.x.settle) ∧ AObj.fro (1 : Nat) (iE i.x.months) = AObj.fro (1 : Nat) (iE i.x.months)) (cnd ((sb (headF i_3.s i_3.n)).toList == (ByteArray.mk #[]).toList) (((0 : Int) ≤ (↑i_10 : Int) ∧ (↑i_10 : Int) < (↑(tE (wordsL i_9)).length : Int)) ∧ ∃ (s : ByteArray), elPart (tE (wordsL i_9)) (↑i_10 : Int).toNat (0 : Nat) (1 : Nat) = some [D.v (Value.string s)] ∧ ∃ (i_13 : List UInt8), sb i_13 = s ∧ i_13.length ≤ (1099511627776 : Nat) ∧ ∀ (o : Unit), True → (↑((sb (cbT i i_10) ++ sb (headF i_12.s i_12.n)).size + (sb (foldF i_13)).size) : Int) ≤ IntKind.i64.max ∧ ∃ (i' : Nat), sb (cbT i i') = sb (cbT i i_10) ++ sb (headF i_12.s i_12.n) ++ sb (foldF i_13) ∧ (↑i' : Int) = IntKind.i64.wrap ((↑i_10 : Int) + (1 : Int)) ∧ I i' ∧ μ i' < μ i_10 ∧ Vcbackr5 i_8 s = Vcbackr5 i_8 s ∧ Vcbackr6 i_7 = Vcbackr6 i_7 ∧ Vcbackr7 i_2 i_3 s = Vcbackr7 i_2 i_3 s ∧ AObj.fro (1 : Nat) (iE (kSettle (kTick i_1) (kN i_1).toNat)) = AObj.fro (1 : Nat) (iE (kSettle (kTick i_1) (kN i_1).toNat)) ∧ AObj.fro (1 : Nat) (iE (kMonths (kN i_1).toNat)) = AObj.fro (1 : Nat) (iE (kMonths (kN i_1).toNat)) ∧ Vcbackr1 i_1 = Vcbackr1 i_1 ∧ Vcbackr2 i = Vcbackr2 i ∧ Vcbackr3 i = Vcbackr3 i ∧ AObj.fro (1 : Nat) (iE i.x.settle) = AObj.fro (1 : Nat) (iE i.x.settle) ∧ AObj.fro (1 : Nat) (iE i.x.months) = AObj.fro (1 : Nat) (iE i.x.months)) (((0 : Int) ≤ (↑i_10 : Int) ∧ (↑i_10 : Int) < (↑(tE (wordsL i_9)).length : Int)) ∧ ∃ (s : ByteArray), elPart (tE (wordsL i_9)) (↑i_10 : Int).toNat (0 : Nat) (1 : Nat) = some [D.v (Value.string s)] ∧ (↑((sb (cbT i i_10) ++ sb (headF i_12.s i_12.n)).size + s.size) : Int) ≤ IntKind.i64.max ∧ ∃ (i' : Nat), sb (cbT i i') = sb (cbT i i_10) ++ sb (headF i_12.s i_12.n) ++ s ∧ (↑i' : Int) = IntKind.i64.wrap ((↑i_10 : Int) + (1 : Int)) ∧ I i' ∧ μ i' < μ i_10 ∧ Vcbackr5 i_8 s = Vcbackr5 i_8 s ∧ Vcbackr6 i_7 = Vcbackr6 i_7 ∧ Vcbackr7 i_2 i_3 s = Vcbackr7 i_2 i_3 s ∧ AObj.fro (1 : Nat) (iE (kSettle (kTick i_1) (kN i_1).toNat)) = AObj.fro (1 : Nat) (iE (kSettle (kTick i_1) (kN i_1).toNat)) ∧ AObj.fro (1 : Nat) (iE (kMonths (kN i_1).toNat)) = AObj.fro (1 : Nat) (iE (kMonths (kN i_1).toNat)) ∧ Vcbackr1 i_1 = Vcbackr1 i_1 ∧ Vcbackr2 i = Vcbackr2 i ∧ Vcbackr3 i = Vcbackr3 i ∧ AObj.fro (1 : Nat) (iE i.x.settle) = AObj.fro (1 : Nat) (iE i.x.settle) ∧ AObj.fro (1 : Nat) (iE i.x.months) = AObj.fro (1 : Nat) (iE i.x.months)))) (∃ (i_11 : FndI), sb i_11.p.code = sb [(206 : UInt8), (169 : UInt8)] ∧ iE i_11.p.months = iE (kMonths (kN i_1).toNat) ∧ i_11.p.tick = kTick i_1 ∧ i_11.p.low = (-20 : Int) * kTick i_1 ∧ i_11.p.high = (100 : Int) * kTick i_1 ∧ i_11.p.wide = kTick i_1 * ((5 : Int) + within i_1.wide (0 : Int) (60 : Int)) ∧ i_11.p.rule = (1 : Int) + within i_1.rule (0 : Int) (2 : Int) ∧ i_11.p.top = within i_1.top (0 : Int) (9 : Int) ∧ i_11.p.least = (1 : Int) + within i_1.least (0 : Int) (4 : Int) ∧ i_11.p.part = within i_1.part (0 : Int) (100 : Int) ∧ iE i_11.p.settle = iE (kSettle (kTick i_1) (kN i_1).toNat) ∧ sb i_11.s = sb (cbT i i_10) ∧ ((i_11.p.code.length ≤ (1099511627776 : Nat) ∧ i_11.p.months.length ≤ (1099511627776 : Nat) ∧ i_11.p.settle.length ≤ (1099511627776 : Nat)) ∧ i_11.s.length ≤ (1048576 : Nat)) ∧ ∀ (o : Unit), True → cnd ((parseF i_11.p i_11.s).snd.fst == (0 : Int)) (cnd ((parseF i_11.p i_11.s).fst.kind == i_7.ask.kind && ((parseF i_11.p i_11.s).fst.id == i_7.ask.id && ((parseF i_11.p i_11.s).fst.inst == i_7.ask.inst && ((parseF i_11.p i_11.s).fst.side == i_7.ask.side && ((parseF i_11.p i_11.s).fst.price == i_7.ask.price && ((parseF i_11.p i_11.s).fst.qty == i_7.ask.qty && ((parseF i_11.p i_11.s).fst.least == i_7.ask.least && ((parseF i_11.p i_11.s).fst.time == i_7.ask.time && (sb (parseF i_11.p i_11.s).fst.label == sb i_7.ask.label && true))))))))) (∃ (i : Unit), True ∧ ∀ (o : Unit), True → ∃ (o : Unit), true = true ∧ True) (∃ (o : Unit), true = false ∧ True)) (∃ (o : Unit), true = false ∧ True)))))
theorem eqcback (i : CbI) : Vcback i = walk Tryd.prog ([(14, kprodC), (15, tameC), (7, headC), (16, printC), (9, wordsC), (17, labC), (11, known27C), (18, askC), (19, parseC), (8, withinC), (20, foldC)]) 0 (cbackJ) (cbackA i) [] Tryd.f5 (Tryd.f5.body.getD .skip) (cbackC.pat i) (cbackC.pre i) (cbackC.alts i) := by kernel_rfl

end Sx

namespace Sx
set_option linter.unusedVariables false
set_option linter.unusedSimpArgs false
set_option maxRecDepth 100000
open Go Cv Go.Proofs

structure TmOk (p : Prd) (d : Cmd) : Prop where
  kind : d.kind = 1 ∨ d.kind = 2 ∨ d.kind = 3 ∨ d.kind = 4
  id : 1 ≤ d.id ∧ d.id ≤ 31
  qty : 1 ≤ d.qty ∧ d.qty ≤ 12
  price : -1000 ≤ d.price ∧ d.price ≤ 1000
  least : 0 ≤ d.least ∧ d.least ≤ d.qty
  side : d.kind = 1 → d.side = 1 ∨ d.side = 2
  time : d.kind = 1 → d.time = 1 ∨ d.time = 2 ∨ d.time = 3
  inst : 0 ≤ d.inst ∧ d.inst < p.count
theorem kcount_le (x : Prd) : 3 ≤ (kprod x).count ∧ (kprod x).count ≤ 15 := by
  obtain ⟨b1, b2⟩ := kN_nat x
  rw [kcnt]
  have h : ∀ n < 6, 2 ≤ n → 3 ≤ cntN n ∧ cntN n ≤ 15 := by decide
  exact h _ b2 b1
theorem tm_kind (c : Cmd) : tmKind c = 1 ∨ tmKind c = 2 ∨ tmKind c = 3 ∨ tmKind c = 4 := by
  have := within_bd (n := c.kind) (lo := 0) (hi := 8) (by omega)
  unfold tmKind
  split <;> omega
theorem tame_ok' (x : Prd) (c : Cmd) : TmOk (kprod x) (tame ⟨kprod x, c, 3⟩) := by
  obtain ⟨c1, c2⟩ := kcount_le x
  obtain ⟨t1, t2⟩ := kTick_bd x
  have hk := tm_kind c
  have h2 := within_bd (n := c.id) (lo := 0) (hi := 30) (by omega)
  have h3 := within_bd (n := c.inst) (lo := 0) (hi := (kprod x).count - 1) (by omega)
  have h4 := within_bd (n := c.side) (lo := 0) (hi := 1) (by omega)
  have h5 := within_bd (n := c.price) (lo := 0) (hi := 9) (by omega)
  have h6 := within_bd (n := c.qty) (lo := 0) (hi := 11) (by omega)
  have h7 := within_bd (n := c.least) (lo := 0) (hi := 1 + within c.qty 0 11) (by omega)
  have hp : (kprod x).tick = kTick x := rfl
  have hm := mul_bd (a := kTick x) (b := within c.price 0 9) (m := 10) (n := 9) ⟨by omega, t2⟩ h5
  have hl : 0 ≤ tmLeast c (1 + within c.qty 0 11) ∧ tmLeast c (1 + within c.qty 0 11) ≤ 1 + within c.qty 0 11 := by
    unfold tmLeast; split <;> omega
  have ht : tmTime c = 1 ∨ tmTime c = 2 ∨ tmTime c = 3 := by
    unfold tmTime; split
    · omega
    · split <;> omega
  generalize within c.id 0 30 = w2 at h2
  unfold tame
  dsimp only [tmHead]
  rw [hp]
  generalize kTick x * within c.price 0 9 = pr at hm ⊢
  split
  · rename_i hk1
    refine ⟨.inl hk1, by dsimp only; omega, by dsimp only; omega, ?_, hl, fun _ => by dsimp only; omega, fun _ => ht, by dsimp only; omega⟩
    dsimp only
    split <;> omega
  · rename_i hk1
    refine ⟨hk, ?_, by dsimp only; omega, ?_, by dsimp only; omega, fun h => absurd h hk1, fun h => absurd h hk1, by dsimp only; omega⟩
    · dsimp only
      have := within_bd (n := c.id) (lo := 0) (hi := 30) (by omega)
      omega
    · dsimp only
      split <;> omega
theorem cbD_tm (i : CbI) : TmOk (kprod i.x) (cbD i) := by
  obtain ⟨a, b, c, d, e, f, g, h⟩ := tame_ok' i.x i.c
  exact ⟨a, b, c, d, e, f, g, h⟩
theorem tm_right {p : Prd} {d : Cmd} (h : TmOk p d) (hc : p.count ≤ 15) : d.right = if d.kind = 1 ∧ d.label ≠ [] ∧ labOk d.label = false then 29 else 0 := by
  obtain ⟨hk, hi, hq, hp, hl, hs, ht, hn⟩ := h
  have q1 : quantB d.qty = true := by simp [quantB]; omega
  have p1 : price2 d.price = true := by simp [price2]; omega
  unfold Cmd.right
  rw [if_neg (by omega), if_neg (by omega)]
  by_cases k1 : d.kind = 1
  · have hs := hs k1
    have ht := ht k1
    rw [if_pos k1, Cmd.orderE, if_neg (by omega), if_neg (by omega), if_neg (by rw [q1]; simp), if_neg (by omega)]
    by_cases hlb : d.label ≠ [] ∧ labOk d.label = false
    · rw [if_pos hlb, if_pos ⟨k1, hlb⟩]
    · rw [if_neg hlb, if_neg (by rw [p1]; simp), if_neg (by omega), if_neg (fun e => hlb e.2)]
  · rw [if_neg k1, if_neg (by rw [q1]; simp), if_neg (by rw [p1]; simp), if_neg (fun e => k1 e.1)]
theorem tm_cm {x : Prd} {d : Cmd} (h : TmOk (kprod x) d) (hl : d.kind = 1 → d.label ≠ [] → labOk d.label = true ∧ isW1 d.label = true) : CmOk (kprod x) d := by
  obtain ⟨hk, hi, hq, hp, hle, hs, ht, hn⟩ := h
  exact ⟨hk, by omega, by omega, by omega, by omega, hs, ht, fun _ => kname_ok x hn.1 hn.2, hl⟩

theorem w1_words {l : List UInt8} (h : wordsL l = [l]) : isW1 l = true := by
  have hm : l ∈ wordsL l := by rw [h]; simp
  rw [wordsL_eq] at hm
  obtain ⟨v, hv, e⟩ := List.mem_map.1 hm
  have := wordsW_ok l v hv
  refine isW1_mk ?_ ?_
  · rw [← e]; exact this.ne
  · rw [← e]; exact this.no
theorem print_none {x : Prd} {d : Cmd} (h : TmOk (kprod x) d) (hk : d.kind = 1) (hne : d.label ≠ []) (hl : ¬ (labOk d.label = true ∧ isW1 d.label = true)) : printF (kprod x) d = [] := by
  have hr := tm_right h (kcount_le x).2
  by_cases hb : labOk d.label = true
  · have hw : ¬ isW1 d.label = true := fun e => hl ⟨hb, e⟩
    have h32 : (32 : UInt8) ∈ d.label := Classical.byContradiction fun e => hw (isW1_mk hne e)
    rw [if_neg (by rw [hb]; simp)] at hr
    have hlab := parse_lab (kprod x) (lineF (kprod x) d)
    unfold printF
    rw [if_neg (by rw [hr]; simp), if_pos]
    right
    intro e
    rw [e] at hlab
    have ea : d.ask = d := by rw [Cmd.ask, if_pos hk]
    rw [ea] at hlab
    exact hlab h32
  · have hb : labOk d.label = false := by simpa using hb
    rw [if_pos ⟨hk, hne, hb⟩] at hr
    unfold printF
    rw [if_pos (by rw [hr]; decide)]

/-! ### Words that come again, great -/
theorem digF_fold (n : Int) : foldF (digF n) = digF n := foldF_plain (digF_plain n)
theorem map_one {ws : List (List UInt8)} {b : Prop} [Decidable b] (hb : b) : (List.range ws.length).map (fun k => if k + 1 < ws.length ∨ b then foldF (ws.getD k []) else ws.getD k []) = ws.map foldF := by
  apply List.ext_getElem?
  intro k
  rw [List.getElem?_map, List.getElem?_map]
  by_cases hk : k < ws.length
  · rw [List.getElem?_range hk, List.getElem?_eq_getElem hk]
    simp only [Option.map_some]
    rw [if_pos (.inr hb), List.getD_eq_getElem?_getD, List.getElem?_eq_getElem hk]; rfl
  · rw [List.getElem?_eq_none (by rw [List.length_range]; omega), List.getElem?_eq_none (by omega)]; rfl
theorem map_two {A : List (List UInt8)} {z : List UInt8} {b : Prop} [Decidable b] (hb : ¬ b) : (List.range (A ++ [z]).length).map (fun k => if k + 1 < (A ++ [z]).length ∨ b then foldF ((A ++ [z]).getD k []) else (A ++ [z]).getD k []) = A.map foldF ++ [z] := by
  have hl : (A ++ [z]).length = A.length + 1 := by simp
  apply List.ext_getElem?
  intro k
  rw [List.getElem?_map, hl]
  rcases Nat.lt_trichotomy k A.length with hk | hk | hk
  · rw [List.getElem?_range (by omega), List.getElem?_append_left (by simpa using hk), List.getElem?_map, List.getElem?_eq_getElem hk]
    simp only [Option.map_some]
    rw [if_pos (.inl (by omega)), List.getD_eq_getElem?_getD, List.getElem?_append_left hk, List.getElem?_eq_getElem hk]; rfl
  · subst hk
    rw [List.getElem?_range (by omega), List.getElem?_append_right (by simp)]
    simp only [Option.map_some, List.length_map, Nat.sub_self]
    rw [if_neg (by rintro (h | h)
                   · omega
                   · exact hb h), List.getD_eq_getElem?_getD, List.getElem?_append_right (Nat.le_refl _), Nat.sub_self]; rfl
  · rw [List.getElem?_eq_none (by rw [List.length_range]; omega), List.getElem?_eq_none (by simp; omega)]; rfl
theorem fold_line {p : Prd} {c : Cmd} (h : CmOk p c) : (c.label = [] ∨ c.kind ≠ 1 → (lineG false p c).map foldF = lineG true p c) ∧ (c.kind ≠ 1 → ∃ A z, lineG false p c = A ++ [z] ∧ foldF z = z) ∧
    (c.kind = 1 → c.label ≠ [] → ∃ A, lineG false p c = A ++ [c.label] ∧ lineG true p c = A.map foldF ++ [c.label]) := by
  obtain ⟨f1, f2, f3, f4, f5, f6, f7, f8, f9, f10, f11⟩ := fold_kw
  have hd := digF_fold
  refine ⟨fun hc => ?_, fun hk => ?_, fun hk hl => ?_⟩
  · by_cases hk : c.kind = 1
    · have hl : c.label = [] := hc.resolve_right (fun e => e hk)
      have hn := (h.nm hk).fold
      by_cases a : c.least = 0 <;> by_cases b : c.time = 2 <;> by_cases b2 : c.time = 3 <;> by_cases e : c.side = 2 <;> simp [lineG, nwG, nwOG, NewW.ws, oWords, oLeast, oTime, oLabel, hk, hl, a, b, b2, e, f1, f2, f3, f4, f5, f6, f7, f8, hd, hn] <;> omega
    · by_cases k2 : c.kind = 2 <;> by_cases k3 : c.kind = 3 <;> simp [lineG, hk, k2, k3, f9, f10, f11, hd]
  · by_cases k2 : c.kind = 2
    · exact ⟨[pCANCEL], digF c.id, by simp [lineG, k2], hd _⟩
    by_cases k3 : c.kind = 3
    · exact ⟨[pCUT, digF c.id], digF c.qty, by simp [lineG, k3], hd _⟩
    · exact ⟨[pCHANGE, digF c.id, digF c.price], digF c.qty, by simp [lineG, hk, k2, k3], hd _⟩
  · have hn := (h.nm hk).fold
    refine ⟨(nwG false p c).ws ++ oWords ((if c.least ≠ 0 then [oLeast pLEAST (digF c.least) c.least] else []) ++ (if c.time = 2 then [oTime pNOW 2] else if c.time = 3 then [oTime pWHOLE 3] else [])) ++ [pLABEL], ?_, ?_⟩
    · by_cases a : c.least = 0 <;> by_cases b : c.time = 2 <;> by_cases b2 : c.time = 3 <;> simp [lineG, nwG, nwOG, NewW.ws, oWords, oLeast, oTime, oLabel, hk, hl, a, b, b2]
    · by_cases a : c.least = 0 <;> by_cases b : c.time = 2 <;> by_cases b2 : c.time = 3 <;> by_cases e : c.side = 2 <;> simp [lineG, nwG, nwOG, NewW.ws, oWords, oLeast, oTime, oLabel, hk, hl, a, b, b2, e, f1, f2, f3, f4, f5, f6, f7, f8, hd, hn] <;> omega
theorem lineG_len {p : Prd} {c : Cmd} (h : CmOk p c) (hl : c.label.length ≤ 60) (g : Bool) : (lineG g p c).length ≤ 13 ∧ ∀ w ∈ lineG g p c, w.length ≤ 60 := by
  have hd : ∀ n, (digF n).length ≤ 60 := fun n => by have := digF_26 n; omega
  have kk : ∀ (a b : List UInt8), a.length ≤ 60 → b.length ≤ 60 → (if g = true then a else b).length ≤ 60 := fun a b ha hb => by split <;> assumption
  constructor
  · unfold lineG
    split
    · unfold nwOG
      by_cases a : c.least = 0 <;> by_cases b : c.time = 2 <;> by_cases b2 : c.time = 3 <;> by_cases e : c.label = [] <;> simp [NewW.ws, oWords, oLeast, oTime, oLabel, a, b, b2, e]
    split
    · simp
    split
    · simp
    · simp
  · intro w hw
    unfold lineG at hw
    split at hw
    · rename_i hk
      have hn := (h.nm hk).len
      rcases List.mem_append.1 hw with hw | hw
      · simp only [nwG, NewW.ws, List.mem_cons, List.not_mem_nil, or_false] at hw
        rcases hw with rfl | rfl | rfl | rfl | rfl | rfl | rfl
        · split
          · exact kk _ _ (by decide) (by decide)
          · exact kk _ _ (by decide) (by decide)
        · omega
        · exact hd _
        · exact kk _ _ (by decide) (by decide)
        · exact hd _
        · exact kk _ _ (by decide) (by decide)
        · exact hd _
      · obtain ⟨l, hl', hw⟩ := List.mem_flatten.1 hw
        obtain ⟨o, ho, rfl⟩ := List.mem_map.1 hl'
        unfold nwOG at ho
        rcases List.mem_append.1 ho with ho | ho
        · rcases List.mem_append.1 ho with ho | ho
          · split at ho
            · rw [List.mem_singleton] at ho
              subst ho
              simp only [oLeast, List.mem_cons, List.not_mem_nil, or_false] at hw
              rcases hw with rfl | rfl
              · exact kk _ _ (by decide) (by decide)
              · exact hd _
            · cases ho
          · split at ho
            · rw [List.mem_singleton] at ho
              subst ho
              simp only [oTime, List.mem_cons, List.not_mem_nil, or_false] at hw
              subst hw
              exact kk _ _ (by decide) (by decide)
            · split at ho
              · rw [List.mem_singleton] at ho
                subst ho
                simp only [oTime, List.mem_cons, List.not_mem_nil, or_false] at hw
                subst hw
                exact kk _ _ (by decide) (by decide)
              · cases ho
        · split at ho
          · rw [List.mem_singleton] at ho
            subst ho
            simp only [oLabel, List.mem_cons, List.not_mem_nil, or_false] at hw
            rcases hw with rfl | rfl
            · exact kk _ _ (by decide) (by decide)
            · exact hl
          · cases ho
    · split at hw
      · simp only [List.mem_cons, List.not_mem_nil, or_false] at hw
        rcases hw with rfl | rfl
        · exact kk _ _ (by decide) (by decide)
        · exact hd _
      · split at hw
        · simp only [List.mem_cons, List.not_mem_nil, or_false] at hw
          rcases hw with rfl | rfl | rfl
          · exact kk _ _ (by decide) (by decide)
          · exact hd _
          · exact hd _
        · simp only [List.mem_cons, List.not_mem_nil, or_false] at hw
          rcases hw with rfl | rfl | rfl | rfl
          · exact kk _ _ (by decide) (by decide)
          · exact hd _
          · exact hd _
          · exact hd _

/-! ### A command that is printed -/
def cbLab (i : CbI) : Prop := (cbD i).kind = 1 → (cbD i).label ≠ [] → labOk (cbD i).label = true ∧ isW1 (cbD i).label = true
structure CbOk (i : CbI) : Prop where
  ne : cbS i ≠ []
  slen : (cbS i).length ≤ 1000
  read : parseF (kprod i.x) (cbS i) = ((cbD i).ask, 0, 0)
  len : (cbW i).length ≤ 13
  one : ∀ k, k < (cbW i).length → (cbOne i k).length ≤ 60
  again : parseF (kprod i.x) (cbT i (cbW i).length) = ((cbD i).ask, 0, 0)
theorem head_len' (s : List UInt8) : (headF s 60).length ≤ 60 := by
  have := head_len (s := s) (n := 60) (by omega)
  omega
theorem cb_ok (i : CbI) (hG : cbLab i) : CbOk i := by
  have hT := cbD_tm i
  have hC := tm_cm hT hG
  have hll : (cbD i).label.length ≤ 60 := head_len' i.c.label
  have hR : (cbD i).right = 0 := by
    rw [tm_right hT (kcount_le i.x).2, if_neg]
    rintro ⟨h1, h2, h3⟩
    rw [(hG h1 h2).1] at h3
    cases h3
  obtain ⟨e1, e2, e3⟩ := print_ok hC hR
  have es : cbS i = lineF (kprod i.x) (cbD i) := e1
  have ew : cbW i = lineG false (kprod i.x) (cbD i) := by rw [cbW, es, e2]; rfl
  obtain ⟨l1, l2⟩ := lineG_len hC hll false
  obtain ⟨l3, l4⟩ := lineG_len hC hll true
  have hm : (List.range (cbW i).length).map (fun k => cbOne i k) = lineG true (kprod i.x) (cbD i) := by
    obtain ⟨q1, q2, q3⟩ := fold_line hC
    by_cases hl : (cbD i).label = []
    · have := map_one (ws := cbW i) (b := (cbD i).label = []) hl
      rw [ew, q1 (.inl hl)] at this
      rw [← this, ew]
      simp only [cbOne, ew]
    · by_cases hk : (cbD i).kind = 1
      · obtain ⟨A, a1, a2⟩ := q3 hk hl
        have := map_two (A := A) (z := (cbD i).label) (b := (cbD i).label = []) hl
        rw [a2, ← this, ew, a1]
        simp only [cbOne, ew, a1]
      · obtain ⟨A, z, a1, a2⟩ := q2 hk
        have := map_two (A := A) (z := z) (b := (cbD i).label = []) hl
        rw [← q1 (.inr hk), a1, List.map_append, List.map_cons, List.map_nil, a2, ← this, ew, a1]
        simp only [cbOne, ew, a1]
  have hne : cbS i ≠ [] := by
    intro e
    have : cbW i = [] := by rw [cbW, e]; rfl
    rw [this] at ew
    have := congrArg List.length ew
    rw [List.length_nil] at this
    unfold lineG at this
    split at this
    · simp [NewW.ws] at this
    split at this
    · simp at this
    split at this <;> simp at this
  refine ⟨hne, ?_, by rw [es]; exact e3, by rw [ew]; exact l1, fun k hk => ?_, ?_⟩
  · rw [es]
    have := line_len (kprod i.x) (cbD i)
    have hc : (kprod i.x).code.length = 2 := rfl
    omega
  · refine l4 _ ?_
    rw [← hm]
    exact List.mem_map.2 ⟨k, List.mem_range.2 hk, rfl⟩
  · have ht : cbT i (cbW i).length = sepW (cbN i) (lineG true (kprod i.x) (cbD i)) := by
      rw [cbT, sepW, ← hm, List.map_map]; rfl
    rw [ht]
    exact read_back hC hR true (sepW_words _ _ (fun w hw => lineG_w hC true w hw))
theorem cbT_succ (i : CbI) (k : Nat) : cbT i (k + 1) = cbT i k ++ (List.replicate (cbN i + 1) 32 ++ cbOne i k) := by
  simp [cbT, List.range_succ]
theorem cbT_len {i : CbI} (h : CbOk i) : ∀ k, k ≤ (cbW i).length → (cbT i k).length ≤ 70 * k
  | 0, _ => by simp [cbT]
  | k + 1, hk => by
    have ih := cbT_len h k (by omega)
    have h1 := h.one k (by omega)
    have hn : cbN i ≤ 5 := by
      have := within_bd (n := i.blanks) (lo := 0) (hi := 5) (by omega)
      unfold cbN; omega
    rw [cbT_succ, List.length_append, List.length_append, List.length_replicate]
    omega
theorem cb_head (i : CbI) : headF [32, 32, 32, 32, 32, 32, 32] (1 + within i.blanks 0 5) = List.replicate (cbN i + 1) 32 := by
  have := within_bd (n := i.blanks) (lo := 0) (hi := 5) (by omega)
  rw [headF, if_pos (by simp; omega)]
  have e : ([32, 32, 32, 32, 32, 32, 32] : List UInt8) = List.replicate 7 32 := rfl
  rw [e, List.take_replicate]
  unfold cbN
  congr 1
  omega
theorem cb_none (i : CbI) (hG : ¬ cbLab i) : cbS i = [] := by
  unfold cbLab at hG
  have hk : (cbD i).kind = 1 := Classical.byContradiction fun e => hG fun k => absurd k e
  have hl : (cbD i).label ≠ [] := Classical.byContradiction fun e => hG fun _ k => absurd k e
  exact print_none (cbD_tm i) hk hl (fun e => hG fun _ _ => e)

end Sx

namespace Sx
set_option linter.unusedVariables false
set_option linter.unusedSimpArgs false
set_option maxRecDepth 100000
open Go Cv Go.Proofs

theorem cmd_eq (a b : Cmd) : (a.kind == b.kind && (a.id == b.id && (a.inst == b.inst && (a.side == b.side && (a.price == b.price && (a.qty == b.qty && (a.least == b.least && (a.time == b.time && (sb a.label == sb b.label && true))))))))) = decide (a = b) := by
  have := cmd_ne a b
  revert this
  cases (a.kind == b.kind && (a.id == b.id && (a.inst == b.inst && (a.side == b.side && (a.price == b.price && (a.qty == b.qty && (a.least == b.least && (a.time == b.time && (sb a.label == sb b.label && true))))))))) <;> cases decide (a = b) <;> simp
theorem b7 : ByteArray.mk #[32, 32, 32, 32, 32, 32, 32] = sb [32, 32, 32, 32, 32, 32, 32] := rfl
theorem cbD_raw (i : CbI) : (cbD i).raw := by
  obtain ⟨hk, hi, hq, hp, hl, hs, ht, hn⟩ := cbD_tm i
  have hc := (kcount_le i.x).2
  have hside : i64r (cbD i).side ∧ i64r (cbD i).time := by
    by_cases k1 : (cbD i).kind = 1
    · have := hs k1
      have := ht k1
      exact ⟨⟨by omega, by omega⟩, ⟨by omega, by omega⟩⟩
    · have k2 : ¬ tmKind i.c = 1 := by
        intro e
        apply k1
        show (tame ⟨kprod i.x, i.c, 3⟩).kind = 1
        unfold tame
        dsimp only [tmHead]
        rw [if_pos e]; exact e
      have e1 : (cbD i).side = 0 := by
        show (tame ⟨kprod i.x, i.c, 3⟩).side = 0
        unfold tame
        dsimp only [tmHead]
        rw [if_neg k2]
      have e2 : (cbD i).time = 0 := by
        show (tame ⟨kprod i.x, i.c, 3⟩).time = 0
        unfold tame
        dsimp only [tmHead]
        rw [if_neg k2]
      rw [e1, e2]
      exact ⟨⟨by omega, by omega⟩, ⟨by omega, by omega⟩⟩
  exact ⟨⟨by omega, by omega⟩, ⟨by omega, by omega⟩, ⟨by omega, by omega⟩, hside.1, ⟨by omega, by omega⟩, ⟨by omega, by omega⟩, ⟨by omega, by omega⟩, hside.2⟩

set_option maxHeartbeats 4000000 in
theorem vcback (i : CbI) (h : cbackC.cnd i) : Vcback i := by
  obtain ⟨hx, hc, hb, hl⟩ : i.x.raw ∧ i.c.raw ∧ i64r i.blanks ∧ i.c.label.length ≤ 9223372036854775807 := h
  have hraw := cbD_raw i
  have hks := kprod_small i.x
  have h60 := head_len' i.c.label
  have hwi := within_bd (n := i.blanks) (lo := 0) (hi := 5) (by omega)
  unfold Vcback
  simp only [sb_nil', b7, ← sb_app, sb_size, i64max, eqB, cmd_eq]
  refine ⟨i.x, rfl, rfl, rfl, rfl, rfl, rfl, rfl, rfl, rfl, rfl, rfl, hx, fun _ _ => ⟨⟨kprod i.x, i.c, 3⟩, rfl, rfl, rfl, rfl, rfl, rfl, rfl, rfl, rfl, rfl, rfl, rfl, rfl, rfl, rfl, rfl, rfl, rfl, rfl, rfl, rfl, ⟨kprod_check i.x, hks, hc, by dsimp only; omega, by dsimp only; omega⟩, fun _ _ => ⟨⟨i.c.label, 60⟩, rfl, rfl, ⟨by dsimp only; omega, by dsimp only; omega, hl⟩, fun _ _ => ⟨⟨kprod i.x, cbD i⟩, rfl, rfl, rfl, rfl, rfl, rfl, rfl, rfl, rfl, rfl, rfl, rfl, rfl, rfl, rfl, rfl, rfl, rfl, rfl, rfl, ⟨hks, by show (2 : Nat) ≤ 1000; omega, hraw, by show (headF i.c.label 60).length ≤ 1000; omega⟩, fun _ _ => ⟨headF i.c.label 60, rfl, by omega, fun _ _ => ⟨(), fun _ => cbLab i, ?_, fun _ hG => ?_⟩⟩⟩⟩⟩⟩
  · have hn (e : ¬ cbLab i) : printF (kprod i.x) (cbD i) = [] := cb_none i e
    have hret : ¬ cbLab i → cnd (decide (printF (kprod i.x) (cbD i) = [])) (∃ (i : Unit), True ∧ ∀ (o : Unit), True → ∃ (o : Unit), True ∧ True) (∃ (o : Unit), true = false ∧ True) := fun e =>
      cndD (fun _ => ⟨(), trivial, fun _ _ => ⟨(), trivial, trivial⟩⟩) (fun f => absurd (hn e) f)
    have hkd : (tame ⟨kprod i.x, i.c, 3⟩).kind = (cbD i).kind := rfl
    have hlb : headF i.c.label 60 = (cbD i).label := rfl
    dsimp only
    rw [hkd]
    simp only [hlb]
    rw [hlb] at h60
    generalize printF (kprod i.x) (cbD i) = P at hret ⊢
    have hno : (cbD i).kind = 1 → (cbD i).label ≠ [] → ¬ (labOk (cbD i).label = true ∧ isW1 (cbD i).label = true) → ¬ cbLab i := fun a b c d => c (d a b)
    have hyes1 : ¬ (cbD i).kind = 1 → cbLab i := fun a b => absurd b a
    have hyes2 : (cbD i).label = [] → cbLab i := fun a _ b => absurd a b
    have hyes3 : (labOk (cbD i).label = true ∧ isW1 (cbD i).label = true) → cbLab i := fun a _ _ => a
    generalize (cbD i).label = lab at hno hyes2 hyes3 h60 ⊢
    generalize (cbD i).kind = kd at hno hyes1 ⊢
    generalize cbLab i = G at hno hyes1 hyes2 hyes3 hret ⊢
    clear hn hkd hlb hraw hks hwi hb hl
    refine Cv.cnd.mk (fun k => Cv.cnd.mk (fun l => ⟨lab, rfl, by omega, fun _ _ => ?_⟩) (fun l => ⟨(), hyes2 (by simpa using l), by (repeat' (first | exact rfl | exact trivial | assumption | apply And.intro | (refine fun (_ : Unit) (_ : True) => ?_) | (refine Exists.intro () ?_) | omega | (dsimp only; omega)))⟩)) (fun k => ⟨(), hyes1 (by simpa using k), by (repeat' (first | exact rfl | exact trivial | assumption | apply And.intro | (refine fun (_ : Unit) (_ : True) => ?_) | (refine Exists.intro () ?_) | omega | (dsimp only; omega)))⟩)
    have k : kd = 1 := by simpa using k
    have l : lab ≠ [] := by simpa using l
    have hno := hno k l
    clear k
    refine Cv.cnd.mk (fun b => hret (hno (by simp at b; simp [b]))) fun b => ?_
    have b : labOk lab = true := by simpa using b
    rw [tE_len]
    refine Cv.cnd.mk (fun n => hret (hno fun e => by
      rw [wordsL_one e.2] at n
      simp at n)) fun n => ?_
    have n : (wordsL lab).length = 1 := by simp at n; omega
    have n2 := words_at lab
    obtain ⟨w, hw⟩ : ∃ w, wordsL lab = [w] := List.length_eq_one_iff.1 n
    obtain ⟨a, ha⟩ : ∃ a, wordsA lab = [a] := List.length_eq_one_iff.1 (by omega)
    rw [hw, ha]
    refine ⟨⟨by omega, by simp [iE]⟩, a, rfl, Cv.cnd.mk (fun m => hret (hno fun e => by
      rw [wordsA_one e.2, List.cons.injEq] at ha
      rw [← ha.1] at m
      simp at m)) fun m => ⟨⟨by omega, by simp⟩, sb w, rfl, Cv.cnd.mk (fun s => hret (hno fun e => by
        rw [wordsL_one e.2, List.cons.injEq] at hw
        rw [← hw.1, eqB] at s
        simp at s)) fun s => ⟨(), ?_, by (repeat' (first | exact rfl | exact trivial | assumption | apply And.intro | (refine fun (_ : Unit) (_ : True) => ?_) | (refine Exists.intro () ?_) | omega | (dsimp only; omega)))⟩⟩⟩
    rw [eqB] at s
    have s : w = lab := by simpa using s
    subst s
    exact hyes3 ⟨b, w1_words hw⟩
  · obtain ⟨n1, n2, n3, n4, n5, n6⟩ := cb_ok i hG
    have hTl := fun k => cbT_len (cb_ok i hG) k
    clear hG
    have eS : printF (kprod i.x) (cbD i) = cbS i := rfl
    have hone : ∀ k w, (cbW i)[k]? = some w → cbOne i k = if k + 1 < (cbW i).length ∨ (cbD i).label = [] then foldF w else w := fun k w e => by rw [cbOne, getD_of e]
    have hwl : ∀ w, w ∈ cbW i → w.length ≤ 1000 := fun w hw => by
      have := words_mem (cbS i) w hw
      omega
    have hW0 : wordsL (cbS i) = cbW i := rfl
    have hlb : headF i.c.label 60 = (cbD i).label := rfl
    dsimp only
    rw [eS]
    refine ⟨cbD i, rfl, rfl, rfl, rfl, rfl, rfl, rfl, rfl, rfl, trivial, fun _ _ => ⟨⟨kprod i.x, cbS i⟩, rfl, rfl, rfl, rfl, rfl, rfl, rfl, rfl, rfl, rfl, rfl, rfl, ⟨hks, by dsimp only; omega⟩, fun _ _ => ?_⟩⟩
    dsimp only
    rw [n3]
    dsimp only
    refine cndD (fun c => absurd c n1) fun c => Cv.cnd.mk (fun d => absurd d (by decide)) fun d => Cv.cnd.mk (fun e => absurd e (by simp)) fun e => ⟨cbS i, rfl, by omega, fun _ _ => ⟨0, rfl, rfl, fun k => k ≤ (cbW i).length, fun k => (cbW i).length - k, Nat.zero_le _, fun k hk => ?_⟩⟩
    clear c d e
    rw [hW0, tE_len, hlb]
    have hTk := hTl k hk
    refine cndD (fun c => ?_) fun c => ?_
    · have hk1 : k < (cbW i).length := by omega
      obtain ⟨w, hw⟩ : ∃ w, (cbW i)[k]? = some w := ⟨_, List.getElem?_eq_getElem hk1⟩
      have hwm := hwl w (List.mem_of_getElem? hw)
      have h1 := hone k w hw
      have h2 := n5 k hk1
      have hh := cb_head i
      have hhl : (headF [32, 32, 32, 32, 32, 32, 32] (1 + within i.blanks 0 5)).length ≤ 7 := by
        rw [hh, List.length_replicate]
        unfold cbN; omega
      have hwj : IntKind.i64.wrap ((k : Int) + 1) = ((k + 1 : Nat) : Int) := by rw [w64 (by omega)]; omega
      have hel : elPart (tE (cbW i)) (k : Int).toNat 0 1 = some [D.v (.string (sb w))] := by rw [Int.toNat_natCast]; exact elT hw
      refine ⟨⟨i.blanks, 0, 5⟩, rfl, rfl, rfl, ⟨hb, by dsimp only; omega, by dsimp only; omega, by dsimp only; omega⟩, fun _ _ => ⟨⟨[32, 32, 32, 32, 32, 32, 32], 1 + within i.blanks 0 5⟩, rfl, (w64 (x := 1 + within i.blanks 0 5) (by omega)).symm, ⟨by dsimp only; omega, by dsimp only; omega, by simp⟩, fun _ _ => ⟨by dsimp only; omega, ?_⟩⟩⟩
      dsimp only
      rw [hwj]
      refine cndD (fun d => ?_) fun d => cndD (fun e => ?_) fun e => ?_
      · rw [if_pos (.inl (by omega))] at h1
        rw [h1] at h2
        refine ⟨⟨by omega, by omega⟩, sb w, hel, w, rfl, by omega, fun _ _ => ⟨by simp only [List.length_append]; omega, k + 1, ?_, rfl, by omega, by omega, by (repeat' (first | exact rfl | exact trivial | assumption | apply And.intro | (refine fun (_ : Unit) (_ : True) => ?_) | (refine Exists.intro () ?_) | omega | (dsimp only; omega)))⟩⟩
        rw [cbT_succ, h1, hh, List.append_assoc]
      · rw [if_pos (.inr e)] at h1
        rw [h1] at h2
        refine ⟨⟨by omega, by omega⟩, sb w, hel, w, rfl, by omega, fun _ _ => ⟨by simp only [List.length_append]; omega, k + 1, ?_, rfl, by omega, by omega, by (repeat' (first | exact rfl | exact trivial | assumption | apply And.intro | (refine fun (_ : Unit) (_ : True) => ?_) | (refine Exists.intro () ?_) | omega | (dsimp only; omega)))⟩⟩
        rw [cbT_succ, h1, hh, List.append_assoc]
      · rw [if_neg (by
          rintro (f | f)
          · omega
          · exact e f)] at h1
        rw [h1] at h2
        refine ⟨⟨by omega, by omega⟩, sb w, hel, by simp only [List.length_append, sb_size]; omega, k + 1, ?_, rfl, by omega, by omega, by (repeat' (first | exact rfl | exact trivial | assumption | apply And.intro | (refine fun (_ : Unit) (_ : True) => ?_) | (refine Exists.intro () ?_) | omega | (dsimp only; omega)))⟩
        rw [cbT_succ, h1, hh, ← sb_app, List.append_assoc]
    · have hk1 : k = (cbW i).length := by omega
      subst hk1
      refine ⟨⟨kprod i.x, cbT i (cbW i).length⟩, rfl, rfl, rfl, rfl, rfl, rfl, rfl, rfl, rfl, rfl, rfl, rfl, ⟨hks, by dsimp only; omega⟩, fun _ _ => ?_⟩
      dsimp only
      rw [n6]
      dsimp only
      exact Cv.cnd.mk (fun _ => cndD (fun _ => ⟨(), trivial, fun _ _ => ⟨(), trivial, trivial⟩⟩) (fun f => absurd rfl f)) (fun f => absurd f (by decide))
end Sx

