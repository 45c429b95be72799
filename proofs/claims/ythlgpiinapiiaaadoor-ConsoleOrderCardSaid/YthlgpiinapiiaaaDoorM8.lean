/- Texts of ours, one behind the other: a walk that the kernel reckons, and contracts of functions. No condition. -/
import Derived.Lib.AppendIntMem
import Derived.Lib.LaidU8
import Derived.Shelf.Strconv.Itoa4
import Derived.Shelf.Strings.BuilderRune
import Derived.Shelf.Unicode.DecodeAny
import Derived.Test.YthlgpiinapiiaaaDoorM7

namespace Sx
set_option maxRecDepth 100000
open Go Go.Proofs Go.Shelf
theorem layn173 : Go.Proofs.LaysM.n173 Tryd.prog shelfRen := {
  mixed := by kernel_rfl
  f129 := Tryd.func78.trans (congrArg some (by kernel_rfl))
  f173 := Tryd.func43.trans (congrArg some (by kernel_rfl))
  f246 := Tryd.func56.trans (congrArg some (by kernel_rfl))
  f283 := Tryd.func69.trans (congrArg some (by kernel_rfl))
  f284 := Tryd.func70.trans (congrArg some (by kernel_rfl))
  f285 := Tryd.func71.trans (congrArg some (by kernel_rfl))
  f286 := Tryd.func72.trans (congrArg some (by kernel_rfl))
  f317 := Tryd.func77.trans (congrArg some (by kernel_rfl))
  f318 := Tryd.func79.trans (congrArg some (by kernel_rfl))
  f319 := Tryd.func80.trans (congrArg some (by kernel_rfl))
  f320 := Tryd.func81.trans (congrArg some (by kernel_rfl))
  f337 := Tryd.func84.trans (congrArg some (by kernel_rfl))
  f338 := Tryd.func85.trans (congrArg some (by kernel_rfl))
  t0 := Tryd.underlying0
  a0 := Tryd.isAgg0
  z0 := Tryd.sizeOf0
  v0 := Tryd.zeroValue0
  t2 := Tryd.underlying2
  a2 := Tryd.isAgg2
  z2 := Tryd.sizeOf2
  v2 := Tryd.zeroValue2
  t3 := Tryd.underlying3
  a3 := Tryd.isAgg3
  z3 := Tryd.sizeOf3
  v3 := Tryd.zeroValue3
  t4 := Tryd.underlying4
  a4 := Tryd.isAgg4
  z4 := Tryd.sizeOf4
  v4 := Tryd.zeroValue4
  t5 := Tryd.underlying5
  a5 := Tryd.isAgg5
  z5 := Tryd.sizeOf5
  v5 := Tryd.zeroValue5
  t9 := Tryd.underlying9
  a9 := Tryd.isAgg9
  z9 := Tryd.sizeOf9
  v9 := Tryd.zeroValue9
  t20 := Tryd.underlying20
  a20 := Tryd.isAgg20
  z20 := Tryd.sizeOf20
  v20 := Tryd.zeroValue20
  t37 := Tryd.underlying64
  a37 := Tryd.isAgg64
  z37 := Tryd.sizeOf64
  v37 := Tryd.zeroValue64
  t46 := Tryd.underlying123
  a46 := Tryd.isAgg123
  z46 := Tryd.sizeOf123
  v46 := Tryd.zeroValue123
  t51 := Tryd.underlying115
  a51 := Tryd.isAgg115
  z51 := Tryd.sizeOf115
  v51 := Tryd.zeroValue115
  t53 := Tryd.underlying73
  a53 := Tryd.isAgg73
  z53 := Tryd.sizeOf73
  v53 := Tryd.zeroValue73
  t171 := Tryd.underlying118
  a171 := Tryd.isAgg118
  z171 := Tryd.sizeOf118
  v171 := Tryd.zeroValue118
  t173 := Tryd.underlying121
  a173 := Tryd.isAgg121
  z173 := Tryd.sizeOf121
  v173 := Tryd.zeroValue121
  t212 := Tryd.underlying133
  a212 := Tryd.isAgg133
  z212 := Tryd.sizeOf133
  v212 := Tryd.zeroValue133
  t213 := Tryd.underlying134
  a213 := Tryd.isAgg134
  z213 := Tryd.sizeOf134
  t232 := Tryd.underlying140
  a232 := Tryd.isAgg140
  z232 := Tryd.sizeOf140
  v232 := Tryd.zeroValue140
  t233 := Tryd.underlying141
  a233 := Tryd.isAgg141
  z233 := Tryd.sizeOf141
  v233 := Tryd.zeroValue141
  g17 := by kernel_rfl
  g18 := by kernel_rfl
  g19 := by kernel_rfl
  i0 := by kernel_rfl
  i2 := by kernel_rfl
  i3 := by kernel_rfl
  i4 := by kernel_rfl
  i5 := by kernel_rfl
  i9 := by kernel_rfl
  i20 := by kernel_rfl
  i37 := by kernel_rfl
  i46 := by kernel_rfl
  i51 := by kernel_rfl
  i53 := by kernel_rfl
  i171 := by kernel_rfl
  i173 := by kernel_rfl
  i212 := by kernel_rfl
  i232 := by kernel_rfl
  i233 := by kernel_rfl
  m17 := by kernel_rfl
  m18 := by kernel_rfl
  m19 := by kernel_rfl }
end Sx

namespace Sx
set_option linter.unusedVariables false
set_option linter.unusedSimpArgs false
open Go Go.RowKit Go.Proofs

theorem digN_dec : ∀ (k u : Nat) (acc : List UInt8), 0 < u → u < 10 ^ k → digN k u acc = Lib.decDigits u ++ acc
  | 0, u, acc, h0, h => by simp at h; omega
  | k + 1, u, acc, h0, h => by
    rw [digN, if_neg (by omega), Lib.decDigits]
    split
    · rename_i hlt
      rw [show u / 10 = 0 by omega, show u % 10 = u by omega]
      cases k with
      | zero => rfl
      | succ k => rw [digN, if_pos ⟨rfl, by simp⟩]; rfl
    · rw [digN_dec k (u / 10) _ (by omega) (by rw [Nat.pow_succ] at h; omega), List.append_assoc]
      rfl
theorem digU_dec {u : Nat} (h : u < 10 ^ 25) : digU u = Lib.decDigits u := by
  rcases Nat.eq_zero_or_pos u with rfl | h0
  · rw [Lib.decDigits, dif_pos (by omega)]; rfl
  · rw [digU, digN_dec 25 u [] h0 h, List.append_nil]
theorem digF_itoa {n : Int} (h0 : -9223372036854775808 ≤ n) (h1 : n ≤ 9223372036854775807) : digF n = Lib.itoa n := by
  unfold digF Lib.itoa
  split
  · rw [show (-n).toNat = n.natAbs by omega, digU_dec (by omega)]
  · rw [digU_dec (by omega)]
theorem tab_of {w : World} (h : HTab w) : Lib.TabIs Tryd.prog w "internal/strconv.uint64pow10" .u64 Lib.pow10Tab := by
  obtain ⟨o, h1, T, fr, rfl⟩ := h _ (List.mem_cons_of_mem _ (List.mem_cons_of_mem _ (List.mem_cons_self)))
  dsimp only at h1
  have hg : Tryd.prog.globalNamed "internal/strconv.uint64pow10" = some 2 := by kernel_rfl
  show (Tryd.prog.globalNamed "internal/strconv.uint64pow10").bind _ = _
  rw [hg, Option.bind_some, h1]

set_option maxHeartbeats 4000000 in
theorem fmt_calls (n : Int) (w : World) (hG : HTab w) (h0 : -9223372036854775808 ≤ n) (h1 : n ≤ 9223372036854775807) :
    Calls Tryd.prog 43 #[.int .i64 n, .int .i64 10] w fun e w' => e = .returned (.string (sb (digF n))) ∧ Below w.heap.size w w' := by
  refine (Any.strconv_FormatInt_10 layn173 n h0 h1 w (tab_of hG)).mono ?_
  rintro e w' ⟨rfl, k, os, rfl⟩
  refine ⟨?_, Lib.below_grow _ w (Nat.le_refl _) k os⟩
  rw [digF_itoa h0 h1]; rfl
theorem fmt_ok : fmtC.ok Tryd.prog 43 := con_of_calls (by kernel_rfl) fun n hs E w ys hG hv => by
  obtain ⟨h0, h1⟩ : -9223372036854775808 ≤ n ∧ n ≤ 9223372036854775807 := hs
  simp only [VRL, VR, DR] at hv
  obtain ⟨y, _, rfl, ⟨rfl, _⟩, z, _, rfl, ⟨rfl, _⟩, rfl⟩ := hv
  refine (fmt_calls n w hG h0 h1).mono ?_
  rintro e w' ⟨rfl, hb⟩
  exact ⟨_, rfl, by simp only [VR, DR]; exact ⟨trivial, rfl⟩, hb⟩

end Sx

namespace Sx
set_option linter.unusedVariables false
set_option linter.unusedSimpArgs false
set_option maxRecDepth 100000
open Go Cv Go.Proofs

theorem dig_no {l : List UInt8} (h : l.all digB = true) : (32 : UInt8) ∉ l := fun hm => by
  have := List.all_eq_true.1 h 32 hm
  revert this; decide
theorem isW1_mk {w : List UInt8} (h : w ≠ []) (h2 : (32 : UInt8) ∉ w) : isW1 w = true := by
  simp only [isW1, Bool.and_eq_true, decide_eq_true_eq, Bool.not_eq_true']
  refine ⟨h, ?_⟩
  cases hc : w.contains 32 with
  | false => rfl
  | true => exact absurd (List.contains_iff_mem.1 hc) h2
theorem digF_w (n : Int) : isW1 (digF n) = true := by
  unfold digF
  split
  · refine isW1_mk (by simp) ?_
    rw [List.mem_cons]
    rintro (h | h)
    · revert h; decide
    · exact dig_no (digU_all _) h
  · exact isW1_mk (digU_ne _) (dig_no (digU_all _))

/-! ### Names of a product that is asked most -/
def nameN (n i : Nat) : List UInt8 := if i < n then (codeF [206, 169] (10 * (i : Int) + 3)).1 else (sprF [206, 169] (10 * (legsFrom n i n 0).1 + 3) (10 * (legsFrom n i n 0).2.1 + 3)).1
def cntN (n : Nat) : Nat := n + n * (n - 1) / 2
def nameOk (n i : Nat) : Bool := decide (foldF (nameN n i) = nameN n i) && (isW1 (nameN n i) && (decide ((nameN n i).length ≤ 11) && (List.range i).all fun j => decide (nameN n j ≠ nameN n i)))
theorem names_all : ((List.range 6).all fun n => decide (n < 2) || (List.range (cntN n)).all (nameOk n)) = true := by decide +kernel
theorem names_ok {n : Nat} (h6 : n < 6) (h2 : 2 ≤ n) {i : Nat} (hi : i < cntN n) : foldF (nameN n i) = nameN n i ∧ isW1 (nameN n i) = true ∧ (nameN n i).length ≤ 11 ∧ ∀ j, j < i → nameN n j ≠ nameN n i := by
  have h := List.all_eq_true.1 names_all n (List.mem_range.2 h6)
  rw [Bool.or_eq_true, decide_eq_true_eq] at h
  have h := List.all_eq_true.1 (h.resolve_left (by omega)) i (List.mem_range.2 hi)
  unfold nameOk at h
  simp only [Bool.and_eq_true, decide_eq_true_eq] at h
  obtain ⟨q1, q2, q3, q4⟩ := h
  refine ⟨q1, q2, q3, fun j hj => ?_⟩
  have := List.all_eq_true.1 q4 j (List.mem_range.2 hj)
  simpa using this
theorem legs_fin5 : ∀ n < 6, ∀ i < cntN n, n ≤ i → (legsFrom n i n 0).2.2 = true ∧ 0 ≤ (legsFrom n i n 0).1 ∧ (legsFrom n i n 0).1 < n ∧ 0 ≤ (legsFrom n i n 0).2.1 ∧ (legsFrom n i n 0).2.1 < n := by decide +kernel
theorem kN_nat (x : Prd) : 2 ≤ (kN x).toNat ∧ (kN x).toNat < 6 := by have := kN_bd x; omega
theorem kcnt (x : Prd) : (kprod x).count = cntN (kN x).toNat := by
  rw [count_def (kprod_check x)]
  show (kMonths (kN x).toNat).length + _ = _
  rw [show (kprod x).months.length = (kN x).toNat from kMonths_len _, kMonths_len]
  rfl
theorem kmonth (x : Prd) {n : Nat} (h : n < (kN x).toNat) : (kprod x).month n = 10 * (n : Int) + 3 := by
  show (kMonths (kN x).toNat).getD (n : Int).toNat 0 = _
  simp [kMonths, List.getD_eq_getElem?_getD, h]
theorem kname (x : Prd) {i : Nat} (h : i < (kprod x).count) : (kprod x).name (i : Int) = nameN (kN x).toNat i := by
  have hc := kcnt x
  have hl : (kprod x).months.length = (kN x).toNat := kMonths_len _
  obtain ⟨b1, b2⟩ := kN_nat x
  have hneg : ¬ ((i : Int) < 0 ∨ ((kprod x).count : Int) ≤ i) := by omega
  rw [Prd.name, if_neg hneg, Prd.legs, if_neg hneg, hl, nameN]
  by_cases hi : i < (kN x).toNat
  · rw [if_pos (by omega : (i : Int) < ((kN x).toNat : Int)), if_pos hi]
    dsimp only
    rw [if_neg (by decide), kmonth x hi]; rfl
  · rw [if_neg (by omega : ¬ (i : Int) < ((kN x).toNat : Int)), if_neg hi, Int.toNat_natCast]
    obtain ⟨q1, q2, q3, q4, q5⟩ := legs_fin5 (kN x).toNat b2 i (by omega) (by omega)
    generalize legsFrom (kN x).toNat i (kN x).toNat 0 = L at q1 q2 q3 q4 q5 ⊢
    obtain ⟨a, b, s⟩ := L
    dsimp only at q1 q2 q3 q4 q5 ⊢
    obtain ⟨a', rfl⟩ : ∃ a' : Nat, a = a' := ⟨a.toNat, by omega⟩
    obtain ⟨b', rfl⟩ : ∃ b' : Nat, b = b' := ⟨b.toNat, by omega⟩
    rw [if_pos q1, kmonth x (by omega), kmonth x (by omega)]; rfl
structure NmOk (p : Prd) (i : Int) : Prop where
  fold : foldF (p.name i) = p.name i
  w : isW1 (p.name i) = true
  len : (p.name i).length ≤ 11
  find : p.find (p.name i) = (i, true)
theorem kname_ok (x : Prd) {i : Int} (h0 : 0 ≤ i) (h1 : i < (kprod x).count) : NmOk (kprod x) i := by
  obtain ⟨n, rfl⟩ : ∃ n : Nat, i = n := ⟨i.toNat, by omega⟩
  have hn : n < (kprod x).count := by omega
  have hc := kcnt x
  obtain ⟨b1, b2⟩ := kN_nat x
  obtain ⟨q1, q2, q3, q4⟩ := names_ok b2 b1 (i := n) (by omega)
  have e := kname x hn
  refine ⟨by rw [e]; exact q1, by rw [e]; exact q2, by rw [e]; exact q3, ?_⟩
  have hf : (List.range (kprod x).count).find? (fun (m : Nat) => decide ((kprod x).name (m : Int) = (kprod x).name (n : Int))) = some n := by
    rw [List.find?_range_eq_some]
    refine ⟨by simp, List.mem_range.2 hn, fun j hj => ?_⟩
    rw [kname x (by omega), e]
    have := q4 j hj
    simpa using this
  rw [Prd.find, hf]

/-! ### What is printed is read -/
theorem sepL_words (ws : List (List UInt8)) (h : ∀ w ∈ ws, isW1 w = true) : wordsL (sepL ws) = ws := by
  cases ws with
  | nil => rfl
  | cons w ws =>
    rw [sepL, wordsL_sepW 0 ws w (fun x hx => h x (List.mem_cons_of_mem _ hx)), wordsL_one (h w List.mem_cons_self)]; rfl
structure CmOk (p : Prd) (c : Cmd) : Prop where
  kind : c.kind = 1 ∨ c.kind = 2 ∨ c.kind = 3 ∨ c.kind = 4
  id : -1000000000000000000 < c.id ∧ c.id < 1000000000000000000
  qty : -1000000000000000000 < c.qty ∧ c.qty < 1000000000000000000
  price : -1000000000000000000 < c.price ∧ c.price < 1000000000000000000
  least : -1000000000000000000 < c.least ∧ c.least < 1000000000000000000
  side : c.kind = 1 → c.side = 1 ∨ c.side = 2
  time : c.kind = 1 → c.time = 1 ∨ c.time = 2 ∨ c.time = 3
  nm : c.kind = 1 → NmOk p c.inst
  lab : c.kind = 1 → c.label ≠ [] → labOk c.label = true ∧ isW1 c.label = true
theorem fold_kw : foldF pBUY = wBUY ∧ foldF pSELL = wSELL ∧ foldF pAT = wAT ∧ foldF pID = wID ∧ foldF pLEAST = wLEAST ∧ foldF pNOW = wNOW ∧ foldF pWHOLE = wWHOLE ∧ foldF pLABEL = wLABEL ∧ foldF pCANCEL = wCANCEL ∧ foldF pCUT = wCUT ∧ foldF pCHANGE = wCHANGE := by decide +kernel
theorem fold_kw2 : foldF wBUY = wBUY ∧ foldF wSELL = wSELL ∧ foldF wAT = wAT ∧ foldF wID = wID ∧ foldF wLEAST = wLEAST ∧ foldF wNOW = wNOW ∧ foldF wWHOLE = wWHOLE ∧ foldF wLABEL = wLABEL ∧ foldF wCANCEL = wCANCEL ∧ foldF wCUT = wCUT ∧ foldF wCHANGE = wCHANGE := by decide +kernel
/-- A New's words, small or great. -/
def nwG (g : Bool) (p : Prd) (c : Cmd) : NewW := ⟨if c.side = 2 then (if g then wSELL else pSELL) else (if g then wBUY else pBUY), p.name c.inst, digF c.qty, if g then wAT else pAT, digF c.price, if g then wID else pID, digF c.id⟩
def nwOG (g : Bool) (c : Cmd) : List OI := (if c.least ≠ 0 then [oLeast (if g then wLEAST else pLEAST) (digF c.least) c.least] else []) ++ (if c.time = 2 then [oTime (if g then wNOW else pNOW) 2] else if c.time = 3 then [oTime (if g then wWHOLE else pWHOLE) 3] else []) ++ (if c.label ≠ [] then [oLabel (if g then wLABEL else pLABEL) c.label] else [])
def lineG (g : Bool) (p : Prd) (c : Cmd) : List (List UInt8) := if c.kind = 1 then (nwG g p c).ws ++ oWords (nwOG g c) else if c.kind = 2 then [if g then wCANCEL else pCANCEL, digF c.id] else if c.kind = 3 then [if g then wCUT else pCUT, digF c.id, digF c.qty] else [if g then wCHANGE else pCHANGE, digF c.id, digF c.price, digF c.qty]
theorem nwG_reads {p : Prd} {c : Cmd} (h : CmOk p c) (hk : c.kind = 1) (g : Bool) : (nwG g p c).reads p c := by
  obtain ⟨f1, f2, f3, f4, f5, f6, f7, f8, f9, f10, f11⟩ := fold_kw
  obtain ⟨g1, g2, g3, g4, g5, g6, g7, g8, g9, g10, g11⟩ := fold_kw2
  have hn := h.nm hk
  refine ⟨?_, ?_, numF_digF h.qty.1 h.qty.2, ?_, numF_digF h.price.1 h.price.2, ?_, numF_digF h.id.1 h.id.2⟩
  · rcases h.side hk with e | e
    · left
      refine ⟨?_, e⟩
      show foldF (if c.side = 2 then _ else _) = _
      rw [if_neg (by omega)]
      cases g
      · exact f1
      · exact g1
    · right
      refine ⟨?_, e⟩
      show foldF (if c.side = 2 then _ else _) = _
      rw [if_pos e]
      cases g
      · exact f2
      · exact g2
  · show p.find (foldF (p.name c.inst)) = _
    rw [hn.fold, hn.find]
  · cases g
    · exact f3
    · exact g3
  · cases g
    · exact f4
    · exact g4
theorem nwOG_reads {p : Prd} {c : Cmd} (h : CmOk p c) (hk : c.kind = 1) (g : Bool) : ∀ o ∈ nwOG g c, o.reads := by
  obtain ⟨f1, f2, f3, f4, f5, f6, f7, f8, f9, f10, f11⟩ := fold_kw
  obtain ⟨g1, g2, g3, g4, g5, g6, g7, g8, g9, g10, g11⟩ := fold_kw2
  intro o ho
  unfold nwOG at ho
  rcases List.mem_append.1 ho with ho | ho
  · rcases List.mem_append.1 ho with ho | ho
    · split at ho
      · rw [List.mem_singleton] at ho
        subst ho
        refine oLeast_reads ?_ (numF_digF h.least.1 h.least.2)
        cases g
        · exact f5
        · exact g5
      · cases ho
    · split at ho
      · rw [List.mem_singleton] at ho
        subst ho
        refine oTime_reads (.inl ⟨?_, rfl⟩)
        cases g
        · exact f6
        · exact g6
      · split at ho
        · rw [List.mem_singleton] at ho
          subst ho
          refine oTime_reads (.inr ⟨?_, rfl⟩)
          cases g
          · exact f7
          · exact g7
        · cases ho
  · split at ho
    · rename_i hl
      rw [List.mem_singleton] at ho
      subst ho
      refine oLabel_reads ?_ (h.lab hk hl).1
      cases g
      · exact f8
      · exact g8
    · cases ho
theorem nwOG_nodup (g : Bool) (c : Cmd) : ((nwOG g c).map OI.kind).Nodup := by
  unfold nwOG
  by_cases a : c.least ≠ 0 <;> by_cases b : c.time = 2 <;> by_cases b2 : c.time = 3 <;> by_cases d : c.label ≠ [] <;> simp [a, b, b2, d, oLeast, oTime, oLabel] <;> decide
theorem nwOG_all {p : Prd} {c : Cmd} (h : CmOk p c) (hk : c.kind = 1) (g : Bool) : oAll (nwOG g c) (newC c) = c := by
  have ht := h.time hk
  obtain ⟨kind, id, inst, side, price, qty, least, time, label⟩ := c
  dsimp only at hk ht
  subst hk
  unfold nwOG newC oAll
  by_cases a : least = 0 <;> by_cases d : label = [] <;> rcases ht with rfl | rfl | rfl <;> simp [a, d, oLeast, oTime, oLabel]
theorem lineG_w {p : Prd} {c : Cmd} (h : CmOk p c) (g : Bool) : ∀ w ∈ lineG g p c, isW1 w = true := by
  have k1 : isW1 pBUY = true ∧ isW1 pSELL = true ∧ isW1 pAT = true ∧ isW1 pID = true ∧ isW1 pLEAST = true ∧ isW1 pNOW = true ∧ isW1 pWHOLE = true ∧ isW1 pLABEL = true ∧ isW1 pCANCEL = true ∧ isW1 pCUT = true ∧ isW1 pCHANGE = true := by decide
  have k2 : isW1 wBUY = true ∧ isW1 wSELL = true ∧ isW1 wAT = true ∧ isW1 wID = true ∧ isW1 wLEAST = true ∧ isW1 wNOW = true ∧ isW1 wWHOLE = true ∧ isW1 wLABEL = true ∧ isW1 wCANCEL = true ∧ isW1 wCUT = true ∧ isW1 wCHANGE = true := by decide
  obtain ⟨a1, a2, a3, a4, a5, a6, a7, a8, a9, a10, a11⟩ := k1
  obtain ⟨b1, b2, b3, b4, b5, b6, b7, b8, b9, b10, b11⟩ := k2
  have hd := digF_w
  intro w hw
  unfold lineG at hw
  split at hw
  · rename_i hk
    have hn := (h.nm hk).w
    rcases List.mem_append.1 hw with hw | hw
    · simp only [nwG, NewW.ws, List.mem_cons, List.not_mem_nil, or_false] at hw
      rcases hw with rfl | rfl | rfl | rfl | rfl | rfl | rfl
      · cases g <;> split <;> simp [*]
      · exact hn
      · exact hd _
      · cases g <;> simp [*]
      · exact hd _
      · cases g <;> simp [*]
      · exact hd _
    · obtain ⟨l, hl, hw⟩ := List.mem_flatten.1 hw
      obtain ⟨o, ho, rfl⟩ := List.mem_map.1 hl
      unfold nwOG at ho
      rcases List.mem_append.1 ho with ho | ho
      · rcases List.mem_append.1 ho with ho | ho
        · split at ho
          · rw [List.mem_singleton] at ho
            subst ho
            simp only [oLeast, List.mem_cons, List.not_mem_nil, or_false] at hw
            rcases hw with rfl | rfl
            · cases g <;> simp [*]
            · exact hd _
          · cases ho
        · split at ho
          · rw [List.mem_singleton] at ho
            subst ho
            simp only [oTime, List.mem_cons, List.not_mem_nil, or_false] at hw
            subst hw
            cases g <;> simp [*]
          · split at ho
            · rw [List.mem_singleton] at ho
              subst ho
              simp only [oTime, List.mem_cons, List.not_mem_nil, or_false] at hw
              subst hw
              cases g <;> simp [*]
            · cases ho
      · split at ho
        · rename_i hlab
          rw [List.mem_singleton] at ho
          subst ho
          simp only [oLabel, List.mem_cons, List.not_mem_nil, or_false] at hw
          rcases hw with rfl | rfl
          · cases g <;> simp [*]
          · exact (h.lab hk hlab).2
        · cases ho
  · split at hw
    · simp only [List.mem_cons, List.not_mem_nil, or_false] at hw
      rcases hw with rfl | rfl
      · cases g <;> simp [*]
      · exact hd _
    · split at hw
      · simp only [List.mem_cons, List.not_mem_nil, or_false] at hw
        rcases hw with rfl | rfl | rfl
        · cases g <;> simp [*]
        · exact hd _
        · exact hd _
      · simp only [List.mem_cons, List.not_mem_nil, or_false] at hw
        rcases hw with rfl | rfl | rfl | rfl
        · cases g <;> simp [*]
        · exact hd _
        · exact hd _
        · exact hd _
theorem right_kind {c : Cmd} (h : c.right = 0) : c.kind = 1 ∨ c.kind = 2 ∨ c.kind = 3 ∨ c.kind = 4 := by
  unfold Cmd.right at h
  split at h
  · cases h
  · omega
theorem ask_right {c : Cmd} (h : c.right = 0) : c.ask.right = 0 := by
  rcases right_kind h with k | k | k | k
  · rw [Cmd.ask, if_pos k]; exact h
  · simp [Cmd.right, Cmd.ask, k] at h ⊢
    exact h
  · simp [Cmd.right, Cmd.ask, k] at h ⊢
    exact h
  · simp [Cmd.right, Cmd.ask, k] at h ⊢
    exact h
/-- A text of a command's words is read as what is asked. -/
theorem read_back {p : Prd} {c : Cmd} {s : List UInt8} (h : CmOk p c) (hR : c.right = 0) (g : Bool) (hs : wordsL s = lineG g p c) : parseF p s = (c.ask, 0, 0) := by
  obtain ⟨f1, f2, f3, f4, f5, f6, f7, f8, f9, f10, f11⟩ := fold_kw
  obtain ⟨g1, g2, g3, g4, g5, g6, g7, g8, g9, g10, g11⟩ := fold_kw2
  have hA := ask_right hR
  have nid := numF_digF h.id.1 h.id.2
  have nq := numF_digF h.qty.1 h.qty.2
  have npr := numF_digF h.price.1 h.price.2
  unfold lineG at hs
  unfold Cmd.ask at hA ⊢
  by_cases hk : c.kind = 1
  · rw [if_pos hk] at hs hA ⊢
    have e := nwOG_all h hk g
    have := parse_new (nwG_reads h hk g) hs (nwOG_reads h hk g) (nwOG_nodup g c) (by rw [e]; exact hR)
    rw [this, e]
  rw [if_neg hk] at hs hA ⊢
  by_cases hk2 : c.kind = 2
  · rw [if_pos hk2] at hs hA ⊢
    refine parse_cancel hs ?_ nid hA
    cases g
    · exact f9
    · exact g9
  rw [if_neg hk2] at hs hA ⊢
  by_cases hk3 : c.kind = 3
  · rw [if_pos hk3] at hs hA ⊢
    refine parse_cut hs ?_ nid nq hA
    cases g
    · exact f10
    · exact g10
  rw [if_neg hk3] at hs hA ⊢
  have hk4 : c.kind = 4 := by rcases h.kind with e | e | e | e <;> first | exact absurd e hk | exact absurd e hk2 | exact absurd e hk3 | exact e
  rw [if_pos hk4] at hA ⊢
  refine parse_change hs ?_ nid npr nq hA
  cases g
  · exact f11
  · exact g11
theorem print_ok {p : Prd} {c : Cmd} (h : CmOk p c) (hR : c.right = 0) : printF p c = lineF p c ∧ wordsL (lineF p c) = lineW p c ∧ parseF p (lineF p c) = (c.ask, 0, 0) := by
  have hw : wordsL (lineF p c) = lineW p c := by
    rw [lineF, sepL_words]
    intro w hw
    exact lineG_w h false w hw
  have hp := read_back h hR false (s := lineF p c) hw
  refine ⟨?_, hw, hp⟩
  rw [printF, if_neg (by rw [hR]; simp), hp, if_neg (by simp)]
end Sx

namespace Sx
set_option linter.unusedVariables false
set_option linter.unusedSimpArgs false
set_option maxRecDepth 100000
open Go Cv Go.Proofs

theorem digs_ok : digC.ok Tryd.prog 27 := bydigs (gokc fmt_ok gok0) fun n h => ⟨n, rfl, rfl, h, fun _ _ => ⟨(), rfl, trivial⟩⟩
theorem digN_fuel : ∀ (k u : Nat) (acc : List UInt8), (digN k u acc).length ≤ k + acc.length
  | 0, u, acc => by simp [digN]
  | k + 1, u, acc => by
    rw [digN]
    split
    · omega
    · have := digN_fuel k (u / 10) (UInt8.ofNat (48 + u % 10) :: acc)
      rw [List.length_cons] at this
      omega
theorem digF_26 (n : Int) : (digF n).length ≤ 26 := by
  have h := fun u => digN_fuel 25 u []
  unfold digF
  split
  · have := h (-n).toNat
    simp only [digU, List.length_cons, List.length_nil] at this ⊢
    omega
  · have := h n.toNat
    simp only [digU, List.length_nil] at this ⊢
    omega
theorem sprF_len (c : List UInt8) (a b : Int) : (sprF c a b).1.length ≤ 2 * c.length + 7 := by
  have h1 := codeF_len c a
  have h2 := codeF_len c b
  unfold sprF
  split
  · simp
  split
  · simp
  split
  · simp
  · simp only [List.length_append, List.length_cons, List.length_nil]
    omega
theorem name_len (p : Prd) (n : Int) : (p.name n).length ≤ 2 * p.code.length + 7 := by
  unfold Prd.name
  split
  · simp
  split
  · exact sprF_len _ _ _
  · have := codeF_len p.code (p.month (p.legs n).1)
    omega

theorem vask (c : Cmd) (h : askC.cnd c) : Vask c := by
  unfold Vask
  refine Cv.cnd.mk (fun d => ?_) fun d => Cv.cnd.mk (fun d2 => ?_) fun d2 => Cv.cnd.mk (fun d3 => ?_) fun d3 => Cv.cnd.mk (fun d4 => ?_) fun d4 => ?_
  all_goals
    simp only [beq_iff_eq, beq_eq_false_iff_ne, ne_eq] at *
    simp only [Cmd.ask, *, if_true, if_false]
    (repeat' (first | exact rfl | exact trivial | assumption | apply And.intro | (refine fun (_ : Unit) (_ : True) => ?_) | (refine Exists.intro () ?_) | omega | (dsimp only; omega)))
theorem ask_ok : askC.ok Tryd.prog 28 := byask gok0 vask
theorem vask6 (c : Cmd) (h : askC.cnd c) : Vask6 c := by
  unfold Vask6
  refine Cv.cnd.mk (fun d => ?_) fun d => Cv.cnd.mk (fun d2 => ?_) fun d2 => Cv.cnd.mk (fun d3 => ?_) fun d3 => Cv.cnd.mk (fun d4 => ?_) fun d4 => ?_
  all_goals
    simp only [beq_iff_eq, beq_eq_false_iff_ne, ne_eq] at *
    simp only [Cmd.ask, *, if_true, if_false]
    (repeat' (first | exact rfl | exact trivial | assumption | apply And.intro | (refine fun (_ : Unit) (_ : True) => ?_) | (refine Exists.intro () ?_) | omega | (dsimp only; omega)))
theorem ask6_ok : askC.ok Tryd.prog 18 := byask6 gok0 vask6

theorem bBUY : ByteArray.mk #[98, 117, 121] = sb [98, 117, 121] := rfl
theorem bSELL : ByteArray.mk #[115, 101, 108, 108] = sb [115, 101, 108, 108] := rfl
theorem b32 : ByteArray.mk #[32] = sb [32] := rfl
theorem bAT : ByteArray.mk #[32, 97, 116, 32] = sb [32, 97, 116, 32] := rfl
theorem bID : ByteArray.mk #[32, 105, 100, 32] = sb [32, 105, 100, 32] := rfl
theorem bLEAST : ByteArray.mk #[32, 108, 101, 97, 115, 116, 32] = sb [32, 108, 101, 97, 115, 116, 32] := rfl
theorem bNOW : ByteArray.mk #[32, 110, 111, 119] = sb [32, 110, 111, 119] := rfl
theorem bWHOLE : ByteArray.mk #[32, 119, 104, 111, 108, 101] = sb [32, 119, 104, 111, 108, 101] := rfl
theorem bLABEL : ByteArray.mk #[32, 108, 97, 98, 101, 108, 32] = sb [32, 108, 97, 98, 101, 108, 32] := rfl
theorem bCANCEL : ByteArray.mk #[99, 97, 110, 99, 101, 108, 32] = sb [99, 97, 110, 99, 101, 108, 32] := rfl
theorem bCUT : ByteArray.mk #[99, 117, 116, 32] = sb [99, 117, 116, 32] := rfl
theorem bCHANGE : ByteArray.mk #[99, 104, 97, 110, 103, 101, 32] = sb [99, 104, 97, 110, 103, 101, 32] := rfl

set_option maxHeartbeats 4000000 in
theorem vprnt (i : PcI) (h : prntC.cnd i) : Vprnt i := by
  obtain ⟨h1, h2, h3, h4⟩ : i.p.small ∧ i.p.code.length ≤ 1000 ∧ i.c.raw ∧ i.c.label.length ≤ 1000 := h
  obtain ⟨r1, r2, r3, r4, r5, r6, r7, r8⟩ := h3
  have hn := name_len i.p i.c.inst
  have d1 := digF_26 i.c.qty
  have d2 := digF_26 i.c.price
  have d3 := digF_26 i.c.id
  have d4 := digF_26 i.c.least
  unfold Vprnt
  simp only [bBUY, bSELL, b32, bAT, bID, bLEAST, bNOW, bWHOLE, bLABEL, sb_nil', ← sb_app, sb_size, i64max, eqB, List.length_append, List.length_cons, List.length_nil]
  refine Cv.cnd.mk (fun c1 => ?_) fun c1 => ?_
  all_goals
    refine ⟨by omega, ⟨i.p, i.c.inst⟩, rfl, rfl, rfl, rfl, rfl, rfl, rfl, rfl, rfl, rfl, rfl, rfl, h1, fun _ _ => ⟨by (first | exact rfl | exact trivial), by (first | exact rfl | exact trivial), by (first | exact rfl | exact trivial), by (first | omega | (dsimp only; omega)), by (first | omega | (dsimp only; omega)), i.c.qty, rfl, r6, fun _ _ => ⟨by (first | exact rfl | exact trivial), by (first | exact rfl | exact trivial), by (first | omega | (dsimp only; omega)), by (first | omega | (dsimp only; omega)), i.c.price, rfl, r5, fun _ _ => ⟨by (first | exact rfl | exact trivial), by (first | omega | (dsimp only; omega)), by (first | omega | (dsimp only; omega)), i.c.id, rfl, r2, fun _ _ => ⟨by (first | omega | (dsimp only; omega)), ?_⟩⟩⟩⟩⟩
    refine Cv.cnd.mk (fun c2 => ⟨i.c.least, rfl, r7, fun _ _ => ⟨by omega, by (first | omega | (dsimp only; omega)), Cv.cnd.mk (fun c3 => ⟨by (first | omega | (dsimp only; omega)), Cv.cnd.mk (fun c4 => ⟨by omega, by (first | omega | (dsimp only; omega)), (), ?_, trivial⟩) (fun c4 => ⟨(), ?_, trivial⟩)⟩) (fun c3 => Cv.cnd.mk (fun c5 => ⟨by (first | omega | (dsimp only; omega)), Cv.cnd.mk (fun c4 => ⟨by omega, by (first | omega | (dsimp only; omega)), (), ?_, trivial⟩) (fun c4 => ⟨(), ?_, trivial⟩)⟩) (fun c5 => Cv.cnd.mk (fun c4 => ⟨by omega, by (first | omega | (dsimp only; omega)), (), ?_, trivial⟩) (fun c4 => ⟨(), ?_, trivial⟩)))⟩⟩)
      (fun c2 => Cv.cnd.mk (fun c3 => ⟨by (first | omega | (dsimp only; omega)), Cv.cnd.mk (fun c4 => ⟨by omega, by (first | omega | (dsimp only; omega)), (), ?_, trivial⟩) (fun c4 => ⟨(), ?_, trivial⟩)⟩) (fun c3 => Cv.cnd.mk (fun c5 => ⟨by (first | omega | (dsimp only; omega)), Cv.cnd.mk (fun c4 => ⟨by omega, by (first | omega | (dsimp only; omega)), (), ?_, trivial⟩) (fun c4 => ⟨(), ?_, trivial⟩)⟩) (fun c5 => Cv.cnd.mk (fun c4 => ⟨by omega, by (first | omega | (dsimp only; omega)), (), ?_, trivial⟩) (fun c4 => ⟨(), ?_, trivial⟩))))
  all_goals
    clear hn d1 d2 d3 d4 h1 h2 h4 r1 r2 r3 r4 r5 r6 r7 r8
    simp only [beq_iff_eq, beq_eq_false_iff_ne, ne_eq, bne_iff_ne, bne_eq_false_iff_eq, Bool.not_eq_true', Bool.not_eq_false', decide_eq_true_eq, decide_eq_false_iff_not, Decidable.not_not] at *
    refine congrArg sb ?_
    simp [nwW, NewW.ws, nwO, oWords, sepL, sepW, oLeast, oTime, oLabel, pBUY, pSELL, pAT, pID, pLEAST, pNOW, pWHOLE, pLABEL, *]
theorem prnt_ok : prntC.ok Tryd.prog 26 := byprnt (gokc name_ok (gokc digs_ok gok0)) vprnt

theorem beqSb (a b : List UInt8) : (sb a == sb b) = decide (a = b) := by
  have e : (sb a == sb b) = (a.toArray == b.toArray) := rfl
  rw [e]
  by_cases h : a = b
  · subst h; simp
  · rw [decide_eq_false h]
    simpa using h
theorem cmd_ne (a b : Cmd) : (!(a.kind == b.kind && (a.id == b.id && (a.inst == b.inst && (a.side == b.side && (a.price == b.price && (a.qty == b.qty && (a.least == b.least && (a.time == b.time && (sb a.label == sb b.label && true)))))))))) = !decide (a = b) := by
  rw [beqSb]
  by_cases h : a = b
  · subst h; simp
  · rw [decide_eq_false h]
    cases hb : (a.kind == b.kind && (a.id == b.id && (a.inst == b.inst && (a.side == b.side && (a.price == b.price && (a.qty == b.qty && (a.least == b.least && (a.time == b.time && (decide (a.label = b.label) && true))))))))) with
    | false => rfl
    | true =>
      exfalso
      simp only [Bool.and_eq_true, beq_iff_eq, decide_eq_true_eq] at hb
      obtain ⟨q1, q2, q3, q4, q5, q6, q7, q8, q9, _⟩ := hb
      apply h
      cases a; cases b
      simp only [Cmd.mk.injEq]
      exact ⟨q1, q2, q3, q4, q5, q6, q7, q8, q9⟩
theorem line_len (p : Prd) (c : Cmd) : (lineF p c).length ≤ 2 * p.code.length + c.label.length + 400 := by
  have hn := name_len p c.inst
  have d1 := digF_26 c.qty
  have d2 := digF_26 c.price
  have d3 := digF_26 c.id
  have d4 := digF_26 c.least
  unfold lineF lineW
  split
  · unfold nwO nwW
    by_cases a : c.least = 0 <;> by_cases b : c.time = 2 <;> by_cases b2 : c.time = 3 <;> by_cases d : c.label = [] <;> by_cases e : c.side = 2 <;> simp [NewW.ws, oWords, sepL, sepW, oLeast, oTime, oLabel, pBUY, pSELL, pAT, pID, pLEAST, pNOW, pWHOLE, pLABEL, a, b, b2, d, e] <;> omega
  split
  · simp [sepL, sepW, pCANCEL]; omega
  split
  · simp [sepL, sepW, pCUT]; omega
  · simp [sepL, sepW, pCHANGE]; omega

set_option maxHeartbeats 4000000 in
theorem vprint (i : PcI) (h : printC.cnd i) : Vprint i := by
  obtain ⟨h1, h2, h3, h4⟩ : i.p.small ∧ i.p.code.length ≤ 1000 ∧ i.c.raw ∧ i.c.label.length ≤ 1000 := h
  have h3' := h3
  obtain ⟨r1, r2, r3, r4, r5, r6, r7, r8⟩ := h3
  have d1 := digF_26 i.c.qty
  have d2 := digF_26 i.c.price
  have d3 := digF_26 i.c.id
  have hl := line_len i.p i.c
  have hL : (lineF i.p i.c).length ≤ 1048576 := by omega
  have hp : printF i.p i.c = if i.c.right ≠ 0 then [] else if (parseF i.p (lineF i.p i.c)).2.1 ≠ 0 ∨ (parseF i.p (lineF i.p i.c)).1 ≠ i.c.ask then [] else lineF i.p i.c := rfl
  unfold Vprint
  simp only [bCANCEL, bCUT, bCHANGE, b32, sb_nil', ← sb_app, sb_size, i64max, List.length_append, List.length_cons, List.length_nil, cmd_ne]
  generalize printF i.p i.c = F at hp ⊢
  refine ⟨i.c, rfl, rfl, rfl, rfl, rfl, rfl, rfl, rfl, rfl, by omega, fun _ _ => Cv.cnd.mk (fun c => ⟨(), ?_, trivial⟩) fun c => ?_⟩
  · have c : i.c.right ≠ 0 := by simpa using c
    rw [hp, if_pos c]
  have c : ¬ i.c.right ≠ 0 := by simpa using c
  rw [if_neg c] at hp
  refine Cv.cnd.mk (fun k => ?_) fun k => Cv.cnd.mk (fun k2 => ?_) fun k2 => Cv.cnd.mk (fun k3 => ?_) fun k3 => ?_
  all_goals simp only [beq_iff_eq, beq_eq_false_iff_ne, ne_eq] at k
  · have e : lineF i.p i.c = sepL ((nwW i.p i.c).ws ++ oWords (nwO i.c)) := by rw [lineF, lineW, if_pos k]
    refine ⟨i, rfl, rfl, rfl, rfl, rfl, rfl, rfl, rfl, rfl, rfl, rfl, rfl, rfl, rfl, rfl, rfl, rfl, rfl, rfl, rfl, ⟨h1, h2, h3', h4⟩, fun _ _ => ?_⟩
    rw [← e]
    generalize lineF i.p i.c = L at hp hL ⊢
    clear e hl d1 d2 d3
    refine ⟨⟨i.p, L⟩, rfl, rfl, rfl, rfl, rfl, rfl, rfl, rfl, rfl, rfl, rfl, rfl, ⟨h1, hL⟩, fun _ _ => ?_⟩
    dsimp only
    generalize parseF i.p L = R at hp ⊢
    refine Cv.cnd.mk (fun d => ⟨(), ?_, trivial⟩) fun d => ⟨i.c, rfl, rfl, rfl, rfl, rfl, rfl, rfl, rfl, rfl, trivial, fun _ _ => ⟨by (repeat' (first | exact rfl | exact trivial | assumption | apply And.intro | (refine fun (_ : Unit) (_ : True) => ?_) | (refine Exists.intro () ?_) | omega | (dsimp only; omega))), Cv.cnd.mk (fun f => ⟨(), ?_, trivial⟩) fun f => ⟨(), ?_, trivial⟩⟩⟩
    · rw [hp, if_pos (.inl (by simpa using d))]
    · rw [hp, if_pos (.inr (by simpa using f))]
    · rw [hp, if_neg]
      rintro (g | g)
      · exact g (by simpa using d)
      · exact g (by simpa using f)
  · simp only [beq_iff_eq, beq_eq_false_iff_ne, ne_eq] at k2
    have e : lineF i.p i.c = [99, 97, 110, 99, 101, 108, 32] ++ digF i.c.id := by
      rw [lineF, lineW, if_neg k, if_pos k2]; simp [sepL, sepW, pCANCEL]
    refine ⟨i.c.id, rfl, r2, fun _ _ => ⟨by omega, ?_⟩⟩
    rw [← e]
    generalize lineF i.p i.c = L at hp hL ⊢
    clear e hl d1 d2 d3
    refine ⟨⟨i.p, L⟩, rfl, rfl, rfl, rfl, rfl, rfl, rfl, rfl, rfl, rfl, rfl, rfl, ⟨h1, hL⟩, fun _ _ => ?_⟩
    dsimp only
    generalize parseF i.p L = R at hp ⊢
    refine Cv.cnd.mk (fun d => ⟨(), ?_, trivial⟩) fun d => ⟨i.c, rfl, rfl, rfl, rfl, rfl, rfl, rfl, rfl, rfl, trivial, fun _ _ => ⟨by (repeat' (first | exact rfl | exact trivial | assumption | apply And.intro | (refine fun (_ : Unit) (_ : True) => ?_) | (refine Exists.intro () ?_) | omega | (dsimp only; omega))), Cv.cnd.mk (fun f => ⟨(), ?_, trivial⟩) fun f => ⟨(), ?_, trivial⟩⟩⟩
    · rw [hp, if_pos (.inl (by simpa using d))]
    · rw [hp, if_pos (.inr (by simpa using f))]
    · rw [hp, if_neg]
      rintro (g | g)
      · exact g (by simpa using d)
      · exact g (by simpa using f)
  · simp only [beq_iff_eq, beq_eq_false_iff_ne, ne_eq] at k2 k3
    have e : lineF i.p i.c = [99, 117, 116, 32] ++ digF i.c.id ++ [32] ++ digF i.c.qty := by
      rw [lineF, lineW, if_neg k, if_neg k2, if_pos k3]; simp [sepL, sepW, pCUT]
    refine ⟨i.c.id, rfl, r2, fun _ _ => ⟨by (first | exact rfl | exact trivial), by omega, by omega, i.c.qty, rfl, r6, fun _ _ => ⟨by (first | omega | (dsimp only; omega)), ?_⟩⟩⟩
    rw [← e]
    generalize lineF i.p i.c = L at hp hL ⊢
    clear e hl d1 d2 d3
    refine ⟨⟨i.p, L⟩, rfl, rfl, rfl, rfl, rfl, rfl, rfl, rfl, rfl, rfl, rfl, rfl, ⟨h1, hL⟩, fun _ _ => ?_⟩
    dsimp only
    generalize parseF i.p L = R at hp ⊢
    refine Cv.cnd.mk (fun d => ⟨(), ?_, trivial⟩) fun d => ⟨i.c, rfl, rfl, rfl, rfl, rfl, rfl, rfl, rfl, rfl, trivial, fun _ _ => ⟨by (repeat' (first | exact rfl | exact trivial | assumption | apply And.intro | (refine fun (_ : Unit) (_ : True) => ?_) | (refine Exists.intro () ?_) | omega | (dsimp only; omega))), Cv.cnd.mk (fun f => ⟨(), ?_, trivial⟩) fun f => ⟨(), ?_, trivial⟩⟩⟩
    · rw [hp, if_pos (.inl (by simpa using d))]
    · rw [hp, if_pos (.inr (by simpa using f))]
    · rw [hp, if_neg]
      rintro (g | g)
      · exact g (by simpa using d)
      · exact g (by simpa using f)
  · simp only [beq_iff_eq, beq_eq_false_iff_ne, ne_eq] at k2 k3
    have e : lineF i.p i.c = [99, 104, 97, 110, 103, 101, 32] ++ digF i.c.id ++ [32] ++ digF i.c.price ++ [32] ++ digF i.c.qty := by
      rw [lineF, lineW, if_neg k, if_neg k2, if_neg k3]; simp [sepL, sepW, pCHANGE]
    refine ⟨i.c.id, rfl, r2, fun _ _ => ⟨by (first | exact rfl | exact trivial), by (first | exact rfl | exact trivial), by omega, by omega, i.c.price, rfl, r5, fun _ _ => ⟨by (first | exact rfl | exact trivial), by (first | omega | (dsimp only; omega)), by (first | omega | (dsimp only; omega)), i.c.qty, rfl, r6, fun _ _ => ⟨by (first | omega | (dsimp only; omega)), ?_⟩⟩⟩⟩
    rw [← e]
    generalize lineF i.p i.c = L at hp hL ⊢
    clear e hl d1 d2 d3
    refine ⟨⟨i.p, L⟩, rfl, rfl, rfl, rfl, rfl, rfl, rfl, rfl, rfl, rfl, rfl, rfl, ⟨h1, hL⟩, fun _ _ => ?_⟩
    dsimp only
    generalize parseF i.p L = R at hp ⊢
    refine Cv.cnd.mk (fun d => ⟨(), ?_, trivial⟩) fun d => ⟨i.c, rfl, rfl, rfl, rfl, rfl, rfl, rfl, rfl, rfl, trivial, fun _ _ => ⟨by (repeat' (first | exact rfl | exact trivial | assumption | apply And.intro | (refine fun (_ : Unit) (_ : True) => ?_) | (refine Exists.intro () ?_) | omega | (dsimp only; omega))), Cv.cnd.mk (fun f => ⟨(), ?_, trivial⟩) fun f => ⟨(), ?_, trivial⟩⟩⟩
    · rw [hp, if_pos (.inl (by simpa using d))]
    · rw [hp, if_pos (.inr (by simpa using f))]
    · rw [hp, if_neg]
      rintro (g | g)
      · exact g (by simpa using d)
      · exact g (by simpa using f)
theorem print_okC : printC.ok Tryd.prog 16 := byprint (gokc right_ok (gokc prnt_ok (gokc digs_ok (gokc parse_ok (gokc ask_ok gok0))))) vprint

end Sx

namespace Sx
set_option linter.unusedVariables false
set_option maxRecDepth 100000
open Go Cv Go.Proofs

structure CoI where
  x : Prd
  c : Cmd
  how : Int
def coX (i : CoI) : Cmd := { tame ⟨kprod i.x, i.c, 3⟩ with kind := 1, side := if (tame ⟨kprod i.x, i.c, 3⟩).side = 0 then 1 else (tame ⟨kprod i.x, i.c, 3⟩).side }
def coD (i : CoI) : Cmd := { coX i with id := 4, least := 1, time := 2, label := [120] }
def coB (i : CoI) : Cmd := ⟨1, 4, (coX i).inst, (coX i).side, (coX i).price, (coX i).qty, 0, 1, []⟩
def corderC : Con := con1 CoI (fun i => [prdV i.x, cmdV i.c, i64V i.how]) (fun _ => []) (fun i => i.x.raw ∧ i.c.raw ∧ i64r i.how) (fun _ => boolV true) (fun _ => [])
def corderJ : List (Nat × SAnn) := [(18, { ι := Cmd, slots := fun _ => [(8, .nm 0 0)], slots0 := fun _ => [(8, .nm 0 0)], rows0 := fun c => [.cells c.cells 39], rows := fun c => [.cells c.cells 39] })]

end Sx

namespace Sx
set_option linter.unusedVariables false
set_option maxRecDepth 100000
open Go Cv Go.Proofs
@[reducible] def Vcorderr0 (i_1 : Prd) : AObj := Sx.AObj.cells [V.d (D.v (Value.string (sb [(206 : UInt8), (169 : UInt8)]))), V.own ((0 : Nat) + (1 : Nat) + (1 : Nat) + (1 : Nat) + (1 : Nat) + ((0 : Nat) - (0 : Nat)) + (1 : Nat)), V.d (D.v (.int .i64 (kTick i_1))), V.d (D.v (.int .i64 ((-20 : Int) * kTick i_1))), V.d (D.v (.int .i64 ((100 : Int) * kTick i_1))), V.d (D.v (.int .i64 (kTick i_1 * ((5 : Int) + within i_1.wide (0 : Int) (60 : Int))))), V.d (D.v (.int .i64 ((1 : Int) + within i_1.rule (0 : Int) (2 : Int)))), V.d (D.v (.int .i64 (within i_1.top (0 : Int) (9 : Int)))), V.d (D.v (.int .i64 ((1 : Int) + within i_1.least (0 : Int) (4 : Int)))), V.d (D.v (.int .i64 (within i_1.part (0 : Int) (100 : Int)))), V.own ((0 : Nat) + (1 : Nat) + (1 : Nat) + (1 : Nat) + (1 : Nat) + ((0 : Nat) - (0 : Nat)) + (1 : Nat) + (1 : Nat))] (37 : Nat)
@[reducible] def Vcorderr1 (i : CoI) : AObj := Sx.AObj.cells [V.d (D.v (.int .i64 i.c.kind)), V.d (D.v (.int .i64 i.c.id)), V.d (D.v (.int .i64 i.c.inst)), V.d (D.v (.int .i64 i.c.side)), V.d (D.v (.int .i64 i.c.price)), V.d (D.v (.int .i64 i.c.qty)), V.d (D.v (.int .i64 i.c.least)), V.d (D.v (.int .i64 i.c.time)), V.d (D.v (Value.string (sb i.c.label)))] (39 : Nat)
@[reducible] def Vcorderr2 (i : CoI) : AObj := Sx.AObj.cells [V.d (D.v (Value.string (sb i.x.code))), V.own (0 : Nat), V.d (D.v (.int .i64 i.x.tick)), V.d (D.v (.int .i64 i.x.low)), V.d (D.v (.int .i64 i.x.high)), V.d (D.v (.int .i64 i.x.wide)), V.d (D.v (.int .i64 i.x.rule)), V.d (D.v (.int .i64 i.x.top)), V.d (D.v (.int .i64 i.x.least)), V.d (D.v (.int .i64 i.x.part)), V.own ((0 : Nat) + (1 : Nat))] (37 : Nat)
def Vcorder (i : CoI) : Prop :=
  ∃ (i_1 : Prd), sb i_1.code = sb i.x.code ∧ iE i_1.months = iE i.x.months ∧ i_1.tick = i.x.tick ∧ i_1.low = i.x.low ∧ i_1.high = i.x.high ∧ i_1.wide = i.x.wide ∧ i_1.rule = i.x.rule ∧ i_1.top = i.x.top ∧ i_1.least = i.x.least ∧ i_1.part = i.x.part ∧ iE i_1.settle = iE i.x.settle ∧ (((-9223372036854775808 : Int) ≤ i_1.tick ∧ i_1.tick ≤ (9223372036854775807 : Int)) ∧ ((-9223372036854775808 : Int) ≤ i_1.wide ∧ i_1.wide ≤ (9223372036854775807 : Int)) ∧ ((-9223372036854775808 : Int) ≤ i_1.rule ∧ i_1.rule ≤ (9223372036854775807 : Int)) ∧ ((-9223372036854775808 : Int) ≤ i_1.top ∧ i_1.top ≤ (9223372036854775807 : Int)) ∧ ((-9223372036854775808 : Int) ≤ i_1.least ∧ i_1.least ≤ (9223372036854775807 : Int)) ∧ ((-9223372036854775808 : Int) ≤ i_1.part ∧ i_1.part ≤ (9223372036854775807 : Int)) ∧ i_1.months.length ≤ (9223372036854775807 : Nat)) ∧ ∀ (o : Unit), True → ∃ (i_2 : TmI), sb i_2.p.code = sb [(206 : UInt8), (169 : UInt8)] ∧ iE i_2.p.months = iE (kMonths (kN i_1).toNat) ∧ i_2.p.tick = kTick i_1 ∧ i_2.p.low = (-20 : Int) * kTick i_1 ∧ i_2.p.high = (100 : Int) * kTick i_1 ∧ i_2.p.wide = kTick i_1 * ((5 : Int) + within i_1.wide (0 : Int) (60 : Int)) ∧ i_2.p.rule = (1 : Int) + within i_1.rule (0 : Int) (2 : Int) ∧ i_2.p.top = within i_1.top (0 : Int) (9 : Int) ∧ i_2.p.least = (1 : Int) + within i_1.least (0 : Int) (4 : Int) ∧ i_2.p.part = within i_1.part (0 : Int) (100 : Int) ∧ iE i_2.p.settle = iE (kSettle (kTick i_1) (kN i_1).toNat) ∧ i_2.c.kind = i.c.kind ∧ i_2.c.id = i.c.id ∧ i_2.c.inst = i.c.inst ∧ i_2.c.side = i.c.side ∧ i_2.c.price = i.c.price ∧ i_2.c.qty = i.c.qty ∧ i_2.c.least = i.c.least ∧ i_2.c.time = i.c.time ∧ sb i_2.c.label = sb i.c.label ∧ i_2.i = (3 : Int) ∧ (i_2.p.check = (0 : Int) ∧ (i_2.p.code.length ≤ (1099511627776 : Nat) ∧ i_2.p.months.length ≤ (1099511627776 : Nat) ∧ i_2.p.settle.length ≤ (1099511627776 : Nat)) ∧ (((-9223372036854775808 : Int) ≤ i_2.c.kind ∧ i_2.c.kind ≤ (9223372036854775807 : Int)) ∧ ((-9223372036854775808 : Int) ≤ i_2.c.id ∧ i_2.c.id ≤ (9223372036854775807 : Int)) ∧ ((-9223372036854775808 : Int) ≤ i_2.c.inst ∧ i_2.c.inst ≤ (9223372036854775807 : Int)) ∧ ((-9223372036854775808 : Int) ≤ i_2.c.side ∧ i_2.c.side ≤ (9223372036854775807 : Int)) ∧ ((-9223372036854775808 : Int) ≤ i_2.c.price ∧ i_2.c.price ≤ (9223372036854775807 : Int)) ∧ ((-9223372036854775808 : Int) ≤ i_2.c.qty ∧ i_2.c.qty ≤ (9223372036854775807 : Int)) ∧ ((-9223372036854775808 : Int) ≤ i_2.c.least ∧ i_2.c.least ≤ (9223372036854775807 : Int)) ∧ (-9223372036854775808 : Int) ≤ i_2.c.time ∧ i_2.c.time ≤ (9223372036854775807 : Int)) ∧ (0 : Int) ≤ i_2.i ∧ i_2.i ≤ (1000000 : Int)) ∧ ∀ (o : Unit), True → ∃ (i0 : Cmd), i0.kind = (1 : Int) ∧ i0.id = (tame i_2).id ∧ i0.inst = (tame i_2).inst ∧ i0.side = (tame i_2).side ∧ i0.price = (tame i_2).price ∧ i0.qty = (tame i_2).qty ∧ i0.least = (tame i_2).least ∧ i0.time = (tame i_2).time ∧ sb i0.label = sb (tame i_2).label ∧ ∃ (I : Cmd → Prop), cnd (i0.side == (0 : Int)) (∃ (i' : Cmd), i'.kind = i0.kind ∧ i'.id = i0.id ∧ i'.inst = i0.inst ∧ i'.side = (1 : Int) ∧ i'.price = i0.price ∧ i'.qty = i0.qty ∧ i'.least = i0.least ∧ i'.time = i0.time ∧ sb i'.label = sb i0.label ∧ I i' ∧ AObj.fro (1 : Nat) (iE (kSettle (kTick i_1) (kN i_1).toNat)) = AObj.fro (1 : Nat) (iE (kSettle (kTick i_1) (kN i_1).toNat)) ∧ AObj.fro (1 : Nat) (iE (kMonths (kN i_1).toNat)) = AObj.fro (1 : Nat) (iE (kMonths (kN i_1).toNat)) ∧ Vcorderr0 i_1 = Vcorderr0 i_1 ∧ Vcorderr1 i = Vcorderr1 i ∧ Vcorderr2 i = Vcorderr2 i ∧ AObj.fro (1 : Nat) (iE i.x.settle) = AObj.fro (1 : Nat) (iE i.x.settle) ∧ AObj.fro (1 : Nat) (iE i.x.months) = AObj.fro (1 : Nat) (iE i.x.months)) (∃ (i' : Cmd), i'.kind = i0.kind ∧ i'.id = i0.id ∧ i'.inst = i0.inst ∧ i'.side = i0.side ∧ i'.price = i0.price ∧ i'.qty = i0.qty ∧ i'.least = i0.least ∧ i'.time = i0.time ∧ sb i'.label = sb i0.label ∧ I i' ∧ AObj.fro (1 : Nat) (iE (kSettle (kTick i_1) (kN i_1).toNat)) = AObj.fro (1 : Nat) (iE (kSettle (kTick i_1) (kN i_1).toNat)) ∧ AObj.fro (1 : Nat) (iE (kMonths (kN i_1).toNat)) = AObj.fro (1 : Nat) (iE (kMonths (kN i_1).toNat)) ∧ Vcorderr0 i_1 = Vcorderr0 i_1 ∧ Vcorderr1 i = Vcorderr1 i ∧ Vcorderr2 i = Vcorderr2 i ∧ AObj.fro (1 : Nat) (iE i.x.settle) = AObj.fro (1 : Nat) (iE i.x.settle) ∧ AObj.fro (1 : Nat) (iE i.x.months) = AObj.fro (1 : Nat) (iE i.x.months)) ∧ ∀ (i_3 : Cmd), I i_3 → ∃ (i_4 : PcI), sb i_4.p.code = sb [(206 : UInt8), (169 : UInt8)] ∧ iE i_4.p.months = iE (kMonths (kN i_1).toNat) ∧ i_4.p.tick = kTick i_1 ∧ i_4.p.low = (-20 : Int) * kTick i_1 ∧ i_4.p.high = (100 : Int) * kTick i_1 ∧ i_4.p.wide = kTick i_1 * ((5 : Int) + within i_1.wide (0 : Int) (60 : Int)) ∧ i_4.p.rule = (1 : Int) + within i_1.rule (0 : Int) (2 : Int) ∧ i_4.p.top = within i_1.top (0 : Int) (9 : Int) ∧ i_4.p.least = (1 : Int) + within i_1.least (0 : Int) (4 : Int) ∧ i_4.p.part = within i_1.part (0 : Int) (100 : Int) ∧ iE i_4.p.settle = iE (kSettle (kTick i_1) (kN i_1).toNat) ∧ i_4.c.kind = (1 : Int) ∧ i_4.c.id = (4 : Int) ∧ i_4.c.inst = i_3.inst ∧ i_4.c.side = i_3.side ∧ i_4.c.price = i_3.price ∧ i_4.c.qty = i_3.qty ∧ i_4.c.least = (0 : Int) ∧ i_4.c.time = (1 : Int) ∧ sb i_4.c.label = ByteArray.mk #[] ∧ ((i_4.p.code.length ≤ (1099511627776 : Nat) ∧ i_4.p.months.length ≤ (1099511627776 : Nat) ∧ i_4.p.settle.length ≤ (1099511627776 : Nat)) ∧ i_4.p.code.length ≤ (1000 : Nat) ∧ (((-9223372036854775808 : Int) ≤ i_4.c.kind ∧ i_4.c.kind ≤ (9223372036854775807 : Int)) ∧ ((-9223372036854775808 : Int) ≤ i_4.c.id ∧ i_4.c.id ≤ (9223372036854775807 : Int)) ∧ ((-9223372036854775808 : Int) ≤ i_4.c.inst ∧ i_4.c.inst ≤ (9223372036854775807 : Int)) ∧ ((-9223372036854775808 : Int) ≤ i_4.c.side ∧ i_4.c.side ≤ (9223372036854775807 : Int)) ∧ ((-9223372036854775808 : Int) ≤ i_4.c.price ∧ i_4.c.price ≤ (9223372036854775807 : Int)) ∧ ((-9223372036854775808 : Int) ≤ i_4.c.qty ∧ i_4.c.qty ≤ (9223372036854775807 : Int)) ∧ ((-9223372036854775808 : Int) ≤ i_4.c.least ∧ i_4.c.least ≤ (9223372036854775807 : Int)) ∧ (-9223372036854775808 : Int) ≤ i_4.c.time ∧ i_4.c.time ≤ (9223372036854775807 : Int)) ∧ i_4.c.label.length ≤ (1000 : Nat)) ∧ ∀ (o : Unit), True → ∃ (i_5 : WiI), i_5.n = i.how ∧ i_5.lo = (0 : Int) ∧ i_5.hi = (5 : Int) ∧ (((-9223372036854775808 : Int) ≤ i_5.n ∧ i_5.n ≤ (9223372036854775807 : Int)) ∧ (-1000000 : Int) ≤ i_5.lo ∧ i_5.lo ≤ i_5.hi ∧ i_5.hi ≤ (1000000 : Int)) ∧ ∀ (o : Unit), True → ((0 : Int) ≤ within i_5.n i_5.lo i_5.hi ∧ within i_5.n i_5.lo i_5.hi < (↑(6 : Nat) : Int)) ∧ ∃ (els : List (List D)), elPart [[D.ro 1 [[D.v (.int .i64 0)], [D.v (.int .i64 1)], [D.v (.int .i64 2)]]], [D.ro 1 [[D.v (.int .i64 0)], [D.v (.int .i64 2)], [D.v (.int .i64 1)]]], [D.ro 1 [[D.v (.int .i64 1)], [D.v (.int .i64 0)], [D.v (.int .i64 2)]]], [D.ro 1 [[D.v (.int .i64 1)], [D.v (.int .i64 2)], [D.v (.int .i64 0)]]], [D.ro 1 [[D.v (.int .i64 2)], [D.v (.int .i64 0)], [D.v (.int .i64 1)]]], [D.ro 1 [[D.v (.int .i64 2)], [D.v (.int .i64 1)], [D.v (.int .i64 0)]]]] (within i_5.n i_5.lo i_5.hi).toNat (0 : Nat) (1 : Nat) = some [D.ro 1 els] ∧ ((0 : Int) ≤ (0 : Int) ∧ (0 : Int) < (↑els.length : Int)) ∧ ∃ (n : Int), elPart els (Int.toNat (0 : Int)) (0 : Nat) (1 : Nat) = some [D.v (.int .i64 n)] ∧ ((0 : Int) ≤ n ∧ n < (↑(3 : Nat) : Int)) ∧ ∃ (s : ByteArray), elPart [[D.v (Value.string (ByteArray.mk #[(32 : UInt8), (108 : UInt8), (101 : UInt8), (97 : UInt8), (115 : UInt8), (116 : UInt8), (32 : UInt8), (49 : UInt8)]))], [D.v (Value.string (ByteArray.mk #[(32 : UInt8), (78 : UInt8), (79 : UInt8), (87 : UInt8)]))], [D.v (Value.string (ByteArray.mk #[(32 : UInt8), (108 : UInt8), (97 : UInt8), (98 : UInt8), (101 : UInt8), (108 : UInt8), (32 : UInt8), (120 : UInt8)]))]] n.toNat (0 : Nat) (1 : Nat) = some [D.v (Value.string s)] ∧ (↑((sb (printF i_4.p i_4.c)).size + s.size) : Int) ≤ IntKind.i64.max ∧ ((0 : Int) ≤ (1 : Int) ∧ (1 : Int) < (↑els.length : Int)) ∧ ∃ (n : Int), elPart els (Int.toNat (1 : Int)) (0 : Nat) (1 : Nat) = some [D.v (.int .i64 n)] ∧ ((0 : Int) ≤ n ∧ n < (↑(3 : Nat) : Int)) ∧ ∃ (s_1 : ByteArray), elPart [[D.v (Value.string (ByteArray.mk #[(32 : UInt8), (108 : UInt8), (101 : UInt8), (97 : UInt8), (115 : UInt8), (116 : UInt8), (32 : UInt8), (49 : UInt8)]))], [D.v (Value.string (ByteArray.mk #[(32 : UInt8), (78 : UInt8), (79 : UInt8), (87 : UInt8)]))], [D.v (Value.string (ByteArray.mk #[(32 : UInt8), (108 : UInt8), (97 : UInt8), (98 : UInt8), (101 : UInt8), (108 : UInt8), (32 : UInt8), (120 : UInt8)]))]] n.toNat (0 : Nat) (1 : Nat) = some [D.v (Value.string s_1)] ∧ (↑((sb (printF i_4.p i_4.c) ++ s).size + s_1.size) : Int) ≤ IntKind.i64.max ∧ ((0 : Int) ≤ (2 : Int) ∧ (2 : Int) < (↑els.length : Int)) ∧ ∃ (n : Int), elPart els (Int.toNat (2 : Int)) (0 : Nat) (1 : Nat) = some [D.v (.int .i64 n)] ∧ ((0 : Int) ≤ n ∧ n < (↑(3 : Nat) : Int)) ∧ ∃ (s_2 : ByteArray), elPart [[D.v (Value.string (ByteArray.mk #[(32 : UInt8), (108 : UInt8), (101 : UInt8), (97 : UInt8), (115 : UInt8), (116 : UInt8), (32 : UInt8), (49 : UInt8)]))], [D.v (Value.string (ByteArray.mk #[(32 : UInt8), (78 : UInt8), (79 : UInt8), (87 : UInt8)]))], [D.v (Value.string (ByteArray.mk #[(32 : UInt8), (108 : UInt8), (97 : UInt8), (98 : UInt8), (101 : UInt8), (108 : UInt8), (32 : UInt8), (120 : UInt8)]))]] n.toNat (0 : Nat) (1 : Nat) = some [D.v (Value.string s_2)] ∧ (↑((sb (printF i_4.p i_4.c) ++ s ++ s_1).size + s_2.size) : Int) ≤ IntKind.i64.max ∧ ∃ (i : FndI), sb i.p.code = sb [(206 : UInt8), (169 : UInt8)] ∧ iE i.p.months = iE (kMonths (kN i_1).toNat) ∧ i.p.tick = kTick i_1 ∧ i.p.low = (-20 : Int) * kTick i_1 ∧ i.p.high = (100 : Int) * kTick i_1 ∧ i.p.wide = kTick i_1 * ((5 : Int) + within i_1.wide (0 : Int) (60 : Int)) ∧ i.p.rule = (1 : Int) + within i_1.rule (0 : Int) (2 : Int) ∧ i.p.top = within i_1.top (0 : Int) (9 : Int) ∧ i.p.least = (1 : Int) + within i_1.least (0 : Int) (4 : Int) ∧ i.p.part = within i_1.part (0 : Int) (100 : Int) ∧ iE i.p.settle = iE (kSettle (kTick i_1) (kN i_1).toNat) ∧ sb i.s = sb (printF i_4.p i_4.c) ++ s ++ s_1 ++ s_2 ∧ ((i.p.code.length ≤ (1099511627776 : Nat) ∧ i.p.months.length ≤ (1099511627776 : Nat) ∧ i.p.settle.length ≤ (1099511627776 : Nat)) ∧ i.s.length ≤ (1048576 : Nat)) ∧ ∀ (o : Unit), True → ((0 : Int) ≤ (0 : Int) ∧ (0 : Int) < (↑els.length : Int)) ∧ ∃ (n : Int), elPart els (Int.toNat (0 : Int)) (0 : Nat) (1 : Nat) = some [D.v (.int .i64 n)] ∧ ((0 : Int) ≤ n ∧ n < (↑(3 : Nat) : Int)) ∧ ∃ (s_3 : ByteArray), elPart [[D.v (Value.string (ByteArray.mk #[(32 : UInt8), (108 : UInt8), (101 : UInt8), (97 : UInt8), (115 : UInt8), (116 : UInt8), (32 : UInt8), (49 : UInt8)]))], [D.v (Value.string (ByteArray.mk #[(32 : UInt8), (78 : UInt8), (79 : UInt8), (87 : UInt8)]))], [D.v (Value.string (ByteArray.mk #[(32 : UInt8), (108 : UInt8), (97 : UInt8), (98 : UInt8), (101 : UInt8), (108 : UInt8), (32 : UInt8), (120 : UInt8)]))]] n.toNat (0 : Nat) (1 : Nat) = some [D.v (Value.string s_3)] ∧ (↑((sb (printF i_4.p i_4.c) ++ s ++ s_1 ++ s_2).size + s_3.size) : Int) ≤ IntKind.i64.max ∧ (∃ (i_6 : FndI), sb i_6.p.code = sb [(206 : UInt8), (169 : UInt8)] ∧ iE i_6.p.months = iE (kMonths (kN i_1).toNat) ∧ i_6.p.tick = kTick i_1 ∧ i_6.p.low = (-20 : Int) * kTick i_1 ∧ i_6.p.high = (100 : Int) * kTick i_1 ∧ i_6.p.wide = kTick i_1 * ((5 : Int) + within i_1.wide (0 : Int) (60 : Int)) ∧ i_6.p.rule = (1 : Int) + within i_1.rule (0 : Int) (2 : Int) ∧ i_6.p.top = within i_1.top (0 : Int) (9 : Int) ∧ i_6.p.least = (1 : Int) + within i_1.least (0 : Int) (4 : Int) ∧ i_6.p.part = within i_1.part (0 : Int) (100 : Int) ∧ iE i_6.p.settle = iE (kSettle (kTick i_1) (kN i_1).toNat) ∧ sb i_6.s = sb (printF i_4.p i_4.c) ++ s ++ s_1 ++ s_2 ++ s_3 ∧ ((i_6.p.code.length ≤ (1099511627776 : Nat) ∧ i_6.p.months.length ≤ (1099511627776 : Nat) ∧ i_6.p.settle.length ≤ (1099511627776 : Nat)) ∧ i_6.s.length ≤ (1048576 : Nat)) ∧ ∀ (o : Unit), True → cnd (!(sb (printF i_4.p i_4.c)).toList == (ByteArray.mk #[]).toList) (cnd ((parseF i.p i.s).snd.fst == (0 : Int)) (∃ (i_7 : Cmd), i_7.kind = i_3.kind ∧ i_7.id = (4 : Int) ∧ i_7.inst = i_3.inst ∧ i_7.side = i_3.side ∧ i_7.price = i_3.price ∧ i_7.qty = i_3.qty ∧ i_7.least = (1 : Int) ∧ i_7.time = (2 : Int) ∧ sb i_7.label = ByteArray.mk #[(120 : UInt8)] ∧ True ∧ ∀ (o : Unit), True → ((parseF i.p i.s).fst.kind = (parseF i.p i.s).fst.kind ∧ (parseF i.p i.s).fst.id = (parseF i.p i.s).fst.id ∧ (parseF i.p i.s).fst.inst = (parseF i.p i.s).fst.inst ∧ (parseF i.p i.s).fst.side = (parseF i.p i.s).fst.side ∧ (parseF i.p i.s).fst.price = (parseF i.p i.s).fst.price ∧ (parseF i.p i.s).fst.qty = (parseF i.p i.s).fst.qty ∧ (parseF i.p i.s).fst.least = (parseF i.p i.s).fst.least ∧ (parseF i.p i.s).fst.time = (parseF i.p i.s).fst.time ∧ sb (parseF i.p i.s).fst.label = sb (parseF i.p i.s).fst.label ∧ True) ∧ cnd ((parseF i.p i.s).fst.kind == i_7.ask.kind && ((parseF i.p i.s).fst.id == i_7.ask.id && ((parseF i.p i.s).fst.inst == i_7.ask.inst && ((parseF i.p i.s).fst.side == i_7.ask.side && ((parseF i.p i.s).fst.price == i_7.ask.price && ((parseF i.p i.s).fst.qty == i_7.ask.qty && ((parseF i.p i.s).fst.least == i_7.ask.least && ((parseF i.p i.s).fst.time == i_7.ask.time && (sb (parseF i.p i.s).fst.label == sb i_7.ask.label && true))))))))) (cnd ((parseF i_6.p i_6.s).snd.fst == (25 : Int)) (∃ (i : List UInt8), sb i = sb (printF i_4.p i_4.c) ++ s ++ s_1 ++ s_2 ∧ i.length ≤ (1099511627776 : Nat) ∧ ∀ (o : Unit), True → cnd ((parseF i_6.p i_6.s).snd.snd == IntKind.i64.wrap ((↑(runes i).length : Int) + (1 : Int))) (∃ (i : Unit), True ∧ ∀ (o : Unit), True → ∃ (o : Unit), true = true ∧ True) (∃ (o : Unit), true = false ∧ True)) (∃ (o : Unit), true = false ∧ True)) (∃ (o : Unit), true = false ∧ True)) (∃ (o : Unit), true = false ∧ True)) (∃ (o : Unit), true = false ∧ True)) ∧ (∃ (s : ByteArray), elPart [[D.v (Value.string (ByteArray.mk #[(32 : UInt8), (108 : UInt8), (101 : UInt8), (97 : UInt8), (115 : UInt8), (116 : UInt8), (32 : UInt8), (49 : UInt8)]))], [D.v (Value.string (ByteArray.mk #[(32 : UInt8), (78 : UInt8), (79 : UInt8), (87 : UInt8)]))], [D.v (Value.string (ByteArray.mk #[(32 : UInt8), (108 : UInt8), (97 : UInt8), (98 : UInt8), (101 : UInt8), (108 : UInt8), (32 : UInt8), (120 : UInt8)]))]] n.toNat (0 : Nat) (1 : Nat) = some [D.v (Value.string s)] ∧ s = s_3) ∧ (((0 : Int) ≤ n ∧ n < (↑(3 : Nat) : Int)) ∧ n.toNat = n.toNat) ∧ True ∧ (sb [(206 : UInt8), (169 : UInt8)] = sb [(206 : UInt8), (169 : UInt8)] ∧ True ∧ kTick i_1 = kTick i_1 ∧ (-20 : Int) * kTick i_1 = (-20 : Int) * kTick i_1 ∧ (100 : Int) * kTick i_1 = (100 : Int) * kTick i_1 ∧ kTick i_1 * ((5 : Int) + within i_1.wide (0 : Int) (60 : Int)) = kTick i_1 * ((5 : Int) + within i_1.wide (0 : Int) (60 : Int)) ∧ (1 : Int) + within i_1.rule (0 : Int) (2 : Int) = (1 : Int) + within i_1.rule (0 : Int) (2 : Int) ∧ within i_1.top (0 : Int) (9 : Int) = within i_1.top (0 : Int) (9 : Int) ∧ (1 : Int) + within i_1.least (0 : Int) (4 : Int) = (1 : Int) + within i_1.least (0 : Int) (4 : Int) ∧ within i_1.part (0 : Int) (100 : Int) = within i_1.part (0 : Int) (100 : Int) ∧ True ∧ True) ∧ ∃ (i_6 : FndI), sb i_6.p.code = sb [(206 : UInt8), (169 : UInt8)] ∧ iE i_6.p.months = iE (kMonths (kN i_1).toNat) ∧ i_6.p.tick = kTick i_1 ∧ i_6.p.low = (-20 : Int) * kTick i_1 ∧ i_6.p.high = (100 : Int) * kTick i_1 ∧ i_6.p.wide = kTick i_1 * ((5 : Int) + within i_1.wide (0 : Int) (60 : Int)) ∧ i_6.p.rule = (1 : Int) + within i_1.rule (0 : Int) (2 : Int) ∧ i_6.p.top = within i_1.top (0 : Int) (9 : Int) ∧ i_6.p.least = (1 : Int) + within i_1.least (0 : Int) (4 : Int) ∧ i_6.p.part = within i_1.part (0 : Int) (100 : Int) ∧ iE i_6.p.settle = iE (kSettle (kTick i_1) (kN i_1).toNat) ∧ sb i_6.s = sb (printF i_4.p i_4.c) ++ s ++ s_1 ++ s_2 ++ s_3 ∧ ((i_6.p.code.length ≤ (1099511627776 : Nat) ∧ i_6.p.months.length ≤ (1099511627776 : Nat) ∧ i_6.p.settle.length ≤ (1099511627776 : Nat)) ∧ i_6.s.length ≤ (1048576 : Nat)) ∧ ∀ (o : Unit), True → cnd (!(sb (printF i_4.p i_4.c)).toList == (ByteArray.mk #[]).toList) (cnd ((parseF i.p i.s).snd.fst == (0 : Int)) (∃ (i_7 : Cmd), i_7.kind = i_3.kind ∧ i_7.id = (4 : Int) ∧ i_7.inst = i_3.inst ∧ i_7.side = i_3.side ∧ i_7.price = i_3.price ∧ i_7.qty = i_3.qty ∧ i_7.least = (1 : Int) ∧ i_7.time = (2 : Int) ∧ sb i_7.label = ByteArray.mk #[(120 : UInt8)] ∧ True ∧ ∀ (o : Unit), True → ((parseF i.p i.s).fst.kind = (parseF i.p i.s).fst.kind ∧ (parseF i.p i.s).fst.id = (parseF i.p i.s).fst.id ∧ (parseF i.p i.s).fst.inst = (parseF i.p i.s).fst.inst ∧ (parseF i.p i.s).fst.side = (parseF i.p i.s).fst.side ∧ (parseF i.p i.s).fst.price = (parseF i.p i.s).fst.price ∧ (parseF i.p i.s).fst.qty = (parseF i.p i.s).fst.qty ∧ (parseF i.p i.s).fst.least = (parseF i.p i.s).fst.least ∧ (parseF i.p i.s).fst.time = (parseF i.p i.s).fst.time ∧ sb (parseF i.p i.s).fst.label = sb (parseF i.p i.s).fst.label ∧ True) ∧ cnd ((parseF i.p i.s).fst.kind == i_7.ask.kind && ((parseF i.p i.s).fst.id == i_7.ask.id && ((parseF i.p i.s).fst.inst == i_7.ask.inst && ((parseF i.p i.s).fst.side == i_7.ask.side && ((parseF i.p i.s).fst.price == i_7.ask.price && ((parseF i.p i.s).fst.qty == i_7.ask.qty && ((parseF i.p i.s).fst.least == i_7.ask.least && ((parseF i.p i.s).fst.time == i_7.ask.time && (sb (parseF i.p i.s).fst.label == sb i_7.ask.label && true))))))))) (cnd ((parseF i_6.p i_6.s).snd.fst == (25 : Int)) (∃ (i : List UInt8), sb i = sb (printF i_4.p i_4.c) ++ s ++ s_1 ++ s_2 ∧ i.length ≤ (1099511627776 : Nat) ∧ ∀ (o : Unit), True → cnd ((parseF i_6.p i_6.s).snd.snd == IntKind.i64.wrap ((↑(runes i).length : Int) + (1 : Int))) (∃ (i : Unit), True ∧ ∀ (o : Unit), True → ∃ (o : Unit), true = true ∧ True) (∃ (o : Unit), true = false ∧ True)) (∃ (o : Unit), true = false ∧ True)) (∃ (o : Unit), true = false ∧ True)) (∃ (o : Unit), true = false ∧ True)) (∃ (o : Unit), true = false ∧ True)
theorem eqcorder (i : CoI) : Vcorder i = walk Tryd.prog ([(14, kprodC), (15, tameC), (16, printC), (11, known27C), (18, askC), (19, parseC), (8, withinC), (10, countC)]) 0 (corderJ) ([]) [] Tryd.f6 (Tryd.f6.body.getD .skip) (corderC.pat i) (corderC.pre i) (corderC.alts i) := by kernel_rfl

end Sx

namespace Sx
set_option linter.unusedVariables false
set_option maxRecDepth 100000
open Go Cv Go.Proofs

structure CbI where
  x : Prd
  c : Cmd
  blanks : Int
def cbD (i : CbI) : Cmd := { tame ⟨kprod i.x, i.c, 3⟩ with label := headF i.c.label 60 }
def cbS (i : CbI) : List UInt8 := printF (kprod i.x) (cbD i)
def cbW (i : CbI) : List (List UInt8) := wordsL (cbS i)
def cbN (i : CbI) : Nat := (within i.blanks 0 5).toNat
/-- A word as it comes again. -/
def cbOne (i : CbI) (k : Nat) : List UInt8 := if k + 1 < (cbW i).length ∨ (cbD i).label = [] then foldF ((cbW i).getD k []) else (cbW i).getD k []
def cbT (i : CbI) (k : Nat) : List UInt8 := ((List.range k).map fun j => List.replicate (cbN i + 1) 32 ++ cbOne i j).flatten
end Sx

namespace Sx
set_option linter.unusedVariables false
set_option linter.unusedSimpArgs false
set_option maxRecDepth 100000
open Go Cv Go.Proofs

structure TmOk (p : Prd) (d : Cmd) : Prop where
  kind : d.kind = 1 ∨ d.kind = 2 ∨ d.kind = 3 ∨ d.kind = 4
  id : 1 ≤ d.id ∧ d.id ≤ 31
  qty : 1 ≤ d.qty ∧ d.qty ≤ 12
  price : -1000 ≤ d.price ∧ d.price ≤ 1000
  least : 0 ≤ d.least ∧ d.least ≤ d.qty
  side : d.kind = 1 → d.side = 1 ∨ d.side = 2
  time : d.kind = 1 → d.time = 1 ∨ d.time = 2 ∨ d.time = 3
  inst : 0 ≤ d.inst ∧ d.inst < p.count
theorem kcount_le (x : Prd) : 3 ≤ (kprod x).count ∧ (kprod x).count ≤ 15 := by
  obtain ⟨b1, b2⟩ := kN_nat x
  rw [kcnt]
  have h : ∀ n < 6, 2 ≤ n → 3 ≤ cntN n ∧ cntN n ≤ 15 := by decide
  exact h _ b2 b1
theorem tm_kind (c : Cmd) : tmKind c = 1 ∨ tmKind c = 2 ∨ tmKind c = 3 ∨ tmKind c = 4 := by
  have := within_bd (n := c.kind) (lo := 0) (hi := 8) (by omega)
  unfold tmKind
  split <;> omega
theorem tame_ok' (x : Prd) (c : Cmd) : TmOk (kprod x) (tame ⟨kprod x, c, 3⟩) := by
  obtain ⟨c1, c2⟩ := kcount_le x
  obtain ⟨t1, t2⟩ := kTick_bd x
  have hk := tm_kind c
  have h2 := within_bd (n := c.id) (lo := 0) (hi := 30) (by omega)
  have h3 := within_bd (n := c.inst) (lo := 0) (hi := (kprod x).count - 1) (by omega)
  have h4 := within_bd (n := c.side) (lo := 0) (hi := 1) (by omega)
  have h5 := within_bd (n := c.price) (lo := 0) (hi := 9) (by omega)
  have h6 := within_bd (n := c.qty) (lo := 0) (hi := 11) (by omega)
  have h7 := within_bd (n := c.least) (lo := 0) (hi := 1 + within c.qty 0 11) (by omega)
  have hp : (kprod x).tick = kTick x := rfl
  have hm := mul_bd (a := kTick x) (b := within c.price 0 9) (m := 10) (n := 9) ⟨by omega, t2⟩ h5
  have hl : 0 ≤ tmLeast c (1 + within c.qty 0 11) ∧ tmLeast c (1 + within c.qty 0 11) ≤ 1 + within c.qty 0 11 := by
    unfold tmLeast; split <;> omega
  have ht : tmTime c = 1 ∨ tmTime c = 2 ∨ tmTime c = 3 := by
    unfold tmTime; split
    · omega
    · split <;> omega
  generalize within c.id 0 30 = w2 at h2
  unfold tame
  dsimp only [tmHead]
  rw [hp]
  generalize kTick x * within c.price 0 9 = pr at hm ⊢
  split
  · rename_i hk1
    refine ⟨.inl hk1, by dsimp only; omega, by dsimp only; omega, ?_, hl, fun _ => by dsimp only; omega, fun _ => ht, by dsimp only; omega⟩
    dsimp only
    split <;> omega
  · rename_i hk1
    refine ⟨hk, ?_, by dsimp only; omega, ?_, by dsimp only; omega, fun h => absurd h hk1, fun h => absurd h hk1, by dsimp only; omega⟩
    · dsimp only
      have := within_bd (n := c.id) (lo := 0) (hi := 30) (by omega)
      omega
    · dsimp only
      split <;> omega
theorem tm_right {p : Prd} {d : Cmd} (h : TmOk p d) (hc : p.count ≤ 15) : d.right = if d.kind = 1 ∧ d.label ≠ [] ∧ labOk d.label = false then 29 else 0 := by
  obtain ⟨hk, hi, hq, hp, hl, hs, ht, hn⟩ := h
  have q1 : quantB d.qty = true := by simp [quantB]; omega
  have p1 : price2 d.price = true := by simp [price2]; omega
  unfold Cmd.right
  rw [if_neg (by omega), if_neg (by omega)]
  by_cases k1 : d.kind = 1
  · have hs := hs k1
    have ht := ht k1
    rw [if_pos k1, Cmd.orderE, if_neg (by omega), if_neg (by omega), if_neg (by rw [q1]; simp), if_neg (by omega)]
    by_cases hlb : d.label ≠ [] ∧ labOk d.label = false
    · rw [if_pos hlb, if_pos ⟨k1, hlb⟩]
    · rw [if_neg hlb, if_neg (by rw [p1]; simp), if_neg (by omega), if_neg (fun e => hlb e.2)]
  · rw [if_neg k1, if_neg (by rw [q1]; simp), if_neg (by rw [p1]; simp), if_neg (fun e => k1 e.1)]
theorem tm_cm {x : Prd} {d : Cmd} (h : TmOk (kprod x) d) (hl : d.kind = 1 → d.label ≠ [] → labOk d.label = true ∧ isW1 d.label = true) : CmOk (kprod x) d := by
  obtain ⟨hk, hi, hq, hp, hle, hs, ht, hn⟩ := h
  exact ⟨hk, by omega, by omega, by omega, by omega, hs, ht, fun _ => kname_ok x hn.1 hn.2, hl⟩

structure CbOk (i : CbI) : Prop where
  ne : cbS i ≠ []
  slen : (cbS i).length ≤ 1000
  read : parseF (kprod i.x) (cbS i) = ((cbD i).ask, 0, 0)
  len : (cbW i).length ≤ 13
  one : ∀ k, k < (cbW i).length → (cbOne i k).length ≤ 60
  again : parseF (kprod i.x) (cbT i (cbW i).length) = ((cbD i).ask, 0, 0)
end Sx

namespace Sx
set_option linter.unusedVariables false
set_option linter.unusedSimpArgs false
set_option maxRecDepth 100000
open Go Cv Go.Proofs

theorem tame_side (x : Prd) (c : Cmd) : (tame ⟨kprod x, c, 3⟩).side = 0 ∨ (tame ⟨kprod x, c, 3⟩).side = 1 ∨ (tame ⟨kprod x, c, 3⟩).side = 2 := by
  have h4 := within_bd (n := c.side) (lo := 0) (hi := 1) (by omega)
  unfold tame
  dsimp only [tmHead]
  split
  · dsimp only; omega
  · dsimp only; omega
theorem co_side (i : CoI) : (coX i).side = 1 ∨ (coX i).side = 2 := by
  have := tame_side i.x i.c
  show (if (tame ⟨kprod i.x, i.c, 3⟩).side = 0 then (1 : Int) else (tame ⟨kprod i.x, i.c, 3⟩).side) = 1 ∨ _
  show _ ∨ (if (tame ⟨kprod i.x, i.c, 3⟩).side = 0 then (1 : Int) else (tame ⟨kprod i.x, i.c, 3⟩).side) = 2
  split <;> omega
theorem coB_tm (i : CoI) : TmOk (kprod i.x) (coB i) := by
  obtain ⟨a, b, c, d, e, f, g, h⟩ := tame_ok' i.x i.c
  have hs := co_side i
  have hq : 1 ≤ (coB i).qty ∧ (coB i).qty ≤ 12 := c
  exact ⟨.inl rfl, ⟨by show (1 : Int) ≤ 4; omega, by show (4 : Int) ≤ 31; omega⟩, hq, d, ⟨by show (0 : Int) ≤ 0; omega, by show (0 : Int) ≤ _; omega⟩, fun _ => hs, fun _ => .inl rfl, h⟩
theorem coD_tm (i : CoI) : TmOk (kprod i.x) (coD i) := by
  obtain ⟨a, b, c, d, e, f, g, h⟩ := tame_ok' i.x i.c
  have hs := co_side i
  have hq : 1 ≤ (coD i).qty ∧ (coD i).qty ≤ 12 := c
  exact ⟨.inl rfl, ⟨by show (1 : Int) ≤ 4; omega, by show (4 : Int) ≤ 31; omega⟩, hq, d, ⟨by show (0 : Int) ≤ 1; omega, by show (1 : Int) ≤ _; omega⟩, fun _ => hs, fun _ => .inr (.inl rfl), h⟩
def coO : Nat → OI
  | 0 => oLeast pLEAST [49] 1
  | 1 => oTime wNOW 2
  | _ => oLabel pLABEL [120]
def coT (j : Nat) : List UInt8 := sepW 0 (coO j).ws
theorem coO_reads (j : Nat) : (coO j).reads := by
  obtain ⟨f1, f2, f3, f4, f5, f6, f7, f8, f9, f10, f11⟩ := fold_kw
  obtain ⟨g1, g2, g3, g4, g5, g6, g7, g8, g9, g10, g11⟩ := fold_kw2
  match j with
  | 0 => exact oLeast_reads f5 (by decide +kernel)
  | 1 => exact oTime_reads (.inl ⟨g6, rfl⟩)
  | j + 2 => exact oLabel_reads f8 (by decide +kernel)
theorem coO_w (j : Nat) : ∀ w ∈ (coO j).ws, isW1 w = true := by
  match j with
  | 0 => decide
  | 1 => decide
  | j + 2 => show ∀ w ∈ [pLABEL, [120]], isW1 w = true; decide
structure Perm3 (a b c : Nat) : Prop where
  nodup : ([coO a, coO b, coO c].map OI.kind).Nodup
  all : ∀ i, oAll [coO a, coO b, coO c] (newC (coB i)) = coD i
theorem perm3 : Perm3 0 1 2 ∧ Perm3 0 2 1 ∧ Perm3 1 0 2 ∧ Perm3 1 2 0 ∧ Perm3 2 0 1 ∧ Perm3 2 1 0 :=
  ⟨⟨by decide, fun _ => rfl⟩, ⟨by decide, fun _ => rfl⟩, ⟨by decide, fun _ => rfl⟩, ⟨by decide, fun _ => rfl⟩, ⟨by decide, fun _ => rfl⟩, ⟨by decide, fun _ => rfl⟩⟩
theorem wordsA_head {w : List UInt8} (hw : isW1 w = true) (tl : List (List UInt8)) : ∃ t, wordsA (w ++ sepW 0 tl) = 0 :: t := by
  cases tl with
  | nil => exact ⟨[], by rw [show sepW 0 [] = [] from rfl, List.append_nil, wordsA_one hw]⟩
  | cons x r => exact ⟨_, by rw [sepW_cons, wordsA_cat, wordsA_one hw]; rfl⟩
def coH (i : CoI) : List UInt8 := printF (kprod i.x) (coB i)
def coS (i : CoI) (a b c : Nat) : List UInt8 := coH i ++ coT a ++ coT b ++ coT c
structure CoOk (i : CoI) (a b c : Nat) : Prop where
  ne : coH i ≠ []
  hlen : (coH i).length ≤ 1000
  read : parseF (kprod i.x) (coS i a b c) = ((coD i), 0, 0)
  twice : parseF (kprod i.x) (coS i a b c ++ coT a) = (cmd0, 25, (((runes (coS i a b c)).length + 1 : Nat) : Int))
theorem coT_len (j : Nat) : (coT j).length ≤ 8 := by
  match j with
  | 0 => decide
  | 1 => decide
  | j + 2 => show (sepW 0 [pLABEL, [120]]).length ≤ 8; decide
theorem co_ok (i : CoI) {a b c : Nat} (h : Perm3 a b c) : CoOk i a b c := by
  have hT := coB_tm i
  have hC : CmOk (kprod i.x) (coB i) := tm_cm hT (fun _ e => absurd rfl e)
  have hR : (coB i).right = 0 := by
    rw [tm_right hT (kcount_le i.x).2, if_neg]
    rintro ⟨h1, h2, h3⟩
    exact h2 rfl
  have hRD : (coD i).right = 0 := by
    rw [tm_right (coD_tm i) (kcount_le i.x).2, if_neg]
    rintro ⟨h1, h2, h3⟩
    have : labOk [120] = true := by decide +kernel
    have e : (coD i).label = [120] := rfl
    rw [e, this] at h3
    cases h3
  obtain ⟨e1, e2, e3⟩ := print_ok hC hR
  have eH : coH i = lineF (kprod i.x) (coB i) := e1
  have hw : wordsL (coH i) = (nwG false (kprod i.x) (coB i)).ws := by
    rw [eH, e2]
    show (nwW (kprod i.x) (coB i)).ws ++ [] = _
    rw [List.append_nil]; rfl
  have hne : coH i ≠ [] := by
    intro e
    rw [e] at hw
    cases hw
  have hb : coH i ++ coT a ++ coT b ++ coT c = coH i ++ sepW 0 (oWords [coO a, coO b, coO c]) := by
    have : oWords [coO a, coO b, coO c] = (coO a).ws ++ ((coO b).ws ++ (coO c).ws) := by simp [oWords]
    rw [this, sepW_app, sepW_app]
    simp [coT]
  have hws : ∀ w ∈ oWords [coO a, coO b, coO c], isW1 w = true := by
    intro w hw
    obtain ⟨l, hl, hw⟩ := List.mem_flatten.1 hw
    obtain ⟨o, ho, rfl⟩ := List.mem_map.1 hl
    simp only [List.mem_cons, List.not_mem_nil, or_false] at ho
    rcases ho with rfl | rfl | rfl <;> exact coO_w _ w hw
  have hW : wordsL (coS i a b c) = (nwG false (kprod i.x) (coB i)).ws ++ oWords [coO a, coO b, coO c] := by
    rw [coS, hb, wordsL_sepW 0 _ _ hws, hw]
  have hrd : ∀ o ∈ [coO a, coO b, coO c], o.reads := by
    intro o ho
    simp only [List.mem_cons, List.not_mem_nil, or_false] at ho
    rcases ho with rfl | rfl | rfl <;> exact coO_reads _
  have hr := nwG_reads hC rfl false
  refine ⟨hne, ?_, ?_, ?_⟩
  · rw [eH]
    have := line_len (kprod i.x) (coB i)
    have hc : (kprod i.x).code.length = 2 := rfl
    have hl : (coB i).label.length = 0 := rfl
    omega
  · have := parse_new hr hW hrd h.nodup (by rw [h.all]; exact hRD)
    rw [this, h.all]
  · obtain ⟨w, tl, hwt⟩ : ∃ w tl, (coO a).ws = w :: tl := by
      match a with
      | 0 => exact ⟨_, _, rfl⟩
      | 1 => exact ⟨_, _, rfl⟩
      | a + 2 => exact ⟨_, _, rfl⟩
    have hk : kindW (foldF w) ∈ [coO a, coO b, coO c].map OI.kind := by
      obtain ⟨f1, f2, f3, f4, f5, f6, f7, f8, f9, f10, f11⟩ := fold_kw
      obtain ⟨g1, g2, g3, g4, g5, g6, g7, g8, g9, g10, g11⟩ := fold_kw2
      have : kindW (foldF w) = (coO a).kind := by
        match a with
        | 0 => cases hwt; rw [f5]; rfl
        | 1 => cases hwt; rw [g6]; rfl
        | a + 2 => cases hwt; rw [f8]; rfl
      rw [this]; simp
    have hw1 : isW1 w = true := coO_w a w (by rw [hwt]; simp)
    have hW2 : wordsL (coS i a b c ++ coT a) = (nwG false (kprod i.x) (coB i)).ws ++ (oWords [coO a, coO b, coO c] ++ w :: tl) := by
      rw [coT, wordsL_sepW 0 _ _ (coO_w a), hW, hwt, List.append_assoc]
    have := parse_taken hr hW2 hrd h.nodup hk
    rw [this]
    have hA : (wordsA (coS i a b c ++ coT a)).getD (7 + (oWords [coO a, coO b, coO c]).length) 0 = (((runes (coS i a b c)).length + 1 : Nat) : Int) := by
      obtain ⟨t, ht⟩ := wordsA_head hw1 tl
      have hl : (wordsA (coS i a b c)).length = 7 + (oWords [coO a, coO b, coO c]).length := by
        rw [words_at, hW, List.length_append]; rfl
      rw [coT, hwt, sepW_cons, show List.replicate 0 (32 : UInt8) ++ (w ++ sepW 0 tl) = w ++ sepW 0 tl from rfl, wordsA_cat, ht, List.getD_eq_getElem?_getD, List.getElem?_append_right (by omega), hl, Nat.sub_self]
      simp
    rw [hA]

end Sx

namespace Sx
set_option linter.unusedVariables false
set_option maxRecDepth 100000
open Go Cv Go.Proofs
end Sx

namespace Sx
set_option linter.unusedVariables false
set_option linter.unusedSimpArgs false
set_option maxRecDepth 100000
open Go Cv Go.Proofs

theorem cmd_eq (a b : Cmd) : (a.kind == b.kind && (a.id == b.id && (a.inst == b.inst && (a.side == b.side && (a.price == b.price && (a.qty == b.qty && (a.least == b.least && (a.time == b.time && (sb a.label == sb b.label && true))))))))) = decide (a = b) := by
  have := cmd_ne a b
  revert this
  cases (a.kind == b.kind && (a.id == b.id && (a.inst == b.inst && (a.side == b.side && (a.price == b.price && (a.qty == b.qty && (a.least == b.least && (a.time == b.time && (sb a.label == sb b.label && true))))))))) <;> cases decide (a = b) <;> simp
theorem b7 : ByteArray.mk #[32, 32, 32, 32, 32, 32, 32] = sb [32, 32, 32, 32, 32, 32, 32] := rfl
end Sx

namespace Sx
set_option linter.unusedVariables false
set_option linter.unusedSimpArgs false
set_option maxRecDepth 100000
open Go Cv Go.Proofs

theorem bT0 : ByteArray.mk #[32, 108, 101, 97, 115, 116, 32, 49] = sb (coT 0) := rfl
theorem bT1 : ByteArray.mk #[32, 78, 79, 87] = sb (coT 1) := rfl
theorem bT2 : ByteArray.mk #[32, 108, 97, 98, 101, 108, 32, 120] = sb (coT 2) := rfl
theorem b120 : ByteArray.mk #[120] = sb [120] := rfl
theorem coB_raw (i : CoI) : (coB i).raw := by
  obtain ⟨hk, hi, hq, hp, hl, hs, ht, hn⟩ := coB_tm i
  have hc := (kcount_le i.x).2
  have hs := hs rfl
  have ht := ht rfl
  exact ⟨⟨by omega, by omega⟩, ⟨by omega, by omega⟩, ⟨by omega, by omega⟩, ⟨by omega, by omega⟩, ⟨by omega, by omega⟩, ⟨by omega, by omega⟩, ⟨by omega, by omega⟩, ⟨by omega, by omega⟩⟩

set_option maxHeartbeats 8000000 in
theorem vcorder (i : CoI) (h : corderC.cnd i) : Vcorder i := by
  obtain ⟨hx, hc, hb⟩ : i.x.raw ∧ i.c.raw ∧ i64r i.how := h
  have hraw := coB_raw i
  have hks := kprod_small i.x
  have hwi := within_bd (n := i.how) (lo := 0) (hi := 5) (by omega)
  have l0 := coT_len 0
  have l1 := coT_len 1
  have l2 := coT_len 2
  obtain ⟨q1, q2, q3, q4, q5, q6⟩ := perm3
  unfold Vcorder
  simp only [sb_nil', bT0, bT1, bT2, b120, sb_size, i64max, eqB, cmd_eq]
  refine ⟨i.x, rfl, rfl, rfl, rfl, rfl, rfl, rfl, rfl, rfl, rfl, rfl, hx, fun _ _ => ⟨⟨kprod i.x, i.c, 3⟩, rfl, rfl, rfl, rfl, rfl, rfl, rfl, rfl, rfl, rfl, rfl, rfl, rfl, rfl, rfl, rfl, rfl, rfl, rfl, rfl, rfl, ⟨kprod_check i.x, hks, hc, by (first | omega | (dsimp only; omega)), by (first | omega | (dsimp only; omega))⟩, fun _ _ => ⟨{ tame ⟨kprod i.x, i.c, 3⟩ with kind := 1 }, rfl, rfl, rfl, rfl, rfl, rfl, rfl, rfl, rfl, fun x => x = coX i, Cv.cnd.mk (fun c => ⟨coX i, rfl, rfl, rfl, ?_, rfl, rfl, rfl, rfl, rfl, rfl, by (repeat' (first | exact rfl | exact trivial | assumption | apply And.intro | (refine fun (_ : Unit) (_ : True) => ?_) | (refine Exists.intro () ?_) | omega | (dsimp only; omega)))⟩) (fun c => ⟨coX i, rfl, rfl, rfl, ?_, rfl, rfl, rfl, rfl, rfl, rfl, by (repeat' (first | exact rfl | exact trivial | assumption | apply And.intro | (refine fun (_ : Unit) (_ : True) => ?_) | (refine Exists.intro () ?_) | omega | (dsimp only; omega)))⟩), fun x hx => ?_⟩⟩⟩
  · have c : (tame ⟨kprod i.x, i.c, 3⟩).side = 0 := by simpa using c
    show (if (tame ⟨kprod i.x, i.c, 3⟩).side = 0 then (1 : Int) else (tame ⟨kprod i.x, i.c, 3⟩).side) = 1
    rw [if_pos c]
  · have c : ¬ (tame ⟨kprod i.x, i.c, 3⟩).side = 0 := by simpa using c
    show (if (tame ⟨kprod i.x, i.c, 3⟩).side = 0 then (1 : Int) else (tame ⟨kprod i.x, i.c, 3⟩).side) = (tame ⟨kprod i.x, i.c, 3⟩).side
    rw [if_neg c]
  subst hx
  have eH : printF (kprod i.x) (coB i) = coH i := rfl
  refine ⟨⟨kprod i.x, coB i⟩, rfl, rfl, rfl, rfl, rfl, rfl, rfl, rfl, rfl, rfl, rfl, rfl, rfl, rfl, rfl, rfl, rfl, rfl, rfl, rfl, ⟨hks, by show (2 : Nat) ≤ 1000; omega, hraw, by show (0 : Nat) ≤ 1000; omega⟩, fun _ _ => ⟨⟨i.how, 0, 5⟩, rfl, rfl, rfl, ⟨hb, by (first | omega | (dsimp only; omega)), by (first | omega | (dsimp only; omega)), by (first | omega | (dsimp only; omega))⟩, fun _ _ => ?_⟩⟩
  dsimp only
  rw [eH]
  have hk : within i.how 0 5 = 0 ∨ within i.how 0 5 = 1 ∨ within i.how 0 5 = 2 ∨ within i.how 0 5 = 3 ∨ within i.how 0 5 = 4 ∨ within i.how 0 5 = 5 := by omega
  clear hraw hwi eH hx hc hb
  rcases hk with hk | hk | hk | hk | hk | hk
  · rw [hk]
    have hO := co_ok i q1
    have hl := hO.hlen
    have hS : (coS i 0 1 2).length ≤ 2000 := by simp only [coS, List.length_append]; omega
    have hrn : (runes (coS i 0 1 2)).length ≤ 2000 := by
      have := runesP_len (coS i 0 1 2) (coS i 0 1 2).length 0 (by omega)
      rw [runes, List.length_map]
      omega
    refine ⟨⟨by decide, by decide⟩, [[.v (.int .i64 0)], [.v (.int .i64 1)], [.v (.int .i64 2)]], rfl, ⟨by decide, by decide⟩, 0, rfl, ⟨by decide, by decide⟩, sb (coT 0), rfl, by simp only [← sb_app, sb_size, List.length_append]; omega, ⟨by decide, by decide⟩, 1, rfl, ⟨by decide, by decide⟩, sb (coT 1), rfl, by simp only [← sb_app, sb_size, List.length_append]; omega, ⟨by decide, by decide⟩, 2, rfl, ⟨by decide, by decide⟩, sb (coT 2), rfl, by simp only [← sb_app, sb_size, List.length_append]; omega, ⟨kprod i.x, coS i 0 1 2⟩, rfl, rfl, rfl, rfl, rfl, rfl, rfl, rfl, rfl, rfl, rfl, by simp only [← sb_app]; rfl, ⟨hks, by (first | omega | (dsimp only; omega))⟩, fun _ _ => ⟨⟨by decide, by decide⟩, 0, rfl, ⟨by decide, by decide⟩, sb (coT 0), rfl, by simp only [← sb_app, sb_size, List.length_append]; omega, ?_, ⟨sb (coT 0), rfl, rfl⟩, ⟨⟨by decide, by decide⟩, by (first | exact rfl | exact trivial)⟩, trivial, by (repeat' (first | exact rfl | exact trivial | assumption | apply And.intro | (refine fun (_ : Unit) (_ : True) => ?_) | (refine Exists.intro () ?_) | omega | (dsimp only; omega))), ?_⟩⟩
    · refine ⟨⟨kprod i.x, coS i 0 1 2 ++ coT 0⟩, rfl, rfl, rfl, rfl, rfl, rfl, rfl, rfl, rfl, rfl, rfl, by simp only [← sb_app]; rfl, ⟨hks, by dsimp only; rw [List.length_append]; omega⟩, fun _ _ => ?_⟩
      dsimp only
      rw [hO.read, hO.twice]
      dsimp only
      refine Cv.cnd.mk (fun _ => Cv.cnd.mk (fun _ => ⟨coD i, rfl, rfl, rfl, rfl, rfl, rfl, rfl, rfl, rfl, trivial, fun _ _ => ⟨by (repeat' (first | exact rfl | exact trivial | assumption | apply And.intro | (refine fun (_ : Unit) (_ : True) => ?_) | (refine Exists.intro () ?_) | omega | (dsimp only; omega))), Cv.cnd.mk (fun _ => Cv.cnd.mk (fun _ => ⟨coS i 0 1 2, by simp only [← sb_app]; rfl, by omega, fun _ _ => Cv.cnd.mk (fun _ => ⟨(), trivial, fun _ _ => ⟨(), by (first | exact rfl | exact trivial), trivial⟩⟩) (fun f => absurd f ?_)⟩) (fun f => absurd f (by decide))) (fun f => absurd f ?_)⟩⟩) (fun f => absurd f (by decide))) (fun f => absurd f ?_)
      · rw [w64 (by omega)]
        simp
      · have e : (coD i).ask = coD i := by rw [Cmd.ask, if_pos (show (coD i).kind = 1 from rfl)]
        rw [e]; simp
      · simp [hO.ne]
    · refine ⟨⟨kprod i.x, coS i 0 1 2 ++ coT 0⟩, rfl, rfl, rfl, rfl, rfl, rfl, rfl, rfl, rfl, rfl, rfl, by simp only [← sb_app]; rfl, ⟨hks, by dsimp only; rw [List.length_append]; omega⟩, fun _ _ => ?_⟩
      dsimp only
      rw [hO.read, hO.twice]
      dsimp only
      refine Cv.cnd.mk (fun _ => Cv.cnd.mk (fun _ => ⟨coD i, rfl, rfl, rfl, rfl, rfl, rfl, rfl, rfl, rfl, trivial, fun _ _ => ⟨by (repeat' (first | exact rfl | exact trivial | assumption | apply And.intro | (refine fun (_ : Unit) (_ : True) => ?_) | (refine Exists.intro () ?_) | omega | (dsimp only; omega))), Cv.cnd.mk (fun _ => Cv.cnd.mk (fun _ => ⟨coS i 0 1 2, by simp only [← sb_app]; rfl, by omega, fun _ _ => Cv.cnd.mk (fun _ => ⟨(), trivial, fun _ _ => ⟨(), by (first | exact rfl | exact trivial), trivial⟩⟩) (fun f => absurd f ?_)⟩) (fun f => absurd f (by decide))) (fun f => absurd f ?_)⟩⟩) (fun f => absurd f (by decide))) (fun f => absurd f ?_)
      · rw [w64 (by omega)]
        simp
      · have e : (coD i).ask = coD i := by rw [Cmd.ask, if_pos (show (coD i).kind = 1 from rfl)]
        rw [e]; simp
      · simp [hO.ne]
  · rw [hk]
    have hO := co_ok i q2
    have hl := hO.hlen
    have hS : (coS i 0 2 1).length ≤ 2000 := by simp only [coS, List.length_append]; omega
    have hrn : (runes (coS i 0 2 1)).length ≤ 2000 := by
      have := runesP_len (coS i 0 2 1) (coS i 0 2 1).length 0 (by omega)
      rw [runes, List.length_map]
      omega
    refine ⟨⟨by decide, by decide⟩, [[.v (.int .i64 0)], [.v (.int .i64 2)], [.v (.int .i64 1)]], rfl, ⟨by decide, by decide⟩, 0, rfl, ⟨by decide, by decide⟩, sb (coT 0), rfl, by simp only [← sb_app, sb_size, List.length_append]; omega, ⟨by decide, by decide⟩, 2, rfl, ⟨by decide, by decide⟩, sb (coT 2), rfl, by simp only [← sb_app, sb_size, List.length_append]; omega, ⟨by decide, by decide⟩, 1, rfl, ⟨by decide, by decide⟩, sb (coT 1), rfl, by simp only [← sb_app, sb_size, List.length_append]; omega, ⟨kprod i.x, coS i 0 2 1⟩, rfl, rfl, rfl, rfl, rfl, rfl, rfl, rfl, rfl, rfl, rfl, by simp only [← sb_app]; rfl, ⟨hks, by (first | omega | (dsimp only; omega))⟩, fun _ _ => ⟨⟨by decide, by decide⟩, 0, rfl, ⟨by decide, by decide⟩, sb (coT 0), rfl, by simp only [← sb_app, sb_size, List.length_append]; omega, ?_, ⟨sb (coT 0), rfl, rfl⟩, ⟨⟨by decide, by decide⟩, by (first | exact rfl | exact trivial)⟩, trivial, by (repeat' (first | exact rfl | exact trivial | assumption | apply And.intro | (refine fun (_ : Unit) (_ : True) => ?_) | (refine Exists.intro () ?_) | omega | (dsimp only; omega))), ?_⟩⟩
    · refine ⟨⟨kprod i.x, coS i 0 2 1 ++ coT 0⟩, rfl, rfl, rfl, rfl, rfl, rfl, rfl, rfl, rfl, rfl, rfl, by simp only [← sb_app]; rfl, ⟨hks, by dsimp only; rw [List.length_append]; omega⟩, fun _ _ => ?_⟩
      dsimp only
      rw [hO.read, hO.twice]
      dsimp only
      refine Cv.cnd.mk (fun _ => Cv.cnd.mk (fun _ => ⟨coD i, rfl, rfl, rfl, rfl, rfl, rfl, rfl, rfl, rfl, trivial, fun _ _ => ⟨by (repeat' (first | exact rfl | exact trivial | assumption | apply And.intro | (refine fun (_ : Unit) (_ : True) => ?_) | (refine Exists.intro () ?_) | omega | (dsimp only; omega))), Cv.cnd.mk (fun _ => Cv.cnd.mk (fun _ => ⟨coS i 0 2 1, by simp only [← sb_app]; rfl, by omega, fun _ _ => Cv.cnd.mk (fun _ => ⟨(), trivial, fun _ _ => ⟨(), by (first | exact rfl | exact trivial), trivial⟩⟩) (fun f => absurd f ?_)⟩) (fun f => absurd f (by decide))) (fun f => absurd f ?_)⟩⟩) (fun f => absurd f (by decide))) (fun f => absurd f ?_)
      · rw [w64 (by omega)]
        simp
      · have e : (coD i).ask = coD i := by rw [Cmd.ask, if_pos (show (coD i).kind = 1 from rfl)]
        rw [e]; simp
      · simp [hO.ne]
    · refine ⟨⟨kprod i.x, coS i 0 2 1 ++ coT 0⟩, rfl, rfl, rfl, rfl, rfl, rfl, rfl, rfl, rfl, rfl, rfl, by simp only [← sb_app]; rfl, ⟨hks, by dsimp only; rw [List.length_append]; omega⟩, fun _ _ => ?_⟩
      dsimp only
      rw [hO.read, hO.twice]
      dsimp only
      refine Cv.cnd.mk (fun _ => Cv.cnd.mk (fun _ => ⟨coD i, rfl, rfl, rfl, rfl, rfl, rfl, rfl, rfl, rfl, trivial, fun _ _ => ⟨by (repeat' (first | exact rfl | exact trivial | assumption | apply And.intro | (refine fun (_ : Unit) (_ : True) => ?_) | (refine Exists.intro () ?_) | omega | (dsimp only; omega))), Cv.cnd.mk (fun _ => Cv.cnd.mk (fun _ => ⟨coS i 0 2 1, by simp only [← sb_app]; rfl, by omega, fun _ _ => Cv.cnd.mk (fun _ => ⟨(), trivial, fun _ _ => ⟨(), by (first | exact rfl | exact trivial), trivial⟩⟩) (fun f => absurd f ?_)⟩) (fun f => absurd f (by decide))) (fun f => absurd f ?_)⟩⟩) (fun f => absurd f (by decide))) (fun f => absurd f ?_)
      · rw [w64 (by omega)]
        simp
      · have e : (coD i).ask = coD i := by rw [Cmd.ask, if_pos (show (coD i).kind = 1 from rfl)]
        rw [e]; simp
      · simp [hO.ne]
  · rw [hk]
    have hO := co_ok i q3
    have hl := hO.hlen
    have hS : (coS i 1 0 2).length ≤ 2000 := by simp only [coS, List.length_append]; omega
    have hrn : (runes (coS i 1 0 2)).length ≤ 2000 := by
      have := runesP_len (coS i 1 0 2) (coS i 1 0 2).length 0 (by omega)
      rw [runes, List.length_map]
      omega
    refine ⟨⟨by decide, by decide⟩, [[.v (.int .i64 1)], [.v (.int .i64 0)], [.v (.int .i64 2)]], rfl, ⟨by decide, by decide⟩, 1, rfl, ⟨by decide, by decide⟩, sb (coT 1), rfl, by simp only [← sb_app, sb_size, List.length_append]; omega, ⟨by decide, by decide⟩, 0, rfl, ⟨by decide, by decide⟩, sb (coT 0), rfl, by simp only [← sb_app, sb_size, List.length_append]; omega, ⟨by decide, by decide⟩, 2, rfl, ⟨by decide, by decide⟩, sb (coT 2), rfl, by simp only [← sb_app, sb_size, List.length_append]; omega, ⟨kprod i.x, coS i 1 0 2⟩, rfl, rfl, rfl, rfl, rfl, rfl, rfl, rfl, rfl, rfl, rfl, by simp only [← sb_app]; rfl, ⟨hks, by (first | omega | (dsimp only; omega))⟩, fun _ _ => ⟨⟨by decide, by decide⟩, 1, rfl, ⟨by decide, by decide⟩, sb (coT 1), rfl, by simp only [← sb_app, sb_size, List.length_append]; omega, ?_, ⟨sb (coT 1), rfl, rfl⟩, ⟨⟨by decide, by decide⟩, by (first | exact rfl | exact trivial)⟩, trivial, by (repeat' (first | exact rfl | exact trivial | assumption | apply And.intro | (refine fun (_ : Unit) (_ : True) => ?_) | (refine Exists.intro () ?_) | omega | (dsimp only; omega))), ?_⟩⟩
    · refine ⟨⟨kprod i.x, coS i 1 0 2 ++ coT 1⟩, rfl, rfl, rfl, rfl, rfl, rfl, rfl, rfl, rfl, rfl, rfl, by simp only [← sb_app]; rfl, ⟨hks, by dsimp only; rw [List.length_append]; omega⟩, fun _ _ => ?_⟩
      dsimp only
      rw [hO.read, hO.twice]
      dsimp only
      refine Cv.cnd.mk (fun _ => Cv.cnd.mk (fun _ => ⟨coD i, rfl, rfl, rfl, rfl, rfl, rfl, rfl, rfl, rfl, trivial, fun _ _ => ⟨by (repeat' (first | exact rfl | exact trivial | assumption | apply And.intro | (refine fun (_ : Unit) (_ : True) => ?_) | (refine Exists.intro () ?_) | omega | (dsimp only; omega))), Cv.cnd.mk (fun _ => Cv.cnd.mk (fun _ => ⟨coS i 1 0 2, by simp only [← sb_app]; rfl, by omega, fun _ _ => Cv.cnd.mk (fun _ => ⟨(), trivial, fun _ _ => ⟨(), by (first | exact rfl | exact trivial), trivial⟩⟩) (fun f => absurd f ?_)⟩) (fun f => absurd f (by decide))) (fun f => absurd f ?_)⟩⟩) (fun f => absurd f (by decide))) (fun f => absurd f ?_)
      · rw [w64 (by omega)]
        simp
      · have e : (coD i).ask = coD i := by rw [Cmd.ask, if_pos (show (coD i).kind = 1 from rfl)]
        rw [e]; simp
      · simp [hO.ne]
    · refine ⟨⟨kprod i.x, coS i 1 0 2 ++ coT 1⟩, rfl, rfl, rfl, rfl, rfl, rfl, rfl, rfl, rfl, rfl, rfl, by simp only [← sb_app]; rfl, ⟨hks, by dsimp only; rw [List.length_append]; omega⟩, fun _ _ => ?_⟩
      dsimp only
      rw [hO.read, hO.twice]
      dsimp only
      refine Cv.cnd.mk (fun _ => Cv.cnd.mk (fun _ => ⟨coD i, rfl, rfl, rfl, rfl, rfl, rfl, rfl, rfl, rfl, trivial, fun _ _ => ⟨by (repeat' (first | exact rfl | exact trivial | assumption | apply And.intro | (refine fun (_ : Unit) (_ : True) => ?_) | (refine Exists.intro () ?_) | omega | (dsimp only; omega))), Cv.cnd.mk (fun _ => Cv.cnd.mk (fun _ => ⟨coS i 1 0 2, by simp only [← sb_app]; rfl, by omega, fun _ _ => Cv.cnd.mk (fun _ => ⟨(), trivial, fun _ _ => ⟨(), by (first | exact rfl | exact trivial), trivial⟩⟩) (fun f => absurd f ?_)⟩) (fun f => absurd f (by decide))) (fun f => absurd f ?_)⟩⟩) (fun f => absurd f (by decide))) (fun f => absurd f ?_)
      · rw [w64 (by omega)]
        simp
      · have e : (coD i).ask = coD i := by rw [Cmd.ask, if_pos (show (coD i).kind = 1 from rfl)]
        rw [e]; simp
      · simp [hO.ne]
  · rw [hk]
    have hO := co_ok i q4
    have hl := hO.hlen
    have hS : (coS i 1 2 0).length ≤ 2000 := by simp only [coS, List.length_append]; omega
    have hrn : (runes (coS i 1 2 0)).length ≤ 2000 := by
      have := runesP_len (coS i 1 2 0) (coS i 1 2 0).length 0 (by omega)
      rw [runes, List.length_map]
      omega
    refine ⟨⟨by decide, by decide⟩, [[.v (.int .i64 1)], [.v (.int .i64 2)], [.v (.int .i64 0)]], rfl, ⟨by decide, by decide⟩, 1, rfl, ⟨by decide, by decide⟩, sb (coT 1), rfl, by simp only [← sb_app, sb_size, List.length_append]; omega, ⟨by decide, by decide⟩, 2, rfl, ⟨by decide, by decide⟩, sb (coT 2), rfl, by simp only [← sb_app, sb_size, List.length_append]; omega, ⟨by decide, by decide⟩, 0, rfl, ⟨by decide, by decide⟩, sb (coT 0), rfl, by simp only [← sb_app, sb_size, List.length_append]; omega, ⟨kprod i.x, coS i 1 2 0⟩, rfl, rfl, rfl, rfl, rfl, rfl, rfl, rfl, rfl, rfl, rfl, by simp only [← sb_app]; rfl, ⟨hks, by (first | omega | (dsimp only; omega))⟩, fun _ _ => ⟨⟨by decide, by decide⟩, 1, rfl, ⟨by decide, by decide⟩, sb (coT 1), rfl, by simp only [← sb_app, sb_size, List.length_append]; omega, ?_, ⟨sb (coT 1), rfl, rfl⟩, ⟨⟨by decide, by decide⟩, by (first | exact rfl | exact trivial)⟩, trivial, by (repeat' (first | exact rfl | exact trivial | assumption | apply And.intro | (refine fun (_ : Unit) (_ : True) => ?_) | (refine Exists.intro () ?_) | omega | (dsimp only; omega))), ?_⟩⟩
    · refine ⟨⟨kprod i.x, coS i 1 2 0 ++ coT 1⟩, rfl, rfl, rfl, rfl, rfl, rfl, rfl, rfl, rfl, rfl, rfl, by simp only [← sb_app]; rfl, ⟨hks, by dsimp only; rw [List.length_append]; omega⟩, fun _ _ => ?_⟩
      dsimp only
      rw [hO.read, hO.twice]
      dsimp only
      refine Cv.cnd.mk (fun _ => Cv.cnd.mk (fun _ => ⟨coD i, rfl, rfl, rfl, rfl, rfl, rfl, rfl, rfl, rfl, trivial, fun _ _ => ⟨by (repeat' (first | exact rfl | exact trivial | assumption | apply And.intro | (refine fun (_ : Unit) (_ : True) => ?_) | (refine Exists.intro () ?_) | omega | (dsimp only; omega))), Cv.cnd.mk (fun _ => Cv.cnd.mk (fun _ => ⟨coS i 1 2 0, by simp only [← sb_app]; rfl, by omega, fun _ _ => Cv.cnd.mk (fun _ => ⟨(), trivial, fun _ _ => ⟨(), by (first | exact rfl | exact trivial), trivial⟩⟩) (fun f => absurd f ?_)⟩) (fun f => absurd f (by decide))) (fun f => absurd f ?_)⟩⟩) (fun f => absurd f (by decide))) (fun f => absurd f ?_)
      · rw [w64 (by omega)]
        simp
      · have e : (coD i).ask = coD i := by rw [Cmd.ask, if_pos (show (coD i).kind = 1 from rfl)]
        rw [e]; simp
      · simp [hO.ne]
    · refine ⟨⟨kprod i.x, coS i 1 2 0 ++ coT 1⟩, rfl, rfl, rfl, rfl, rfl, rfl, rfl, rfl, rfl, rfl, rfl, by simp only [← sb_app]; rfl, ⟨hks, by dsimp only; rw [List.length_append]; omega⟩, fun _ _ => ?_⟩
      dsimp only
      rw [hO.read, hO.twice]
      dsimp only
      refine Cv.cnd.mk (fun _ => Cv.cnd.mk (fun _ => ⟨coD i, rfl, rfl, rfl, rfl, rfl, rfl, rfl, rfl, rfl, trivial, fun _ _ => ⟨by (repeat' (first | exact rfl | exact trivial | assumption | apply And.intro | (refine fun (_ : Unit) (_ : True) => ?_) | (refine Exists.intro () ?_) | omega | (dsimp only; omega))), Cv.cnd.mk (fun _ => Cv.cnd.mk (fun _ => ⟨coS i 1 2 0, by simp only [← sb_app]; rfl, by omega, fun _ _ => Cv.cnd.mk (fun _ => ⟨(), trivial, fun _ _ => ⟨(), by (first | exact rfl | exact trivial), trivial⟩⟩) (fun f => absurd f ?_)⟩) (fun f => absurd f (by decide))) (fun f => absurd f ?_)⟩⟩) (fun f => absurd f (by decide))) (fun f => absurd f ?_)
      · rw [w64 (by omega)]
        simp
      · have e : (coD i).ask = coD i := by rw [Cmd.ask, if_pos (show (coD i).kind = 1 from rfl)]
        rw [e]; simp
      · simp [hO.ne]
  · rw [hk]
    have hO := co_ok i q5
    have hl := hO.hlen
    have hS : (coS i 2 0 1).length ≤ 2000 := by simp only [coS, List.length_append]; omega
    have hrn : (runes (coS i 2 0 1)).length ≤ 2000 := by
      have := runesP_len (coS i 2 0 1) (coS i 2 0 1).length 0 (by omega)
      rw [runes, List.length_map]
      omega
    refine ⟨⟨by decide, by decide⟩, [[.v (.int .i64 2)], [.v (.int .i64 0)], [.v (.int .i64 1)]], rfl, ⟨by decide, by decide⟩, 2, rfl, ⟨by decide, by decide⟩, sb (coT 2), rfl, by simp only [← sb_app, sb_size, List.length_append]; omega, ⟨by decide, by decide⟩, 0, rfl, ⟨by decide, by decide⟩, sb (coT 0), rfl, by simp only [← sb_app, sb_size, List.length_append]; omega, ⟨by decide, by decide⟩, 1, rfl, ⟨by decide, by decide⟩, sb (coT 1), rfl, by simp only [← sb_app, sb_size, List.length_append]; omega, ⟨kprod i.x, coS i 2 0 1⟩, rfl, rfl, rfl, rfl, rfl, rfl, rfl, rfl, rfl, rfl, rfl, by simp only [← sb_app]; rfl, ⟨hks, by (first | omega | (dsimp only; omega))⟩, fun _ _ => ⟨⟨by decide, by decide⟩, 2, rfl, ⟨by decide, by decide⟩, sb (coT 2), rfl, by simp only [← sb_app, sb_size, List.length_append]; omega, ?_, ⟨sb (coT 2), rfl, rfl⟩, ⟨⟨by decide, by decide⟩, by (first | exact rfl | exact trivial)⟩, trivial, by (repeat' (first | exact rfl | exact trivial | assumption | apply And.intro | (refine fun (_ : Unit) (_ : True) => ?_) | (refine Exists.intro () ?_) | omega | (dsimp only; omega))), ?_⟩⟩
    · refine ⟨⟨kprod i.x, coS i 2 0 1 ++ coT 2⟩, rfl, rfl, rfl, rfl, rfl, rfl, rfl, rfl, rfl, rfl, rfl, by simp only [← sb_app]; rfl, ⟨hks, by dsimp only; rw [List.length_append]; omega⟩, fun _ _ => ?_⟩
      dsimp only
      rw [hO.read, hO.twice]
      dsimp only
      refine Cv.cnd.mk (fun _ => Cv.cnd.mk (fun _ => ⟨coD i, rfl, rfl, rfl, rfl, rfl, rfl, rfl, rfl, rfl, trivial, fun _ _ => ⟨by (repeat' (first | exact rfl | exact trivial | assumption | apply And.intro | (refine fun (_ : Unit) (_ : True) => ?_) | (refine Exists.intro () ?_) | omega | (dsimp only; omega))), Cv.cnd.mk (fun _ => Cv.cnd.mk (fun _ => ⟨coS i 2 0 1, by simp only [← sb_app]; rfl, by omega, fun _ _ => Cv.cnd.mk (fun _ => ⟨(), trivial, fun _ _ => ⟨(), by (first | exact rfl | exact trivial), trivial⟩⟩) (fun f => absurd f ?_)⟩) (fun f => absurd f (by decide))) (fun f => absurd f ?_)⟩⟩) (fun f => absurd f (by decide))) (fun f => absurd f ?_)
      · rw [w64 (by omega)]
        simp
      · have e : (coD i).ask = coD i := by rw [Cmd.ask, if_pos (show (coD i).kind = 1 from rfl)]
        rw [e]; simp
      · simp [hO.ne]
    · refine ⟨⟨kprod i.x, coS i 2 0 1 ++ coT 2⟩, rfl, rfl, rfl, rfl, rfl, rfl, rfl, rfl, rfl, rfl, rfl, by simp only [← sb_app]; rfl, ⟨hks, by dsimp only; rw [List.length_append]; omega⟩, fun _ _ => ?_⟩
      dsimp only
      rw [hO.read, hO.twice]
      dsimp only
      refine Cv.cnd.mk (fun _ => Cv.cnd.mk (fun _ => ⟨coD i, rfl, rfl, rfl, rfl, rfl, rfl, rfl, rfl, rfl, trivial, fun _ _ => ⟨by (repeat' (first | exact rfl | exact trivial | assumption | apply And.intro | (refine fun (_ : Unit) (_ : True) => ?_) | (refine Exists.intro () ?_) | omega | (dsimp only; omega))), Cv.cnd.mk (fun _ => Cv.cnd.mk (fun _ => ⟨coS i 2 0 1, by simp only [← sb_app]; rfl, by omega, fun _ _ => Cv.cnd.mk (fun _ => ⟨(), trivial, fun _ _ => ⟨(), by (first | exact rfl | exact trivial), trivial⟩⟩) (fun f => absurd f ?_)⟩) (fun f => absurd f (by decide))) (fun f => absurd f ?_)⟩⟩) (fun f => absurd f (by decide))) (fun f => absurd f ?_)
      · rw [w64 (by omega)]
        simp
      · have e : (coD i).ask = coD i := by rw [Cmd.ask, if_pos (show (coD i).kind = 1 from rfl)]
        rw [e]; simp
      · simp [hO.ne]
  · rw [hk]
    have hO := co_ok i q6
    have hl := hO.hlen
    have hS : (coS i 2 1 0).length ≤ 2000 := by simp only [coS, List.length_append]; omega
    have hrn : (runes (coS i 2 1 0)).length ≤ 2000 := by
      have := runesP_len (coS i 2 1 0) (coS i 2 1 0).length 0 (by omega)
      rw [runes, List.length_map]
      omega
    refine ⟨⟨by decide, by decide⟩, [[.v (.int .i64 2)], [.v (.int .i64 1)], [.v (.int .i64 0)]], rfl, ⟨by decide, by decide⟩, 2, rfl, ⟨by decide, by decide⟩, sb (coT 2), rfl, by simp only [← sb_app, sb_size, List.length_append]; omega, ⟨by decide, by decide⟩, 1, rfl, ⟨by decide, by decide⟩, sb (coT 1), rfl, by simp only [← sb_app, sb_size, List.length_append]; omega, ⟨by decide, by decide⟩, 0, rfl, ⟨by decide, by decide⟩, sb (coT 0), rfl, by simp only [← sb_app, sb_size, List.length_append]; omega, ⟨kprod i.x, coS i 2 1 0⟩, rfl, rfl, rfl, rfl, rfl, rfl, rfl, rfl, rfl, rfl, rfl, by simp only [← sb_app]; rfl, ⟨hks, by (first | omega | (dsimp only; omega))⟩, fun _ _ => ⟨⟨by decide, by decide⟩, 2, rfl, ⟨by decide, by decide⟩, sb (coT 2), rfl, by simp only [← sb_app, sb_size, List.length_append]; omega, ?_, ⟨sb (coT 2), rfl, rfl⟩, ⟨⟨by decide, by decide⟩, by (first | exact rfl | exact trivial)⟩, trivial, by (repeat' (first | exact rfl | exact trivial | assumption | apply And.intro | (refine fun (_ : Unit) (_ : True) => ?_) | (refine Exists.intro () ?_) | omega | (dsimp only; omega))), ?_⟩⟩
    · refine ⟨⟨kprod i.x, coS i 2 1 0 ++ coT 2⟩, rfl, rfl, rfl, rfl, rfl, rfl, rfl, rfl, rfl, rfl, rfl, by simp only [← sb_app]; rfl, ⟨hks, by dsimp only; rw [List.length_append]; omega⟩, fun _ _ => ?_⟩
      dsimp only
      rw [hO.read, hO.twice]
      dsimp only
      refine Cv.cnd.mk (fun _ => Cv.cnd.mk (fun _ => ⟨coD i, rfl, rfl, rfl, rfl, rfl, rfl, rfl, rfl, rfl, trivial, fun _ _ => ⟨by (repeat' (first | exact rfl | exact trivial | assumption | apply And.intro | (refine fun (_ : Unit) (_ : True) => ?_) | (refine Exists.intro () ?_) | omega | (dsimp only; omega))), Cv.cnd.mk (fun _ => Cv.cnd.mk (fun _ => ⟨coS i 2 1 0, by simp only [← sb_app]; rfl, by omega, fun _ _ => Cv.cnd.mk (fun _ => ⟨(), trivial, fun _ _ => ⟨(), by (first | exact rfl | exact trivial), trivial⟩⟩) (fun f => absurd f ?_)⟩) (fun f => absurd f (by decide))) (fun f => absurd f ?_)⟩⟩) (fun f => absurd f (by decide))) (fun f => absurd f ?_)
      · rw [w64 (by omega)]
        simp
      · have e : (coD i).ask = coD i := by rw [Cmd.ask, if_pos (show (coD i).kind = 1 from rfl)]
        rw [e]; simp
      · simp [hO.ne]
    · refine ⟨⟨kprod i.x, coS i 2 1 0 ++ coT 2⟩, rfl, rfl, rfl, rfl, rfl, rfl, rfl, rfl, rfl, rfl, rfl, by simp only [← sb_app]; rfl, ⟨hks, by dsimp only; rw [List.length_append]; omega⟩, fun _ _ => ?_⟩
      dsimp only
      rw [hO.read, hO.twice]
      dsimp only
      refine Cv.cnd.mk (fun _ => Cv.cnd.mk (fun _ => ⟨coD i, rfl, rfl, rfl, rfl, rfl, rfl, rfl, rfl, rfl, trivial, fun _ _ => ⟨by (repeat' (first | exact rfl | exact trivial | assumption | apply And.intro | (refine fun (_ : Unit) (_ : True) => ?_) | (refine Exists.intro () ?_) | omega | (dsimp only; omega))), Cv.cnd.mk (fun _ => Cv.cnd.mk (fun _ => ⟨coS i 2 1 0, by simp only [← sb_app]; rfl, by omega, fun _ _ => Cv.cnd.mk (fun _ => ⟨(), trivial, fun _ _ => ⟨(), by (first | exact rfl | exact trivial), trivial⟩⟩) (fun f => absurd f ?_)⟩) (fun f => absurd f (by decide))) (fun f => absurd f ?_)⟩⟩) (fun f => absurd f (by decide))) (fun f => absurd f ?_)
      · rw [w64 (by omega)]
        simp
      · have e : (coD i).ask = coD i := by rw [Cmd.ask, if_pos (show (coD i).kind = 1 from rfl)]
        rw [e]; simp
      · simp [hO.ne]
end Sx

