/- Texts of ours, one behind the other: a walk that the kernel reckons, and contracts of functions. No condition. -/
import Derived.Lib.AppendIntMem
import Derived.Lib.LaidU8
import Derived.Shelf.Strconv.Itoa4
import Derived.Shelf.Strings.BuilderRune
import Derived.Shelf.Unicode.DecodeAny
import Derived.Test.YthlgpiinapiiaaaGreatDoorM7

namespace Sx
set_option maxRecDepth 100000
open Go Go.Proofs Go.Shelf
theorem layn173 : Go.Proofs.LaysM.n173 Tryz.prog shelfRen := {
  mixed := by kernel_rfl
  f129 := Tryz.func91.trans (congrArg some (by kernel_rfl))
  f173 := Tryz.func48.trans (congrArg some (by kernel_rfl))
  f246 := Tryz.func65.trans (congrArg some (by kernel_rfl))
  f283 := Tryz.func79.trans (congrArg some (by kernel_rfl))
  f284 := Tryz.func80.trans (congrArg some (by kernel_rfl))
  f285 := Tryz.func81.trans (congrArg some (by kernel_rfl))
  f286 := Tryz.func82.trans (congrArg some (by kernel_rfl))
  f317 := Tryz.func90.trans (congrArg some (by kernel_rfl))
  f318 := Tryz.func92.trans (congrArg some (by kernel_rfl))
  f319 := Tryz.func93.trans (congrArg some (by kernel_rfl))
  f320 := Tryz.func94.trans (congrArg some (by kernel_rfl))
  f337 := Tryz.func100.trans (congrArg some (by kernel_rfl))
  f338 := Tryz.func101.trans (congrArg some (by kernel_rfl))
  t0 := Tryz.underlying0
  a0 := Tryz.isAgg0
  z0 := Tryz.sizeOf0
  v0 := Tryz.zeroValue0
  t2 := Tryz.underlying2
  a2 := Tryz.isAgg2
  z2 := Tryz.sizeOf2
  v2 := Tryz.zeroValue2
  t3 := Tryz.underlying3
  a3 := Tryz.isAgg3
  z3 := Tryz.sizeOf3
  v3 := Tryz.zeroValue3
  t4 := Tryz.underlying4
  a4 := Tryz.isAgg4
  z4 := Tryz.sizeOf4
  v4 := Tryz.zeroValue4
  t5 := Tryz.underlying5
  a5 := Tryz.isAgg5
  z5 := Tryz.sizeOf5
  v5 := Tryz.zeroValue5
  t9 := Tryz.underlying9
  a9 := Tryz.isAgg9
  z9 := Tryz.sizeOf9
  v9 := Tryz.zeroValue9
  t20 := Tryz.underlying20
  a20 := Tryz.isAgg20
  z20 := Tryz.sizeOf20
  v20 := Tryz.zeroValue20
  t37 := Tryz.underlying34
  a37 := Tryz.isAgg34
  z37 := Tryz.sizeOf34
  v37 := Tryz.zeroValue34
  t46 := Tryz.underlying139
  a46 := Tryz.isAgg139
  z46 := Tryz.sizeOf139
  v46 := Tryz.zeroValue139
  t51 := Tryz.underlying136
  a51 := Tryz.isAgg136
  z51 := Tryz.sizeOf136
  v51 := Tryz.zeroValue136
  t53 := Tryz.underlying58
  a53 := Tryz.isAgg58
  z53 := Tryz.sizeOf58
  v53 := Tryz.zeroValue58
  t171 := Tryz.underlying121
  a171 := Tryz.isAgg121
  z171 := Tryz.sizeOf121
  v171 := Tryz.zeroValue121
  t173 := Tryz.underlying124
  a173 := Tryz.isAgg124
  z173 := Tryz.sizeOf124
  v173 := Tryz.zeroValue124
  t212 := Tryz.underlying135
  a212 := Tryz.isAgg135
  z212 := Tryz.sizeOf135
  v212 := Tryz.zeroValue135
  t213 := Tryz.underlying137
  a213 := Tryz.isAgg137
  z213 := Tryz.sizeOf137
  t232 := Tryz.underlying150
  a232 := Tryz.isAgg150
  z232 := Tryz.sizeOf150
  v232 := Tryz.zeroValue150
  t233 := Tryz.underlying151
  a233 := Tryz.isAgg151
  z233 := Tryz.sizeOf151
  v233 := Tryz.zeroValue151
  g17 := by kernel_rfl
  g18 := by kernel_rfl
  g19 := by kernel_rfl
  i0 := by kernel_rfl
  i2 := by kernel_rfl
  i3 := by kernel_rfl
  i4 := by kernel_rfl
  i5 := by kernel_rfl
  i9 := by kernel_rfl
  i20 := by kernel_rfl
  i37 := by kernel_rfl
  i46 := by kernel_rfl
  i51 := by kernel_rfl
  i53 := by kernel_rfl
  i171 := by kernel_rfl
  i173 := by kernel_rfl
  i212 := by kernel_rfl
  i232 := by kernel_rfl
  i233 := by kernel_rfl
  m17 := by kernel_rfl
  m18 := by kernel_rfl
  m19 := by kernel_rfl }
end Sx

namespace Sx
set_option linter.unusedVariables false
set_option linter.unusedSimpArgs false
set_option maxRecDepth 100000
open Go Go.RowKit Go.Proofs

theorem digN_dec : ∀ (k u : Nat) (acc : List UInt8), 0 < u → u < 10 ^ k → digN k u acc = Lib.decDigits u ++ acc
  | 0, u, acc, h0, h => by simp at h; omega
  | k + 1, u, acc, h0, h => by
    rw [digN, if_neg (by omega), Lib.decDigits]
    split
    · rename_i hlt
      rw [show u / 10 = 0 by omega, show u % 10 = u by omega]
      cases k with
      | zero => rfl
      | succ k => rw [digN, if_pos ⟨rfl, by simp⟩]; rfl
    · rw [digN_dec k (u / 10) _ (by omega) (by rw [Nat.pow_succ] at h; omega), List.append_assoc]
      rfl
theorem digU_dec {u : Nat} (h : u < 10 ^ 25) : digU u = Lib.decDigits u := by
  rcases Nat.eq_zero_or_pos u with rfl | h0
  · rw [Lib.decDigits, dif_pos (by omega)]; rfl
  · rw [digU, digN_dec 25 u [] h0 h, List.append_nil]
theorem digF_itoa {n : Int} (h0 : -9223372036854775808 ≤ n) (h1 : n ≤ 9223372036854775807) : digF n = Lib.itoa n := by
  unfold digF Lib.itoa
  split
  · rw [show (-n).toNat = n.natAbs by omega, digU_dec (by omega)]
  · rw [digU_dec (by omega)]
theorem tab_of {w : World} (h : HTab w) : Lib.TabIs Tryz.prog w "internal/strconv.uint64pow10" .u64 Lib.pow10Tab := by
  obtain ⟨o, h1, T, fr, rfl⟩ := h _ (List.mem_cons_of_mem _ (List.mem_cons_of_mem _ (List.mem_cons_self)))
  dsimp only at h1
  have hg : Tryz.prog.globalNamed "internal/strconv.uint64pow10" = some 0 := by kernel_rfl
  show (Tryz.prog.globalNamed "internal/strconv.uint64pow10").bind _ = _
  rw [hg, Option.bind_some, h1]

set_option maxHeartbeats 4000000 in
theorem fmt_calls (n : Int) (w : World) (hG : HTab w) (h0 : -9223372036854775808 ≤ n) (h1 : n ≤ 9223372036854775807) :
    Calls Tryz.prog 48 #[.int .i64 n, .int .i64 10] w fun e w' => e = .returned (.string (sb (digF n))) ∧ Below w.heap.size w w' := by
  refine (Any.strconv_FormatInt_10 layn173 n h0 h1 w (tab_of hG)).mono ?_
  rintro e w' ⟨rfl, k, os, rfl⟩
  refine ⟨?_, Lib.below_grow _ w (Nat.le_refl _) k os⟩
  rw [digF_itoa h0 h1]; rfl
theorem fmt_ok : fmtC.ok Tryz.prog 48 := con_of_calls (by kernel_rfl) fun n hs E w ys hG hv => by
  obtain ⟨h0, h1⟩ : -9223372036854775808 ≤ n ∧ n ≤ 9223372036854775807 := hs
  simp only [VRL, VR, DR] at hv
  obtain ⟨y, _, rfl, ⟨rfl, _⟩, z, _, rfl, ⟨rfl, _⟩, rfl⟩ := hv
  refine (fmt_calls n w hG h0 h1).mono ?_
  rintro e w' ⟨rfl, hb⟩
  exact ⟨_, rfl, by simp only [VR, DR]; exact ⟨trivial, rfl⟩, hb⟩

end Sx

namespace Sx
set_option linter.unusedVariables false
set_option linter.unusedSimpArgs false
set_option maxRecDepth 100000
open Go Cv Go.Proofs

def cntN (n : Nat) : Nat := n + n * (n - 1) / 2
theorem kN_nat (x : Prd) : 2 ≤ (kN x).toNat ∧ (kN x).toNat < 6 := by have := kN_bd x; omega
theorem kcnt (x : Prd) : (kprod x).count = cntN (kN x).toNat := by
  rw [count_def (kprod_check x)]
  show (kMonths (kN x).toNat).length + _ = _
  rw [show (kprod x).months.length = (kN x).toNat from kMonths_len _, kMonths_len]
  rfl
structure NmOk (p : Prd) (i : Int) : Prop where
  fold : foldF (p.name i) = p.name i
  w : isW1 (p.name i) = true
  len : (p.name i).length ≤ 11
  find : p.find (p.name i) = (i, true)
structure CmOk (p : Prd) (c : Cmd) : Prop where
  kind : c.kind = 1 ∨ c.kind = 2 ∨ c.kind = 3 ∨ c.kind = 4
  id : -1000000000000000000 < c.id ∧ c.id < 1000000000000000000
  qty : -1000000000000000000 < c.qty ∧ c.qty < 1000000000000000000
  price : -1000000000000000000 < c.price ∧ c.price < 1000000000000000000
  least : -1000000000000000000 < c.least ∧ c.least < 1000000000000000000
  side : c.kind = 1 → c.side = 1 ∨ c.side = 2
  time : c.kind = 1 → c.time = 1 ∨ c.time = 2 ∨ c.time = 3
  nm : c.kind = 1 → NmOk p c.inst
  lab : c.kind = 1 → c.label ≠ [] → labOk c.label = true ∧ isW1 c.label = true
theorem right_kind {c : Cmd} (h : c.right = 0) : c.kind = 1 ∨ c.kind = 2 ∨ c.kind = 3 ∨ c.kind = 4 := by
  unfold Cmd.right at h
  split at h
  · cases h
  · omega
end Sx

namespace Sx
set_option linter.unusedVariables false
set_option linter.unusedSimpArgs false
set_option maxRecDepth 100000
open Go Cv Go.Proofs

theorem digs_ok : digC.ok Tryz.prog 27 := bydigs (gokc fmt_ok gok0) fun n h => ⟨n, rfl, rfl, h, fun _ _ => ⟨(), rfl, trivial⟩⟩
theorem digN_fuel : ∀ (k u : Nat) (acc : List UInt8), (digN k u acc).length ≤ k + acc.length
  | 0, u, acc => by simp [digN]
  | k + 1, u, acc => by
    rw [digN]
    split
    · omega
    · have := digN_fuel k (u / 10) (UInt8.ofNat (48 + u % 10) :: acc)
      rw [List.length_cons] at this
      omega
theorem digF_26 (n : Int) : (digF n).length ≤ 26 := by
  have h := fun u => digN_fuel 25 u []
  unfold digF
  split
  · have := h (-n).toNat
    simp only [digU, List.length_cons, List.length_nil] at this ⊢
    omega
  · have := h n.toNat
    simp only [digU, List.length_nil] at this ⊢
    omega
theorem sprF_len (c : List UInt8) (a b : Int) : (sprF c a b).1.length ≤ 2 * c.length + 7 := by
  have h1 := codeF_len c a
  have h2 := codeF_len c b
  unfold sprF
  split
  · simp
  split
  · simp
  split
  · simp
  · simp only [List.length_append, List.length_cons, List.length_nil]
    omega
theorem name_len (p : Prd) (n : Int) : (p.name n).length ≤ 2 * p.code.length + 7 := by
  unfold Prd.name
  split
  · simp
  split
  · exact sprF_len _ _ _
  · have := codeF_len p.code (p.month (p.legs n).1)
    omega

theorem vask (c : Cmd) (h : askC.cnd c) : Vask c := by
  unfold Vask
  refine Cv.cnd.mk (fun d => ?_) fun d => Cv.cnd.mk (fun d2 => ?_) fun d2 => Cv.cnd.mk (fun d3 => ?_) fun d3 => Cv.cnd.mk (fun d4 => ?_) fun d4 => ?_
  all_goals
    simp only [beq_iff_eq, beq_eq_false_iff_ne, ne_eq] at *
    simp only [Cmd.ask, *, if_true, if_false]
    (repeat' (first | exact rfl | exact trivial | assumption | apply And.intro | (refine fun (_ : Unit) (_ : True) => ?_) | (refine Exists.intro () ?_) | omega | (dsimp only; omega)))
theorem ask_ok : askC.ok Tryz.prog 28 := byask gok0 vask
theorem vask6 (c : Cmd) (h : askC.cnd c) : Vask6 c := by
  unfold Vask6
  refine Cv.cnd.mk (fun d => ?_) fun d => Cv.cnd.mk (fun d2 => ?_) fun d2 => Cv.cnd.mk (fun d3 => ?_) fun d3 => Cv.cnd.mk (fun d4 => ?_) fun d4 => ?_
  all_goals
    simp only [beq_iff_eq, beq_eq_false_iff_ne, ne_eq] at *
    simp only [Cmd.ask, *, if_true, if_false]
    (repeat' (first | exact rfl | exact trivial | assumption | apply And.intro | (refine fun (_ : Unit) (_ : True) => ?_) | (refine Exists.intro () ?_) | omega | (dsimp only; omega)))
theorem ask6_ok : askC.ok Tryz.prog 18 := byask6 gok0 vask6

theorem bBUY : ByteArray.mk #[98, 117, 121] = sb [98, 117, 121] := rfl
theorem bSELL : ByteArray.mk #[115, 101, 108, 108] = sb [115, 101, 108, 108] := rfl
theorem b32 : ByteArray.mk #[32] = sb [32] := rfl
theorem bAT : ByteArray.mk #[32, 97, 116, 32] = sb [32, 97, 116, 32] := rfl
theorem bID : ByteArray.mk #[32, 105, 100, 32] = sb [32, 105, 100, 32] := rfl
theorem bLEAST : ByteArray.mk #[32, 108, 101, 97, 115, 116, 32] = sb [32, 108, 101, 97, 115, 116, 32] := rfl
theorem bNOW : ByteArray.mk #[32, 110, 111, 119] = sb [32, 110, 111, 119] := rfl
theorem bWHOLE : ByteArray.mk #[32, 119, 104, 111, 108, 101] = sb [32, 119, 104, 111, 108, 101] := rfl
theorem bLABEL : ByteArray.mk #[32, 108, 97, 98, 101, 108, 32] = sb [32, 108, 97, 98, 101, 108, 32] := rfl
theorem bCANCEL : ByteArray.mk #[99, 97, 110, 99, 101, 108, 32] = sb [99, 97, 110, 99, 101, 108, 32] := rfl
theorem bCUT : ByteArray.mk #[99, 117, 116, 32] = sb [99, 117, 116, 32] := rfl
theorem bCHANGE : ByteArray.mk #[99, 104, 97, 110, 103, 101, 32] = sb [99, 104, 97, 110, 103, 101, 32] := rfl

set_option maxHeartbeats 4000000 in
theorem vprnt (i : PcI) (h : prntC.cnd i) : Vprnt i := by
  obtain ⟨h1, h2, h3, h4⟩ : i.p.small ∧ i.p.code.length ≤ 1000 ∧ i.c.raw ∧ i.c.label.length ≤ 1000 := h
  obtain ⟨r1, r2, r3, r4, r5, r6, r7, r8⟩ := h3
  have hn := name_len i.p i.c.inst
  have d1 := digF_26 i.c.qty
  have d2 := digF_26 i.c.price
  have d3 := digF_26 i.c.id
  have d4 := digF_26 i.c.least
  unfold Vprnt
  simp only [bBUY, bSELL, b32, bAT, bID, bLEAST, bNOW, bWHOLE, bLABEL, sb_nil', ← sb_app, sb_size, i64max, eqB, List.length_append, List.length_cons, List.length_nil]
  refine Cv.cnd.mk (fun c1 => ?_) fun c1 => ?_
  all_goals
    refine ⟨by omega, ⟨i.p, i.c.inst⟩, rfl, rfl, rfl, rfl, rfl, rfl, rfl, rfl, rfl, rfl, rfl, rfl, h1, fun _ _ => ⟨by (first | exact rfl | exact trivial), by (first | exact rfl | exact trivial), by (first | exact rfl | exact trivial), by (first | omega | (dsimp only; omega)), by (first | omega | (dsimp only; omega)), i.c.qty, rfl, r6, fun _ _ => ⟨by (first | exact rfl | exact trivial), by (first | exact rfl | exact trivial), by (first | omega | (dsimp only; omega)), by (first | omega | (dsimp only; omega)), i.c.price, rfl, r5, fun _ _ => ⟨by (first | exact rfl | exact trivial), by (first | omega | (dsimp only; omega)), by (first | omega | (dsimp only; omega)), i.c.id, rfl, r2, fun _ _ => ⟨by (first | omega | (dsimp only; omega)), ?_⟩⟩⟩⟩⟩
    refine Cv.cnd.mk (fun c2 => ⟨i.c.least, rfl, r7, fun _ _ => ⟨by omega, by (first | omega | (dsimp only; omega)), Cv.cnd.mk (fun c3 => ⟨by (first | omega | (dsimp only; omega)), Cv.cnd.mk (fun c4 => ⟨by omega, by (first | omega | (dsimp only; omega)), (), ?_, trivial⟩) (fun c4 => ⟨(), ?_, trivial⟩)⟩) (fun c3 => Cv.cnd.mk (fun c5 => ⟨by (first | omega | (dsimp only; omega)), Cv.cnd.mk (fun c4 => ⟨by omega, by (first | omega | (dsimp only; omega)), (), ?_, trivial⟩) (fun c4 => ⟨(), ?_, trivial⟩)⟩) (fun c5 => Cv.cnd.mk (fun c4 => ⟨by omega, by (first | omega | (dsimp only; omega)), (), ?_, trivial⟩) (fun c4 => ⟨(), ?_, trivial⟩)))⟩⟩)
      (fun c2 => Cv.cnd.mk (fun c3 => ⟨by (first | omega | (dsimp only; omega)), Cv.cnd.mk (fun c4 => ⟨by omega, by (first | omega | (dsimp only; omega)), (), ?_, trivial⟩) (fun c4 => ⟨(), ?_, trivial⟩)⟩) (fun c3 => Cv.cnd.mk (fun c5 => ⟨by (first | omega | (dsimp only; omega)), Cv.cnd.mk (fun c4 => ⟨by omega, by (first | omega | (dsimp only; omega)), (), ?_, trivial⟩) (fun c4 => ⟨(), ?_, trivial⟩)⟩) (fun c5 => Cv.cnd.mk (fun c4 => ⟨by omega, by (first | omega | (dsimp only; omega)), (), ?_, trivial⟩) (fun c4 => ⟨(), ?_, trivial⟩))))
  all_goals
    clear hn d1 d2 d3 d4 h1 h2 h4 r1 r2 r3 r4 r5 r6 r7 r8
    simp only [beq_iff_eq, beq_eq_false_iff_ne, ne_eq, bne_iff_ne, bne_eq_false_iff_eq, Bool.not_eq_true', Bool.not_eq_false', decide_eq_true_eq, decide_eq_false_iff_not, Decidable.not_not] at *
    refine congrArg sb ?_
    simp [nwW, NewW.ws, nwO, oWords, sepL, sepW, oLeast, oTime, oLabel, pBUY, pSELL, pAT, pID, pLEAST, pNOW, pWHOLE, pLABEL, *]
theorem prnt_ok : prntC.ok Tryz.prog 26 := byprnt (gokc name_ok (gokc digs_ok gok0)) vprnt

theorem beqSb (a b : List UInt8) : (sb a == sb b) = decide (a = b) := by
  have e : (sb a == sb b) = (a.toArray == b.toArray) := rfl
  rw [e]
  by_cases h : a = b
  · subst h; simp
  · rw [decide_eq_false h]
    simpa using h
theorem cmd_ne (a b : Cmd) : (!(a.kind == b.kind && (a.id == b.id && (a.inst == b.inst && (a.side == b.side && (a.price == b.price && (a.qty == b.qty && (a.least == b.least && (a.time == b.time && (sb a.label == sb b.label && true)))))))))) = !decide (a = b) := by
  rw [beqSb]
  by_cases h : a = b
  · subst h; simp
  · rw [decide_eq_false h]
    cases hb : (a.kind == b.kind && (a.id == b.id && (a.inst == b.inst && (a.side == b.side && (a.price == b.price && (a.qty == b.qty && (a.least == b.least && (a.time == b.time && (decide (a.label = b.label) && true))))))))) with
    | false => rfl
    | true =>
      exfalso
      simp only [Bool.and_eq_true, beq_iff_eq, decide_eq_true_eq] at hb
      obtain ⟨q1, q2, q3, q4, q5, q6, q7, q8, q9, _⟩ := hb
      apply h
      cases a; cases b
      simp only [Cmd.mk.injEq]
      exact ⟨q1, q2, q3, q4, q5, q6, q7, q8, q9⟩
theorem line_len (p : Prd) (c : Cmd) : (lineF p c).length ≤ 2 * p.code.length + c.label.length + 400 := by
  have hn := name_len p c.inst
  have d1 := digF_26 c.qty
  have d2 := digF_26 c.price
  have d3 := digF_26 c.id
  have d4 := digF_26 c.least
  unfold lineF lineW
  split
  · unfold nwO nwW
    by_cases a : c.least = 0 <;> by_cases b : c.time = 2 <;> by_cases b2 : c.time = 3 <;> by_cases d : c.label = [] <;> by_cases e : c.side = 2 <;> simp [NewW.ws, oWords, sepL, sepW, oLeast, oTime, oLabel, pBUY, pSELL, pAT, pID, pLEAST, pNOW, pWHOLE, pLABEL, a, b, b2, d, e] <;> omega
  split
  · simp [sepL, sepW, pCANCEL]; omega
  split
  · simp [sepL, sepW, pCUT]; omega
  · simp [sepL, sepW, pCHANGE]; omega

set_option maxHeartbeats 4000000 in
theorem vprint (i : PcI) (h : printC.cnd i) : Vprint i := by
  obtain ⟨h1, h2, h3, h4⟩ : i.p.small ∧ i.p.code.length ≤ 1000 ∧ i.c.raw ∧ i.c.label.length ≤ 1000 := h
  have h3' := h3
  obtain ⟨r1, r2, r3, r4, r5, r6, r7, r8⟩ := h3
  have d1 := digF_26 i.c.qty
  have d2 := digF_26 i.c.price
  have d3 := digF_26 i.c.id
  have hl := line_len i.p i.c
  have hL : (lineF i.p i.c).length ≤ 1048576 := by omega
  have hp : printF i.p i.c = if i.c.right ≠ 0 then [] else if (parseF i.p (lineF i.p i.c)).2.1 ≠ 0 ∨ (parseF i.p (lineF i.p i.c)).1 ≠ i.c.ask then [] else lineF i.p i.c := rfl
  unfold Vprint
  simp only [bCANCEL, bCUT, bCHANGE, b32, sb_nil', ← sb_app, sb_size, i64max, List.length_append, List.length_cons, List.length_nil, cmd_ne]
  generalize printF i.p i.c = F at hp ⊢
  refine ⟨i.c, rfl, rfl, rfl, rfl, rfl, rfl, rfl, rfl, rfl, by omega, fun _ _ => Cv.cnd.mk (fun c => ⟨(), ?_, trivial⟩) fun c => ?_⟩
  · have c : i.c.right ≠ 0 := by simpa using c
    rw [hp, if_pos c]
  have c : ¬ i.c.right ≠ 0 := by simpa using c
  rw [if_neg c] at hp
  refine Cv.cnd.mk (fun k => ?_) fun k => Cv.cnd.mk (fun k2 => ?_) fun k2 => Cv.cnd.mk (fun k3 => ?_) fun k3 => ?_
  all_goals simp only [beq_iff_eq, beq_eq_false_iff_ne, ne_eq] at k
  · have e : lineF i.p i.c = sepL ((nwW i.p i.c).ws ++ oWords (nwO i.c)) := by rw [lineF, lineW, if_pos k]
    refine ⟨i, rfl, rfl, rfl, rfl, rfl, rfl, rfl, rfl, rfl, rfl, rfl, rfl, rfl, rfl, rfl, rfl, rfl, rfl, rfl, rfl, ⟨h1, h2, h3', h4⟩, fun _ _ => ?_⟩
    rw [← e]
    generalize lineF i.p i.c = L at hp hL ⊢
    clear e hl d1 d2 d3
    refine ⟨⟨i.p, L⟩, rfl, rfl, rfl, rfl, rfl, rfl, rfl, rfl, rfl, rfl, rfl, rfl, ⟨h1, hL⟩, fun _ _ => ?_⟩
    dsimp only
    generalize parseF i.p L = R at hp ⊢
    refine Cv.cnd.mk (fun d => ⟨(), ?_, trivial⟩) fun d => ⟨i.c, rfl, rfl, rfl, rfl, rfl, rfl, rfl, rfl, rfl, trivial, fun _ _ => ⟨by (repeat' (first | exact rfl | exact trivial | assumption | apply And.intro | (refine fun (_ : Unit) (_ : True) => ?_) | (refine Exists.intro () ?_) | omega | (dsimp only; omega))), Cv.cnd.mk (fun f => ⟨(), ?_, trivial⟩) fun f => ⟨(), ?_, trivial⟩⟩⟩
    · rw [hp, if_pos (.inl (by simpa using d))]
    · rw [hp, if_pos (.inr (by simpa using f))]
    · rw [hp, if_neg]
      rintro (g | g)
      · exact g (by simpa using d)
      · exact g (by simpa using f)
  · simp only [beq_iff_eq, beq_eq_false_iff_ne, ne_eq] at k2
    have e : lineF i.p i.c = [99, 97, 110, 99, 101, 108, 32] ++ digF i.c.id := by
      rw [lineF, lineW, if_neg k, if_pos k2]; simp [sepL, sepW, pCANCEL]
    refine ⟨i.c.id, rfl, r2, fun _ _ => ⟨by omega, ?_⟩⟩
    rw [← e]
    generalize lineF i.p i.c = L at hp hL ⊢
    clear e hl d1 d2 d3
    refine ⟨⟨i.p, L⟩, rfl, rfl, rfl, rfl, rfl, rfl, rfl, rfl, rfl, rfl, rfl, rfl, ⟨h1, hL⟩, fun _ _ => ?_⟩
    dsimp only
    generalize parseF i.p L = R at hp ⊢
    refine Cv.cnd.mk (fun d => ⟨(), ?_, trivial⟩) fun d => ⟨i.c, rfl, rfl, rfl, rfl, rfl, rfl, rfl, rfl, rfl, trivial, fun _ _ => ⟨by (repeat' (first | exact rfl | exact trivial | assumption | apply And.intro | (refine fun (_ : Unit) (_ : True) => ?_) | (refine Exists.intro () ?_) | omega | (dsimp only; omega))), Cv.cnd.mk (fun f => ⟨(), ?_, trivial⟩) fun f => ⟨(), ?_, trivial⟩⟩⟩
    · rw [hp, if_pos (.inl (by simpa using d))]
    · rw [hp, if_pos (.inr (by simpa using f))]
    · rw [hp, if_neg]
      rintro (g | g)
      · exact g (by simpa using d)
      · exact g (by simpa using f)
  · simp only [beq_iff_eq, beq_eq_false_iff_ne, ne_eq] at k2 k3
    have e : lineF i.p i.c = [99, 117, 116, 32] ++ digF i.c.id ++ [32] ++ digF i.c.qty := by
      rw [lineF, lineW, if_neg k, if_neg k2, if_pos k3]; simp [sepL, sepW, pCUT]
    refine ⟨i.c.id, rfl, r2, fun _ _ => ⟨by (first | exact rfl | exact trivial), by omega, by omega, i.c.qty, rfl, r6, fun _ _ => ⟨by (first | omega | (dsimp only; omega)), ?_⟩⟩⟩
    rw [← e]
    generalize lineF i.p i.c = L at hp hL ⊢
    clear e hl d1 d2 d3
    refine ⟨⟨i.p, L⟩, rfl, rfl, rfl, rfl, rfl, rfl, rfl, rfl, rfl, rfl, rfl, rfl, ⟨h1, hL⟩, fun _ _ => ?_⟩
    dsimp only
    generalize parseF i.p L = R at hp ⊢
    refine Cv.cnd.mk (fun d => ⟨(), ?_, trivial⟩) fun d => ⟨i.c, rfl, rfl, rfl, rfl, rfl, rfl, rfl, rfl, rfl, trivial, fun _ _ => ⟨by (repeat' (first | exact rfl | exact trivial | assumption | apply And.intro | (refine fun (_ : Unit) (_ : True) => ?_) | (refine Exists.intro () ?_) | omega | (dsimp only; omega))), Cv.cnd.mk (fun f => ⟨(), ?_, trivial⟩) fun f => ⟨(), ?_, trivial⟩⟩⟩
    · rw [hp, if_pos (.inl (by simpa using d))]
    · rw [hp, if_pos (.inr (by simpa using f))]
    · rw [hp, if_neg]
      rintro (g | g)
      · exact g (by simpa using d)
      · exact g (by simpa using f)
  · simp only [beq_iff_eq, beq_eq_false_iff_ne, ne_eq] at k2 k3
    have e : lineF i.p i.c = [99, 104, 97, 110, 103, 101, 32] ++ digF i.c.id ++ [32] ++ digF i.c.price ++ [32] ++ digF i.c.qty := by
      rw [lineF, lineW, if_neg k, if_neg k2, if_neg k3]; simp [sepL, sepW, pCHANGE]
    refine ⟨i.c.id, rfl, r2, fun _ _ => ⟨by (first | exact rfl | exact trivial), by (first | exact rfl | exact trivial), by omega, by omega, i.c.price, rfl, r5, fun _ _ => ⟨by (first | exact rfl | exact trivial), by (first | omega | (dsimp only; omega)), by (first | omega | (dsimp only; omega)), i.c.qty, rfl, r6, fun _ _ => ⟨by (first | omega | (dsimp only; omega)), ?_⟩⟩⟩⟩
    rw [← e]
    generalize lineF i.p i.c = L at hp hL ⊢
    clear e hl d1 d2 d3
    refine ⟨⟨i.p, L⟩, rfl, rfl, rfl, rfl, rfl, rfl, rfl, rfl, rfl, rfl, rfl, rfl, ⟨h1, hL⟩, fun _ _ => ?_⟩
    dsimp only
    generalize parseF i.p L = R at hp ⊢
    refine Cv.cnd.mk (fun d => ⟨(), ?_, trivial⟩) fun d => ⟨i.c, rfl, rfl, rfl, rfl, rfl, rfl, rfl, rfl, rfl, trivial, fun _ _ => ⟨by (repeat' (first | exact rfl | exact trivial | assumption | apply And.intro | (refine fun (_ : Unit) (_ : True) => ?_) | (refine Exists.intro () ?_) | omega | (dsimp only; omega))), Cv.cnd.mk (fun f => ⟨(), ?_, trivial⟩) fun f => ⟨(), ?_, trivial⟩⟩⟩
    · rw [hp, if_pos (.inl (by simpa using d))]
    · rw [hp, if_pos (.inr (by simpa using f))]
    · rw [hp, if_neg]
      rintro (g | g)
      · exact g (by simpa using d)
      · exact g (by simpa using f)
theorem print_okC : printC.ok Tryz.prog 9 := byprint (gokc right_ok (gokc prnt_ok (gokc digs_ok (gokc parse_ok (gokc ask_ok gok0))))) vprint

end Sx

namespace Sx
set_option linter.unusedVariables false
set_option maxRecDepth 100000
open Go Cv Go.Proofs

structure SmI where
  a : List Int
  b : List Int
def same1C : Con := con1 SmI (fun i => [iV i.a, iV i.b]) (fun _ => []) (fun i => i.a.length ≤ 140737488355328 ∧ i.b.length ≤ 140737488355328) (fun i => boolV (decide (i.a = i.b))) (fun _ => [])
def same1A : List SAnn := [{ ι := Nat, slots := fun k => [(5, i64V k)], rows := fun _ => [] }]
def lab2A (s : List UInt8) : List SAnn := [{ ι := Nat × Nat, slots := fun x => [(3, i64V x.2), (7, .nm 0 0)], rows := fun x => [.iter (sb s) x.1] }]
def cnt2A (s : List UInt8) : List SAnn := [{ ι := Nat × Nat, slots := fun x => [(3, i64V x.2), (5, .nm 0 0)], rows := fun x => [.iter (sb s) x.1] }]
structure FdS where
  p : Nat
  out : List UInt8
  from_ : Nat
def fold2A (s : List UInt8) : List SAnn := [{ ι := FdS, slots := fun x => [(3, sV x.out), (4, i64V x.from_), (8, .nm 0 0)], rows := fun x => [.iter (sb s) x.p] }]
def uj : SAnn := { ι := Unit, slots := fun _ => [], rows := fun _ => [] }
def right6J : List (Nat × SAnn) := [(22, uj), (42, uj), (50, uj), (70, uj)]
def find5A : List SAnn := [{ ι := Nat, slots := fun m => [(6, i64V m)], rows := fun _ => [] }]
structure WS2 where
  p : Nat
  words : List (List UInt8)
  at_ : List Int
  n : Nat
  from_ : Int
  start : Int
def words2A (s : List UInt8) : List SAnn := [{ ι := WS2, slots := fun x => [(4, .own 1), (5, .own 2), (6, i64V x.n), (7, i64V x.from_), (8, i64V x.start), (12, .nm 0 0)], rows := fun x => [.iter (sb s) x.p, .own 9 1 (tE x.words), .own 3 1 (iE x.at_)] }]
def num2A : List SAnn := [{ ι := Int × Nat, slots := fun x => [(5, i64V x.1), (6, i64V x.2)], rows := fun _ => [] }]
def num2J : List (Nat × SAnn) := [(10, tj 4)]

/-! ### The document's line -/
@[reducible] def tL : Nat := 65
def LinU (r : Rdr) : Nat → AObj
  | 0 => .cells [.own 1, .own 2, i64V r.k, i64V r.end_, i64V r.why, i64V r.place] tL
  | 1 => .fro 1 (tE r.words)
  | 2 => .fro 1 (iE r.at_)
  | _ => .gone
@[reducible] def linRows (r : Rdr) : List AObj := [LinU r 0, LinU r 1, LinU r 2]
def Rdr.hereL (r : Rdr) : Int := if r.more = true then r.at_.getD r.k 0 else 0
def lrefC : Con := con1 RfI (fun i => [.nm 0 0, i64V i.why, i64V i.place]) (fun i => linRows (i.r)) (fun i => True) (fun _ => unitV) (fun i => linRows ((i.r.fail i.why i.place)))
def lnextC : Con := con1 Rdr (fun i => [.nm 0 0]) (fun i => linRows (i)) (fun i => i.ok) (fun i => .tup [sV i.word, i64V i.hereL]) (fun i => linRows (i.next))
def lnumC : Con := con1 Rdr (fun i => [.nm 0 0]) (fun i => linRows (i)) (fun i => i.ok) (fun i => i64V i.num) (fun i => linRows (i.numR))
def lwordC : Con := con1 RmI (fun i => [.nm 0 0, sV i.w]) (fun i => linRows (i.r)) (fun i => i.r.ok) (fun _ => unitV) (fun i => linRows ((i.r.must i.w)))

end Sx

namespace Sx
set_option linter.unusedVariables false
set_option maxRecDepth 100000
open Go Cv Go.Proofs
def Vsame1 (i : SmI) : Prop :=
  cnd ((↑(iE i.a).length : Int) != (↑(iE i.b).length : Int)) (∃ (o : Unit), decide (i.a = i.b) = false ∧ True) (∃ (i0 : Nat), (↑i0 : Int) = (0 : Int) ∧ ∃ (I : Nat → Prop), ∃ (μ : Nat → Nat), I i0 ∧ ∀ (i_1 : Nat), I i_1 → cnd (decide ((↑i_1 : Int) < (↑(iE i.a).length : Int))) (((0 : Int) ≤ (↑i_1 : Int) ∧ (↑i_1 : Int) < (↑(iE i.a).length : Int)) ∧ ∃ (n : Int), elPart (iE i.a) (↑i_1 : Int).toNat (0 : Nat) (1 : Nat) = some [D.v (.int .i64 n)] ∧ ((0 : Int) ≤ (↑i_1 : Int) ∧ (↑i_1 : Int) < (↑(iE i.b).length : Int)) ∧ ∃ (n_1 : Int), elPart (iE i.b) (↑i_1 : Int).toNat (0 : Nat) (1 : Nat) = some [D.v (.int .i64 n_1)] ∧ cnd (n != n_1) (∃ (o : Unit), decide (i.a = i.b) = false ∧ True) (∃ (i' : Nat), (↑i' : Int) = IntKind.i64.wrap ((↑i_1 : Int) + (1 : Int)) ∧ I i' ∧ μ i' < μ i_1 ∧ True)) (∃ (o : Unit), decide (i.a = i.b) = true ∧ True))
theorem eqsame1 (i : SmI) : Vsame1 i = walk Tryz.prog ([]) 0 ([]) (same1A) [] Tryz.f22 (Tryz.f22.body.getD .skip) (same1C.pat i) (same1C.pre i) (same1C.alts i) := by kernel_rfl

theorem bysame1 (hG : GOk Tryz.prog ([])) (h : ∀ (i : SmI), same1C.cnd i → Vsame1 i) : same1C.ok Tryz.prog 22 := ok_of_walk mixed ([]) hG 0 (fun (i : SmI) => []) (fun (i : SmI) => same1A) [] Tryz.func22 (by kernel_rfl) (by kernel_rfl) (by kernel_rfl) (fun _ => by kernel_rfl) (fun (i : SmI) hc => Eq.mp (eqsame1 i) (h i hc))

def Vlab2 (s : List UInt8) : Prop :=
  ∃ (i0 : Nat × Nat), (↑i0.snd : Int) = (0 : Int) ∧ sb s = sb s ∧ i0.fst = (0 : Nat) ∧ ∃ (I : Nat × Nat → Prop), ∃ (μ : Nat × Nat → Nat), I i0 ∧ ∀ (i : Nat × Nat), I i → cnd (i.fst.blt (sb s).size) (cnd (decide ((↑(Utf8.decode (sb s) i.fst).fst : Int) < (32 : Int))) (∃ (o : Unit), labOk s = false ∧ True) (cnd ((↑(Utf8.decode (sb s) i.fst).fst : Int) == (127 : Int)) (∃ (o : Unit), labOk s = false ∧ True) (cnd ((↑(Utf8.decode (sb s) i.fst).fst : Int) == (65533 : Int)) (∃ (o : Unit), labOk s = false ∧ True) (∃ (i' : Nat × Nat), (↑i'.snd : Int) = IntKind.i64.wrap ((↑i.snd : Int) + (1 : Int)) ∧ sb s = sb s ∧ i'.fst = i.fst + (Utf8.decode (sb s) i.fst).snd ∧ I i' ∧ μ i' < μ i ∧ True)))) (cnd (decide ((↑i.snd : Int) ≥ (1 : Int))) (∃ (o : Unit), labOk s = decide ((↑i.snd : Int) ≤ (12 : Int)) ∧ True) (∃ (o : Unit), labOk s = false ∧ True))
theorem eqlab2 (s : List UInt8) : Vlab2 s = walk Tryz.prog ([]) 1 ([]) (lab2A s) [] Tryz.f31 (Tryz.f31.body.getD .skip) (labC.pat s) (labC.pre s) (labC.alts s) := by kernel_rfl

theorem bylab2 (hG : GOk Tryz.prog ([])) (h : ∀ (s : List UInt8), labC.cnd s → Vlab2 s) : labC.ok Tryz.prog 31 := ok_of_walk mixed ([]) hG 1 (fun (s : List UInt8) => []) (fun (s : List UInt8) => lab2A s) [] Tryz.func31 (by kernel_rfl) (by kernel_rfl) (by kernel_rfl) (fun _ => by kernel_rfl) (fun (s : List UInt8) hc => Eq.mp (eqlab2 s) (h s hc))

def Vcnt2 (s : List UInt8) : Prop :=
  ∃ (i0 : Nat × Nat), (↑i0.snd : Int) = (0 : Int) ∧ sb s = sb s ∧ i0.fst = (0 : Nat) ∧ ∃ (I : Nat × Nat → Prop), ∃ (μ : Nat × Nat → Nat), I i0 ∧ ∀ (i : Nat × Nat), I i → cnd (i.fst.blt (sb s).size) (∃ (i' : Nat × Nat), (↑i'.snd : Int) = IntKind.i64.wrap ((↑i.snd : Int) + (1 : Int)) ∧ sb s = sb s ∧ i'.fst = i.fst + (Utf8.decode (sb s) i.fst).snd ∧ I i' ∧ μ i' < μ i ∧ True) (∃ (o : Unit), (↑(runes s).length : Int) = (↑i.snd : Int) ∧ True)
theorem eqcnt2 (s : List UInt8) : Vcnt2 s = walk Tryz.prog ([]) 0 ([]) (cnt2A s) [] Tryz.f34 (Tryz.f34.body.getD .skip) (endC27.pat s) (endC27.pre s) (endC27.alts s) := by kernel_rfl

theorem bycnt2 (hG : GOk Tryz.prog ([])) (h : ∀ (s : List UInt8), endC27.cnd s → Vcnt2 s) : endC27.ok Tryz.prog 34 := ok_of_walk mixed ([]) hG 0 (fun (s : List UInt8) => []) (fun (s : List UInt8) => cnt2A s) [] Tryz.func34 (by kernel_rfl) (by kernel_rfl) (by kernel_rfl) (fun _ => by kernel_rfl) (fun (s : List UInt8) hc => Eq.mp (eqcnt2 s) (h s hc))

def Vfold2 (s : List UInt8) : Prop :=
  ∃ (i0 : FdS), sb i0.out = ByteArray.mk #[] ∧ (↑i0.from_ : Int) = (0 : Int) ∧ sb s = sb s ∧ i0.p = (0 : Nat) ∧ ∃ (I : FdS → Prop), ∃ (μ : FdS → Nat), I i0 ∧ ∀ (i : FdS), I i → cnd (i.p.blt (sb s).size) (cnd (decide ((↑(Utf8.decode (sb s) i.p).fst : Int) ≥ (97 : Int))) (cnd (decide ((↑(Utf8.decode (sb s) i.p).fst : Int) ≤ (122 : Int))) (((0 : Int) ≤ (↑i.from_ : Int) ∧ (↑i.from_ : Int) ≤ (↑i.p : Int) ∧ (↑i.p : Int) ≤ (↑(sb s).size : Int)) ∧ (↑((sb i.out).size + ((sb s).extract (↑i.from_ : Int).toNat (↑i.p : Int).toNat).size) : Int) ≤ IntKind.i64.max ∧ (↑((sb i.out ++ (sb s).extract (↑i.from_ : Int).toNat (↑i.p : Int).toNat).size + (Utf8.encode (IntKind.i32.wrap ((↑(Utf8.decode (sb s) i.p).fst : Int) - (32 : Int)))).size) : Int) ≤ IntKind.i64.max ∧ ∃ (i' : FdS), sb i'.out = sb i.out ++ (sb s).extract (↑i.from_ : Int).toNat (↑i.p : Int).toNat ++ Utf8.encode (IntKind.i32.wrap ((↑(Utf8.decode (sb s) i.p).fst : Int) - (32 : Int))) ∧ (↑i'.from_ : Int) = IntKind.i64.wrap ((↑i.p : Int) + (↑(Utf8.encode (↑(Utf8.decode (sb s) i.p).fst : Int)).size : Int)) ∧ sb s = sb s ∧ i'.p = i.p + (Utf8.decode (sb s) i.p).snd ∧ I i' ∧ μ i' < μ i ∧ True) (cnd (decide ((↑(Utf8.decode (sb s) i.p).fst : Int) ≥ (945 : Int))) (cnd (decide ((↑(Utf8.decode (sb s) i.p).fst : Int) ≤ (969 : Int))) (cnd ((↑(Utf8.decode (sb s) i.p).fst : Int) != (962 : Int)) (((0 : Int) ≤ (↑i.from_ : Int) ∧ (↑i.from_ : Int) ≤ (↑i.p : Int) ∧ (↑i.p : Int) ≤ (↑(sb s).size : Int)) ∧ (↑((sb i.out).size + ((sb s).extract (↑i.from_ : Int).toNat (↑i.p : Int).toNat).size) : Int) ≤ IntKind.i64.max ∧ (↑((sb i.out ++ (sb s).extract (↑i.from_ : Int).toNat (↑i.p : Int).toNat).size + (Utf8.encode (IntKind.i32.wrap ((↑(Utf8.decode (sb s) i.p).fst : Int) - (32 : Int)))).size) : Int) ≤ IntKind.i64.max ∧ ∃ (i' : FdS), sb i'.out = sb i.out ++ (sb s).extract (↑i.from_ : Int).toNat (↑i.p : Int).toNat ++ Utf8.encode (IntKind.i32.wrap ((↑(Utf8.decode (sb s) i.p).fst : Int) - (32 : Int))) ∧ (↑i'.from_ : Int) = IntKind.i64.wrap ((↑i.p : Int) + (↑(Utf8.encode (↑(Utf8.decode (sb s) i.p).fst : Int)).size : Int)) ∧ sb s = sb s ∧ i'.p = i.p + (Utf8.decode (sb s) i.p).snd ∧ I i' ∧ μ i' < μ i ∧ True) (∃ (i' : FdS), sb i'.out = sb i.out ∧ (↑i'.from_ : Int) = (↑i.from_ : Int) ∧ sb s = sb s ∧ i'.p = i.p + (Utf8.decode (sb s) i.p).snd ∧ I i' ∧ μ i' < μ i ∧ True)) (∃ (i' : FdS), sb i'.out = sb i.out ∧ (↑i'.from_ : Int) = (↑i.from_ : Int) ∧ sb s = sb s ∧ i'.p = i.p + (Utf8.decode (sb s) i.p).snd ∧ I i' ∧ μ i' < μ i ∧ True)) (∃ (i' : FdS), sb i'.out = sb i.out ∧ (↑i'.from_ : Int) = (↑i.from_ : Int) ∧ sb s = sb s ∧ i'.p = i.p + (Utf8.decode (sb s) i.p).snd ∧ I i' ∧ μ i' < μ i ∧ True))) (cnd (decide ((↑(Utf8.decode (sb s) i.p).fst : Int) ≥ (945 : Int))) (cnd (decide ((↑(Utf8.decode (sb s) i.p).fst : Int) ≤ (969 : Int))) (cnd ((↑(Utf8.decode (sb s) i.p).fst : Int) != (962 : Int)) (((0 : Int) ≤ (↑i.from_ : Int) ∧ (↑i.from_ : Int) ≤ (↑i.p : Int) ∧ (↑i.p : Int) ≤ (↑(sb s).size : Int)) ∧ (↑((sb i.out).size + ((sb s).extract (↑i.from_ : Int).toNat (↑i.p : Int).toNat).size) : Int) ≤ IntKind.i64.max ∧ (↑((sb i.out ++ (sb s).extract (↑i.from_ : Int).toNat (↑i.p : Int).toNat).size + (Utf8.encode (IntKind.i32.wrap ((↑(Utf8.decode (sb s) i.p).fst : Int) - (32 : Int)))).size) : Int) ≤ IntKind.i64.max ∧ ∃ (i' : FdS), sb i'.out = sb i.out ++ (sb s).extract (↑i.from_ : Int).toNat (↑i.p : Int).toNat ++ Utf8.encode (IntKind.i32.wrap ((↑(Utf8.decode (sb s) i.p).fst : Int) - (32 : Int))) ∧ (↑i'.from_ : Int) = IntKind.i64.wrap ((↑i.p : Int) + (↑(Utf8.encode (↑(Utf8.decode (sb s) i.p).fst : Int)).size : Int)) ∧ sb s = sb s ∧ i'.p = i.p + (Utf8.decode (sb s) i.p).snd ∧ I i' ∧ μ i' < μ i ∧ True) (∃ (i' : FdS), sb i'.out = sb i.out ∧ (↑i'.from_ : Int) = (↑i.from_ : Int) ∧ sb s = sb s ∧ i'.p = i.p + (Utf8.decode (sb s) i.p).snd ∧ I i' ∧ μ i' < μ i ∧ True)) (∃ (i' : FdS), sb i'.out = sb i.out ∧ (↑i'.from_ : Int) = (↑i.from_ : Int) ∧ sb s = sb s ∧ i'.p = i.p + (Utf8.decode (sb s) i.p).snd ∧ I i' ∧ μ i' < μ i ∧ True)) (∃ (i' : FdS), sb i'.out = sb i.out ∧ (↑i'.from_ : Int) = (↑i.from_ : Int) ∧ sb s = sb s ∧ i'.p = i.p + (Utf8.decode (sb s) i.p).snd ∧ I i' ∧ μ i' < μ i ∧ True))) (((0 : Int) ≤ (↑i.from_ : Int) ∧ (↑i.from_ : Int) ≤ (↑(sb s).size : Int)) ∧ (↑((sb i.out).size + ((sb s).extract (↑i.from_ : Int).toNat (sb s).size).size) : Int) ≤ IntKind.i64.max ∧ ∃ (o : Unit), sb (foldF s) = sb i.out ++ (sb s).extract (↑i.from_ : Int).toNat (sb s).size ∧ True)
theorem eqfold2 (s : List UInt8) : Vfold2 s = walk Tryz.prog ([]) 0 ([]) (fold2A s) [] Tryz.f35 (Tryz.f35.body.getD .skip) (foldC.pat s) (foldC.pre s) (foldC.alts s) := by kernel_rfl

theorem byfold2 (hG : GOk Tryz.prog ([])) (h : ∀ (s : List UInt8), foldC.cnd s → Vfold2 s) : foldC.ok Tryz.prog 35 := ok_of_walk mixed ([]) hG 0 (fun (s : List UInt8) => []) (fun (s : List UInt8) => fold2A s) [] Tryz.func35 (by kernel_rfl) (by kernel_rfl) (by kernel_rfl) (fun _ => by kernel_rfl) (fun (s : List UInt8) hc => Eq.mp (eqfold2 s) (h s hc))

def Vcode3 (i : CodI) : Prop :=
  ∃ (i_1 : List UInt8), sb i_1 = sb i.c ∧ i_1.length ≤ (140737488355328 : Nat) ∧ ∀ (o : Unit), True → cnd (!symOk i_1) (∃ (o : Unit), sb (codeF i.c i.m).fst = ByteArray.mk #[] ∧ (codeF i.c i.m).snd = (12 : Int) ∧ True) (cnd (decide (i.m < (0 : Int))) (∃ (o : Unit), sb (codeF i.c i.m).fst = ByteArray.mk #[] ∧ (codeF i.c i.m).snd = (1 : Int) ∧ True) (cnd (decide (i.m > (1199 : Int))) (∃ (o : Unit), sb (codeF i.c i.m).fst = ByteArray.mk #[] ∧ (codeF i.c i.m).snd = (1 : Int) ∧ True) (IntKind.i64 = IntKind.i64 ∧ (12 : Int) ≠ (0 : Int) ∧ IntKind.i64 = IntKind.i64 ∧ (12 : Int) ≠ (0 : Int) ∧ ((0 : Int) ≤ i.m.tmod (12 : Int) ∧ i.m.tmod (12 : Int) ≤ IntKind.i64.wrap (i.m.tmod (12 : Int) + (1 : Int)) ∧ IntKind.i64.wrap (i.m.tmod (12 : Int) + (1 : Int)) ≤ (↑(ByteArray.mk #[(70 : UInt8), (71 : UInt8), (72 : UInt8), (74 : UInt8), (75 : UInt8), (77 : UInt8), (78 : UInt8), (81 : UInt8), (85 : UInt8), (86 : UInt8), (88 : UInt8), (90 : UInt8)]).size : Int)) ∧ (↑((sb i.c).size + ((ByteArray.mk #[(70 : UInt8), (71 : UInt8), (72 : UInt8), (74 : UInt8), (75 : UInt8), (77 : UInt8), (78 : UInt8), (81 : UInt8), (85 : UInt8), (86 : UInt8), (88 : UInt8), (90 : UInt8)]).extract (i.m.tmod (12 : Int)).toNat (IntKind.i64.wrap (i.m.tmod (12 : Int) + (1 : Int))).toNat).size) : Int) ≤ IntKind.i64.max ∧ IntKind.i64 = IntKind.i64 ∧ (10 : Int) ≠ (0 : Int) ∧ (↑((sb i.c ++ (ByteArray.mk #[(70 : UInt8), (71 : UInt8), (72 : UInt8), (74 : UInt8), (75 : UInt8), (77 : UInt8), (78 : UInt8), (81 : UInt8), (85 : UInt8), (86 : UInt8), (88 : UInt8), (90 : UInt8)]).extract (i.m.tmod (12 : Int)).toNat (IntKind.i64.wrap (i.m.tmod (12 : Int) + (1 : Int))).toNat).size + (Utf8.encode (IntKind.i32.wrap (IntKind.i64.wrap ((48 : Int) + IntKind.i64.wrap ((IntKind.i64.wrap (i.m.tdiv (12 : Int))).tdiv (10 : Int)))))).size) : Int) ≤ IntKind.i64.max ∧ IntKind.i64 = IntKind.i64 ∧ (10 : Int) ≠ (0 : Int) ∧ (↑((sb i.c ++ (ByteArray.mk #[(70 : UInt8), (71 : UInt8), (72 : UInt8), (74 : UInt8), (75 : UInt8), (77 : UInt8), (78 : UInt8), (81 : UInt8), (85 : UInt8), (86 : UInt8), (88 : UInt8), (90 : UInt8)]).extract (i.m.tmod (12 : Int)).toNat (IntKind.i64.wrap (i.m.tmod (12 : Int) + (1 : Int))).toNat ++ Utf8.encode (IntKind.i32.wrap (IntKind.i64.wrap ((48 : Int) + IntKind.i64.wrap ((IntKind.i64.wrap (i.m.tdiv (12 : Int))).tdiv (10 : Int)))))).size + (Utf8.encode (IntKind.i32.wrap (IntKind.i64.wrap ((48 : Int) + (IntKind.i64.wrap (i.m.tdiv (12 : Int))).tmod (10 : Int))))).size) : Int) ≤ IntKind.i64.max ∧ ∃ (o : Unit), sb (codeF i.c i.m).fst = sb i.c ++ (ByteArray.mk #[(70 : UInt8), (71 : UInt8), (72 : UInt8), (74 : UInt8), (75 : UInt8), (77 : UInt8), (78 : UInt8), (81 : UInt8), (85 : UInt8), (86 : UInt8), (88 : UInt8), (90 : UInt8)]).extract (i.m.tmod (12 : Int)).toNat (IntKind.i64.wrap (i.m.tmod (12 : Int) + (1 : Int))).toNat ++ Utf8.encode (IntKind.i32.wrap (IntKind.i64.wrap ((48 : Int) + IntKind.i64.wrap ((IntKind.i64.wrap (i.m.tdiv (12 : Int))).tdiv (10 : Int))))) ++ Utf8.encode (IntKind.i32.wrap (IntKind.i64.wrap ((48 : Int) + (IntKind.i64.wrap (i.m.tdiv (12 : Int))).tmod (10 : Int)))) ∧ (codeF i.c i.m).snd = (0 : Int) ∧ True)))
theorem eqcode3 (i : CodI) : Vcode3 i = walk Tryz.prog ([(51, r3prodC)]) 0 ([]) ([]) [] Tryz.f32 (Tryz.f32.body.getD .skip) (codeC.pat i) (codeC.pre i) (codeC.alts i) := by kernel_rfl

theorem bycode3 (hG : GOk Tryz.prog ([(51, r3prodC)])) (h : ∀ (i : CodI), codeC.cnd i → Vcode3 i) : codeC.ok Tryz.prog 32 := ok_of_walk mixed ([(51, r3prodC)]) hG 0 (fun (i : CodI) => []) (fun (i : CodI) => []) [] Tryz.func32 (by kernel_rfl) (by kernel_rfl) (by kernel_rfl) (fun _ => by kernel_rfl) (fun (i : CodI) hc => Eq.mp (eqcode3 i) (h i hc))

def Vspr3 (i : SpdI) : Prop :=
  ∃ (i_1 : CodI), sb i_1.c = sb i.c ∧ i_1.m = i.a ∧ i_1.c.length ≤ (140737488355328 : Nat) ∧ ∀ (o : Unit), True → cnd ((codeF i_1.c i_1.m).snd != (0 : Int)) (∃ (o : Unit), sb (sprF i.c i.a i.b).fst = ByteArray.mk #[] ∧ (sprF i.c i.a i.b).snd = (codeF i_1.c i_1.m).snd ∧ True) (∃ (i_2 : CodI), sb i_2.c = sb i.c ∧ i_2.m = i.b ∧ i_2.c.length ≤ (140737488355328 : Nat) ∧ ∀ (o : Unit), True → cnd ((codeF i_2.c i_2.m).snd != (0 : Int)) (∃ (o : Unit), sb (sprF i.c i.a i.b).fst = ByteArray.mk #[] ∧ (sprF i.c i.a i.b).snd = (codeF i_2.c i_2.m).snd ∧ True) (cnd (decide (i.a ≥ i.b)) (∃ (o : Unit), sb (sprF i.c i.a i.b).fst = ByteArray.mk #[] ∧ (sprF i.c i.a i.b).snd = (1 : Int) ∧ True) ((↑((sb (codeF i_1.c i_1.m).fst).size + (ByteArray.mk #[(45 : UInt8)]).size) : Int) ≤ IntKind.i64.max ∧ (↑((sb (codeF i_1.c i_1.m).fst ++ ByteArray.mk #[(45 : UInt8)]).size + (sb (codeF i_2.c i_2.m).fst).size) : Int) ≤ IntKind.i64.max ∧ ∃ (o : Unit), sb (sprF i.c i.a i.b).fst = sb (codeF i_1.c i_1.m).fst ++ ByteArray.mk #[(45 : UInt8)] ++ sb (codeF i_2.c i_2.m).fst ∧ (sprF i.c i.a i.b).snd = (0 : Int) ∧ True)))
theorem eqspr3 (i : SpdI) : Vspr3 i = walk Tryz.prog ([(32, codeC)]) 0 ([]) ([]) [] Tryz.f33 (Tryz.f33.body.getD .skip) (sprC.pat i) (sprC.pre i) (sprC.alts i) := by kernel_rfl

theorem byspr3 (hG : GOk Tryz.prog ([(32, codeC)])) (h : ∀ (i : SpdI), sprC.cnd i → Vspr3 i) : sprC.ok Tryz.prog 33 := ok_of_walk mixed ([(32, codeC)]) hG 0 (fun (i : SpdI) => []) (fun (i : SpdI) => []) [] Tryz.func33 (by kernel_rfl) (by kernel_rfl) (by kernel_rfl) (fun _ => by kernel_rfl) (fun (i : SpdI) hc => Eq.mp (eqspr3 i) (h i hc))

def Vname5 (i : LegI) : Prop :=
  cnd (decide (i.n < (0 : Int))) (∃ (o : Unit), sb (i.p.name i.n) = ByteArray.mk #[] ∧ True) (∃ (i_1 : Prd), sb i_1.code = sb i.p.code ∧ iE i_1.months = iE i.p.months ∧ i_1.tick = i.p.tick ∧ i_1.low = i.p.low ∧ i_1.high = i.p.high ∧ i_1.wide = i.p.wide ∧ i_1.rule = i.p.rule ∧ i_1.top = i.p.top ∧ i_1.least = i.p.least ∧ i_1.part = i.p.part ∧ iE i_1.settle = iE i.p.settle ∧ (i_1.code.length ≤ (140737488355328 : Nat) ∧ i_1.months.length ≤ (140737488355328 : Nat) ∧ i_1.settle.length ≤ (140737488355328 : Nat)) ∧ ∀ (o : Unit), True → cnd (decide (i.n ≥ (↑i_1.count : Int))) (∃ (o : Unit), sb (i.p.name i.n) = ByteArray.mk #[] ∧ True) (∃ (i_2 : LegI), sb i_2.p.code = sb i.p.code ∧ iE i_2.p.months = iE i.p.months ∧ i_2.p.tick = i.p.tick ∧ i_2.p.low = i.p.low ∧ i_2.p.high = i.p.high ∧ i_2.p.wide = i.p.wide ∧ i_2.p.rule = i.p.rule ∧ i_2.p.top = i.p.top ∧ i_2.p.least = i.p.least ∧ i_2.p.part = i.p.part ∧ iE i_2.p.settle = iE i.p.settle ∧ i_2.n = i.n ∧ (i_2.p.code.length ≤ (140737488355328 : Nat) ∧ i_2.p.months.length ≤ (140737488355328 : Nat) ∧ i_2.p.settle.length ≤ (140737488355328 : Nat)) ∧ ∀ (o : Unit), True → ((0 : Int) ≤ (i_2.p.legs i_2.n).fst ∧ (i_2.p.legs i_2.n).fst < (↑(iE i.p.months).length : Int)) ∧ ∃ (n : Int), elPart (iE i.p.months) (i_2.p.legs i_2.n).fst.toNat (0 : Nat) (1 : Nat) = some [D.v (.int .i64 n)] ∧ ∃ (i_3 : CodI), sb i_3.c = sb i.p.code ∧ i_3.m = n ∧ i_3.c.length ≤ (140737488355328 : Nat) ∧ ∀ (o : Unit), True → cnd (i_2.p.legs i_2.n).snd.snd (((0 : Int) ≤ (i_2.p.legs i_2.n).fst ∧ (i_2.p.legs i_2.n).fst < (↑(iE i.p.months).length : Int)) ∧ ∃ (n : Int), elPart (iE i.p.months) (i_2.p.legs i_2.n).fst.toNat (0 : Nat) (1 : Nat) = some [D.v (.int .i64 n)] ∧ ((0 : Int) ≤ (i_2.p.legs i_2.n).snd.fst ∧ (i_2.p.legs i_2.n).snd.fst < (↑(iE i.p.months).length : Int)) ∧ ∃ (n_1 : Int), elPart (iE i.p.months) (i_2.p.legs i_2.n).snd.fst.toNat (0 : Nat) (1 : Nat) = some [D.v (.int .i64 n_1)] ∧ ∃ (i_4 : SpdI), sb i_4.c = sb i.p.code ∧ i_4.a = n ∧ i_4.b = n_1 ∧ i_4.c.length ≤ (140737488355328 : Nat) ∧ ∀ (o : Unit), True → ∃ (o : Unit), sb (i.p.name i.n) = sb (sprF i_4.c i_4.a i_4.b).fst ∧ True) (∃ (o : Unit), sb (i.p.name i.n) = sb (codeF i_3.c i_3.m).fst ∧ True)))
theorem eqname5 (i : LegI) : Vname5 i = walk Tryz.prog ([(12, r5countC), (13, r5legsC), (32, codeC), (33, sprC)]) 0 ([]) ([]) [] Tryz.f16 (Tryz.f16.body.getD .skip) (nameC.pat i) (nameC.pre i) (nameC.alts i) := by kernel_rfl

theorem byname5 (hG : GOk Tryz.prog ([(12, r5countC), (13, r5legsC), (32, codeC), (33, sprC)])) (h : ∀ (i : LegI), nameC.cnd i → Vname5 i) : nameC.ok Tryz.prog 16 := ok_of_walk mixed ([(12, r5countC), (13, r5legsC), (32, codeC), (33, sprC)]) hG 0 (fun (i : LegI) => []) (fun (i : LegI) => []) [] Tryz.func16 (by kernel_rfl) (by kernel_rfl) (by kernel_rfl) (fun _ => by kernel_rfl) (fun (i : LegI) hc => Eq.mp (eqname5 i) (h i hc))

@[reducible] def Vfind5r0 (i : FndI) : AObj := Sx.AObj.cells [V.d (D.v (Value.string (sb i.p.code))), V.own (0 : Nat), V.d (D.v (.int .i64 i.p.tick)), V.d (D.v (.int .i64 i.p.low)), V.d (D.v (.int .i64 i.p.high)), V.d (D.v (.int .i64 i.p.wide)), V.d (D.v (.int .i64 i.p.rule)), V.d (D.v (.int .i64 i.p.top)), V.d (D.v (.int .i64 i.p.least)), V.d (D.v (.int .i64 i.p.part)), V.own ((0 : Nat) + (1 : Nat))] (25 : Nat)
def Vfind5 (i : FndI) : Prop :=
  ∃ (i0 : Nat), (↑i0 : Int) = (0 : Int) ∧ ∃ (I : Nat → Prop), ∃ (μ : Nat → Nat), I i0 ∧ ∀ (i_1 : Nat), I i_1 → ∃ (i_2 : Prd), sb i_2.code = sb i.p.code ∧ iE i_2.months = iE i.p.months ∧ i_2.tick = i.p.tick ∧ i_2.low = i.p.low ∧ i_2.high = i.p.high ∧ i_2.wide = i.p.wide ∧ i_2.rule = i.p.rule ∧ i_2.top = i.p.top ∧ i_2.least = i.p.least ∧ i_2.part = i.p.part ∧ iE i_2.settle = iE i.p.settle ∧ (i_2.code.length ≤ (140737488355328 : Nat) ∧ i_2.months.length ≤ (140737488355328 : Nat) ∧ i_2.settle.length ≤ (140737488355328 : Nat)) ∧ ∀ (o : Unit), True → cnd (decide ((↑i_1 : Int) < (↑i_2.count : Int))) (∃ (i_3 : LegI), sb i_3.p.code = sb i.p.code ∧ iE i_3.p.months = iE i.p.months ∧ i_3.p.tick = i.p.tick ∧ i_3.p.low = i.p.low ∧ i_3.p.high = i.p.high ∧ i_3.p.wide = i.p.wide ∧ i_3.p.rule = i.p.rule ∧ i_3.p.top = i.p.top ∧ i_3.p.least = i.p.least ∧ i_3.p.part = i.p.part ∧ iE i_3.p.settle = iE i.p.settle ∧ i_3.n = (↑i_1 : Int) ∧ (i_3.p.code.length ≤ (140737488355328 : Nat) ∧ i_3.p.months.length ≤ (140737488355328 : Nat) ∧ i_3.p.settle.length ≤ (140737488355328 : Nat)) ∧ ∀ (o : Unit), True → cnd ((sb (i_3.p.name i_3.n)).toList == (sb i.s).toList) (∃ (o : Unit), (i.p.find i.s).fst = (↑i_1 : Int) ∧ (i.p.find i.s).snd = true ∧ True) (∃ (i' : Nat), (↑i' : Int) = IntKind.i64.wrap ((↑i_1 : Int) + (1 : Int)) ∧ I i' ∧ μ i' < μ i_1 ∧ Vfind5r0 i = Vfind5r0 i ∧ AObj.fro (1 : Nat) (iE i.p.settle) = AObj.fro (1 : Nat) (iE i.p.settle) ∧ AObj.fro (1 : Nat) (iE i.p.months) = AObj.fro (1 : Nat) (iE i.p.months))) (∃ (o : Unit), (i.p.find i.s).fst = (0 : Int) ∧ (i.p.find i.s).snd = false ∧ True)
theorem eqfind5 (i : FndI) : Vfind5 i = walk Tryz.prog ([(12, r5countC), (16, nameC)]) 0 ([]) (find5A) [] Tryz.f54 (Tryz.f54.body.getD .skip) (findC.pat i) (findC.pre i) (findC.alts i) := by kernel_rfl

theorem byfind5 (hG : GOk Tryz.prog ([(12, r5countC), (16, nameC)])) (h : ∀ (i : FndI), findC.cnd i → Vfind5 i) : findC.ok Tryz.prog 54 := ok_of_walk mixed ([(12, r5countC), (16, nameC)]) hG 0 (fun (i : FndI) => []) (fun (i : FndI) => find5A) [] Tryz.func54 (by kernel_rfl) (by kernel_rfl) (by kernel_rfl) (fun _ => by kernel_rfl) (fun (i : FndI) hc => Eq.mp (eqfind5 i) (h i hc))

@[reducible] def Vright6r0 (c : Cmd) : AObj := Sx.AObj.cells [V.d (D.v (.int .i64 c.kind)), V.d (D.v (.int .i64 c.id)), V.d (D.v (.int .i64 c.inst)), V.d (D.v (.int .i64 c.side)), V.d (D.v (.int .i64 c.price)), V.d (D.v (.int .i64 c.qty)), V.d (D.v (.int .i64 c.least)), V.d (D.v (.int .i64 c.time)), V.d (D.v (Value.string (sb c.label)))] (28 : Nat)
def Vright6 (c : Cmd) : Prop :=
  cnd (decide (c.kind < (1 : Int))) (∃ (o : Unit), c.right = (31 : Int) ∧ True) (cnd (decide (c.kind > (4 : Int))) (∃ (o : Unit), c.right = (31 : Int) ∧ True) (cnd (decide (c.id < (1 : Int))) (∃ (o : Unit), c.right = (1 : Int) ∧ True) (cnd (decide (c.id > (1099511627776 : Int))) (∃ (o : Unit), c.right = (1 : Int) ∧ True) (∃ (i0 : Unit), ∃ (I : Unit → Prop), cnd (c.kind == (1 : Int)) (cnd (c.side != (1 : Int)) (cnd (c.side != (2 : Int)) (∃ (o : Unit), c.right = (21 : Int) ∧ True) (cnd (decide (c.time < (1 : Int))) (∃ (o : Unit), c.right = (27 : Int) ∧ True) (cnd (decide (c.time > (3 : Int))) (∃ (o : Unit), c.right = (27 : Int) ∧ True) (∃ (i' : Unit), I i' ∧ Vright6r0 c = Vright6r0 c)))) (cnd (decide (c.time < (1 : Int))) (∃ (o : Unit), c.right = (27 : Int) ∧ True) (cnd (decide (c.time > (3 : Int))) (∃ (o : Unit), c.right = (27 : Int) ∧ True) (∃ (i' : Unit), I i' ∧ Vright6r0 c = Vright6r0 c)))) (∃ (i' : Unit), I i' ∧ Vright6r0 c = Vright6r0 c) ∧ ∀ (i : Unit), I i → ∃ (i0 : Unit), ∃ (I : Unit → Prop), cnd (c.kind != (2 : Int)) (cnd (decide (c.qty < (1 : Int))) (∃ (o : Unit), c.right = (24 : Int) ∧ True) (cnd (decide (c.qty > (1000000 : Int))) (∃ (o : Unit), c.right = (24 : Int) ∧ True) (∃ (i' : Unit), I i' ∧ Vright6r0 c = Vright6r0 c))) (∃ (i' : Unit), I i' ∧ Vright6r0 c = Vright6r0 c) ∧ ∀ (i : Unit), I i → ∃ (i0 : Unit), ∃ (I : Unit → Prop), cnd (c.kind == (1 : Int)) (cnd (decide (c.least < (0 : Int))) (∃ (o : Unit), c.right = (28 : Int) ∧ True) (cnd (decide (c.least > c.qty)) (∃ (o : Unit), c.right = (28 : Int) ∧ True) (cnd (!(sb c.label).toList == (ByteArray.mk #[]).toList) (∃ (i : List UInt8), sb i = sb c.label ∧ i.length ≤ (140737488355328 : Nat) ∧ ∀ (o : Unit), True → cnd (!labOk i) (∃ (o : Unit), c.right = (29 : Int) ∧ True) (∃ (i' : Unit), I i' ∧ Vright6r0 c = Vright6r0 c)) (∃ (i' : Unit), I i' ∧ Vright6r0 c = Vright6r0 c)))) (∃ (i' : Unit), I i' ∧ Vright6r0 c = Vright6r0 c) ∧ ∀ (i : Unit), I i → ∃ (i0 : Unit), ∃ (I : Unit → Prop), cnd (c.kind == (1 : Int)) (cnd (decide (c.price < (-2000000 : Int))) (∃ (o : Unit), c.right = (23 : Int) ∧ True) (cnd (decide (c.price > (2000000 : Int))) (∃ (o : Unit), c.right = (23 : Int) ∧ True) (∃ (i' : Unit), I i' ∧ Vright6r0 c = Vright6r0 c))) (cnd (c.kind == (4 : Int)) (cnd (decide (c.price < (-2000000 : Int))) (∃ (o : Unit), c.right = (23 : Int) ∧ True) (cnd (decide (c.price > (2000000 : Int))) (∃ (o : Unit), c.right = (23 : Int) ∧ True) (∃ (i' : Unit), I i' ∧ Vright6r0 c = Vright6r0 c))) (∃ (i' : Unit), I i' ∧ Vright6r0 c = Vright6r0 c)) ∧ ∀ (i : Unit), I i → cnd (c.kind == (1 : Int)) (cnd (decide (c.inst < (0 : Int))) (∃ (o : Unit), c.right = (20 : Int) ∧ True) (cnd (decide (c.inst > (255 : Int))) (∃ (o : Unit), c.right = (20 : Int) ∧ True) (∃ (o : Unit), c.right = (0 : Int) ∧ True))) (∃ (o : Unit), c.right = (0 : Int) ∧ True)))))
theorem eqright6 (c : Cmd) : Vright6 c = walk Tryz.prog ([(31, labC)]) 0 (right6J) ([]) [] Tryz.f14 (Tryz.f14.body.getD .skip) (rightC.pat c) (rightC.pre c) (rightC.alts c) := by kernel_rfl

theorem byright6 (hG : GOk Tryz.prog ([(31, labC)])) (h : ∀ (c : Cmd), rightC.cnd c → Vright6 c) : rightC.ok Tryz.prog 14 := ok_of_walk mixed ([(31, labC)]) hG 0 (fun (c : Cmd) => right6J) (fun (c : Cmd) => []) [] Tryz.func14 (by kernel_rfl) (by kernel_rfl) (by kernel_rfl) (fun _ => by kernel_rfl) (fun (c : Cmd) hc => Eq.mp (eqright6 c) (h c hc))

def Vwords2 (s : List UInt8) : Prop :=
  ∃ (i0 : WS2), (↑i0.n : Int) = (0 : Int) ∧ i0.from_ = (-1 : Int) ∧ i0.start = (0 : Int) ∧ sb s = sb s ∧ i0.p = (0 : Nat) ∧ tE i0.words = [] ∧ iE i0.at_ = [] ∧ ∃ (I : WS2 → Prop), ∃ (μ : WS2 → Nat), I i0 ∧ ∀ (i : WS2), I i → cnd (i.p.blt (sb s).size) (cnd ((↑(Utf8.decode (sb s) i.p).fst : Int) == (32 : Int)) (cnd (decide (i.from_ ≥ (0 : Int))) (((0 : Int) ≤ i.from_ ∧ i.from_ ≤ (↑i.p : Int) ∧ (↑i.p : Int) ≤ (↑(sb s).size : Int)) ∧ ((tE i.words).length + (1 : Nat)) * (16 : Nat) ≤ (70368744177664 : Nat) ∧ ((iE i.at_).length + (1 : Nat)) * (8 : Nat) ≤ (70368744177664 : Nat) ∧ ∃ (i' : WS2), (↑i'.n : Int) = IntKind.i64.wrap ((↑i.n : Int) + (1 : Int)) ∧ i'.from_ = (-1 : Int) ∧ i'.start = i.start ∧ sb s = sb s ∧ i'.p = i.p + (Utf8.decode (sb s) i.p).snd ∧ tE i'.words = tE i.words ++ [[D.v (Value.string ((sb s).extract i.from_.toNat (↑i.p : Int).toNat))]] ∧ iE i'.at_ = iE i.at_ ++ [[D.v (.int .i64 i.start)]] ∧ I i' ∧ μ i' < μ i ∧ True) (∃ (i' : WS2), (↑i'.n : Int) = IntKind.i64.wrap ((↑i.n : Int) + (1 : Int)) ∧ i'.from_ = (-1 : Int) ∧ i'.start = i.start ∧ sb s = sb s ∧ i'.p = i.p + (Utf8.decode (sb s) i.p).snd ∧ tE i'.words = tE i.words ∧ iE i'.at_ = iE i.at_ ∧ I i' ∧ μ i' < μ i ∧ True)) (cnd (decide (i.from_ < (0 : Int))) (∃ (i' : WS2), (↑i'.n : Int) = IntKind.i64.wrap ((↑i.n : Int) + (1 : Int)) ∧ i'.from_ = (↑i.p : Int) ∧ i'.start = (↑i.n : Int) ∧ sb s = sb s ∧ i'.p = i.p + (Utf8.decode (sb s) i.p).snd ∧ tE i'.words = tE i.words ∧ iE i'.at_ = iE i.at_ ∧ I i' ∧ μ i' < μ i ∧ True) (∃ (i' : WS2), (↑i'.n : Int) = IntKind.i64.wrap ((↑i.n : Int) + (1 : Int)) ∧ i'.from_ = i.from_ ∧ i'.start = i.start ∧ sb s = sb s ∧ i'.p = i.p + (Utf8.decode (sb s) i.p).snd ∧ tE i'.words = tE i.words ∧ iE i'.at_ = iE i.at_ ∧ I i' ∧ μ i' < μ i ∧ True))) (cnd (decide (i.from_ ≥ (0 : Int))) (((0 : Int) ≤ i.from_ ∧ i.from_ ≤ (↑(sb s).size : Int)) ∧ ((tE i.words).length + (1 : Nat)) * (16 : Nat) ≤ (70368744177664 : Nat) ∧ ((iE i.at_).length + (1 : Nat)) * (8 : Nat) ≤ (70368744177664 : Nat) ∧ ∃ (o : Unit), tE (wordsL s) = tE i.words ++ [[D.v (Value.string ((sb s).extract i.from_.toNat (sb s).size))]] ∧ iE (wordsA s) = iE i.at_ ++ [[D.v (.int .i64 i.start)]] ∧ True) (∃ (o : Unit), tE (wordsL s) = tE i.words ∧ iE (wordsA s) = iE i.at_ ∧ True))
theorem eqwords2 (s : List UInt8) : Vwords2 s = walk Tryz.prog ([]) 0 ([]) (words2A s) [] Tryz.f21 (Tryz.f21.body.getD .skip) (wordsC.pat s) (wordsC.pre s) (wordsC.alts s) := by kernel_rfl

theorem bywords2 (hG : GOk Tryz.prog ([])) (h : ∀ (s : List UInt8), wordsC.cnd s → Vwords2 s) : wordsC.ok Tryz.prog 21 := ok_of_walk mixed ([]) hG 0 (fun (s : List UInt8) => []) (fun (s : List UInt8) => words2A s) [] Tryz.func21 (by kernel_rfl) (by kernel_rfl) (by kernel_rfl) (fun _ => by kernel_rfl) (fun (s : List UInt8) hc => Eq.mp (eqwords2 s) (h s hc))

def Vnum2 (s : List UInt8) : Prop :=
  ∃ (i0 : List UInt8), ∃ (I : List UInt8 → Prop), cnd (decide ((↑(sb s).size : Int) > (0 : Int))) (∃ (b : UInt8), ((0 : Int) ≤ (0 : Int) ∧ (sb s)[Int.toNat (0 : Int)]? = some b) ∧ cnd ((↑b.toNat : Int) == (45 : Int)) (((0 : Int) ≤ (1 : Int) ∧ (1 : Int) ≤ (↑(sb s).size : Int)) ∧ ∃ (i' : List UInt8), sb i' = (sb s).extract (Int.toNat (1 : Int)) (sb s).size ∧ I i' ∧ True) (∃ (i' : List UInt8), sb i' = sb s ∧ I i' ∧ True)) (∃ (i' : List UInt8), sb i' = sb s ∧ I i' ∧ True) ∧ ∀ (i : List UInt8), I i → cnd (decide ((↑(sb i).size : Int) < (1 : Int))) (∃ (o : Unit), (numF s).fst = (0 : Int) ∧ (numF s).snd = false ∧ True) (cnd (decide ((↑(sb i).size : Int) > (18 : Int))) (∃ (o : Unit), (numF s).fst = (0 : Int) ∧ (numF s).snd = false ∧ True) (∃ (i0 : Int × Nat), i0.fst = (0 : Int) ∧ (↑i0.snd : Int) = (0 : Int) ∧ ∃ (I : Int × Nat → Prop), ∃ (μ : Int × Nat → Nat), I i0 ∧ ∀ (i_1 : Int × Nat), I i_1 → cnd (decide ((↑i_1.snd : Int) < (↑(sb i).size : Int))) (∃ (b : UInt8), ((0 : Int) ≤ (↑i_1.snd : Int) ∧ (sb i)[(↑i_1.snd : Int).toNat]? = some b) ∧ cnd (decide ((↑b.toNat : Int) < (48 : Int))) (∃ (o : Unit), (numF s).fst = (0 : Int) ∧ (numF s).snd = false ∧ True) (∃ (b : UInt8), ((0 : Int) ≤ (↑i_1.snd : Int) ∧ (sb i)[(↑i_1.snd : Int).toNat]? = some b) ∧ cnd (decide ((↑b.toNat : Int) > (57 : Int))) (∃ (o : Unit), (numF s).fst = (0 : Int) ∧ (numF s).snd = false ∧ True) (∃ (b : UInt8), ((0 : Int) ≤ (↑i_1.snd : Int) ∧ (sb i)[(↑i_1.snd : Int).toNat]? = some b) ∧ ∃ (i' : Int × Nat), i'.fst = IntKind.i64.wrap (IntKind.i64.wrap ((10 : Int) * i_1.fst) + IntKind.i64.wrap (IntKind.u8.wrap ((↑b.toNat : Int) - (48 : Int)))) ∧ (↑i'.snd : Int) = IntKind.i64.wrap ((↑i_1.snd : Int) + (1 : Int)) ∧ I i' ∧ μ i' < μ i_1 ∧ True))) (cnd (!(sb i).toList == (sb s).toList) (∃ (o : Unit), (numF s).fst = IntKind.i64.wrap ((0 : Int) - i_1.fst) ∧ (numF s).snd = true ∧ True) (∃ (o : Unit), (numF s).fst = i_1.fst ∧ (numF s).snd = true ∧ True))))
theorem eqnum2 (s : List UInt8) : Vnum2 s = walk Tryz.prog ([]) 0 (num2J) (num2A) [] Tryz.f24 (Tryz.f24.body.getD .skip) (numC.pat s) (numC.pre s) (numC.alts s) := by kernel_rfl

theorem bynum2 (hG : GOk Tryz.prog ([])) (h : ∀ (s : List UInt8), numC.cnd s → Vnum2 s) : numC.ok Tryz.prog 24 := ok_of_walk mixed ([]) hG 0 (fun (s : List UInt8) => num2J) (fun (s : List UInt8) => num2A) [] Tryz.func24 (by kernel_rfl) (by kernel_rfl) (by kernel_rfl) (fun _ => by kernel_rfl) (fun (s : List UInt8) hc => Eq.mp (eqnum2 s) (h s hc))

def Vlref (i : RfI) : Prop :=
  cnd (i.r.why == (0 : Int)) (∃ (o : Unit), (↑(i.r.fail i.why i.place).k : Int) = (↑i.r.k : Int) ∧ (i.r.fail i.why i.place).end_ = i.r.end_ ∧ (i.r.fail i.why i.place).why = i.why ∧ (i.r.fail i.why i.place).place = i.place ∧ AObj.fro (1 : Nat) (tE (i.r.fail i.why i.place).words) = LinU i.r (1 : Nat) ∧ AObj.fro (1 : Nat) (iE (i.r.fail i.why i.place).at_) = LinU i.r (2 : Nat) ∧ True) (∃ (o : Unit), (↑(i.r.fail i.why i.place).k : Int) = (↑i.r.k : Int) ∧ (i.r.fail i.why i.place).end_ = i.r.end_ ∧ (i.r.fail i.why i.place).why = i.r.why ∧ (i.r.fail i.why i.place).place = i.r.place ∧ AObj.fro (1 : Nat) (tE (i.r.fail i.why i.place).words) = LinU i.r (1 : Nat) ∧ AObj.fro (1 : Nat) (iE (i.r.fail i.why i.place).at_) = LinU i.r (2 : Nat) ∧ True)
theorem eqlref (i : RfI) : Vlref i = walk Tryz.prog ([]) 0 ([]) ([]) [] Tryz.f38 (Tryz.f38.body.getD .skip) (lrefC.pat i) (lrefC.pre i) (lrefC.alts i) := by kernel_rfl

theorem bylref (hG : GOk Tryz.prog ([])) (h : ∀ (i : RfI), lrefC.cnd i → Vlref i) : lrefC.ok Tryz.prog 38 := ok_of_walk mixed ([]) hG 0 (fun (i : RfI) => []) (fun (i : RfI) => []) [] Tryz.func38 (by kernel_rfl) (by kernel_rfl) (by kernel_rfl) (fun _ => by kernel_rfl) (fun (i : RfI) hc => Eq.mp (eqlref i) (h i hc))

def Vlnext (i : Rdr) : Prop :=
  cnd (i.why != (0 : Int)) (∃ (o : Unit), sb i.word = ByteArray.mk #[] ∧ i.hereL = (0 : Int) ∧ (↑i.next.k : Int) = (↑i.k : Int) ∧ i.next.end_ = i.end_ ∧ i.next.why = i.why ∧ i.next.place = i.place ∧ AObj.fro (1 : Nat) (tE i.next.words) = LinU i (1 : Nat) ∧ AObj.fro (1 : Nat) (iE i.next.at_) = LinU i (2 : Nat) ∧ True) (cnd (decide ((↑i.k : Int) ≥ (↑(tE i.words).length : Int))) (∃ (i_1 : RfI), i_1.why = (12 : Int) ∧ i_1.place = i.end_ ∧ (↑i_1.r.k : Int) = (↑i.k : Int) ∧ i_1.r.end_ = i.end_ ∧ i_1.r.why = i.why ∧ i_1.r.place = i.place ∧ AObj.fro (1 : Nat) (tE i_1.r.words) = LinU i (1 : Nat) ∧ AObj.fro (1 : Nat) (iE i_1.r.at_) = LinU i (2 : Nat) ∧ True ∧ ∀ (o : Unit), True → ∃ (o : Unit), sb i.word = ByteArray.mk #[] ∧ i.hereL = (0 : Int) ∧ (↑i.next.k : Int) = (↑(i_1.r.fail i_1.why i_1.place).k : Int) ∧ i.next.end_ = (i_1.r.fail i_1.why i_1.place).end_ ∧ i.next.why = (i_1.r.fail i_1.why i_1.place).why ∧ i.next.place = (i_1.r.fail i_1.why i_1.place).place ∧ AObj.fro (1 : Nat) (tE i.next.words) = AObj.fro (1 : Nat) (tE (i_1.r.fail i_1.why i_1.place).words) ∧ AObj.fro (1 : Nat) (iE i.next.at_) = AObj.fro (1 : Nat) (iE (i_1.r.fail i_1.why i_1.place).at_) ∧ True) (((0 : Int) ≤ IntKind.i64.wrap (IntKind.i64.wrap ((↑i.k : Int) + (1 : Int)) - (1 : Int)) ∧ IntKind.i64.wrap (IntKind.i64.wrap ((↑i.k : Int) + (1 : Int)) - (1 : Int)) < (↑(tE i.words).length : Int)) ∧ ∃ (s : ByteArray), elPart (tE i.words) (IntKind.i64.wrap (IntKind.i64.wrap ((↑i.k : Int) + (1 : Int)) - (1 : Int))).toNat (0 : Nat) (1 : Nat) = some [D.v (Value.string s)] ∧ ((0 : Int) ≤ IntKind.i64.wrap (IntKind.i64.wrap ((↑i.k : Int) + (1 : Int)) - (1 : Int)) ∧ IntKind.i64.wrap (IntKind.i64.wrap ((↑i.k : Int) + (1 : Int)) - (1 : Int)) < (↑(iE i.at_).length : Int)) ∧ ∃ (n : Int), elPart (iE i.at_) (IntKind.i64.wrap (IntKind.i64.wrap ((↑i.k : Int) + (1 : Int)) - (1 : Int))).toNat (0 : Nat) (1 : Nat) = some [D.v (.int .i64 n)] ∧ ∃ (o : Unit), sb i.word = s ∧ i.hereL = n ∧ (↑i.next.k : Int) = IntKind.i64.wrap ((↑i.k : Int) + (1 : Int)) ∧ i.next.end_ = i.end_ ∧ i.next.why = i.why ∧ i.next.place = i.place ∧ AObj.fro (1 : Nat) (tE i.next.words) = LinU i (1 : Nat) ∧ AObj.fro (1 : Nat) (iE i.next.at_) = LinU i (2 : Nat) ∧ True))
theorem eqlnext (i : Rdr) : Vlnext i = walk Tryz.prog ([(38, lrefC)]) 0 ([]) ([]) [] Tryz.f53 (Tryz.f53.body.getD .skip) (lnextC.pat i) (lnextC.pre i) (lnextC.alts i) := by kernel_rfl

theorem bylnext (hG : GOk Tryz.prog ([(38, lrefC)])) (h : ∀ (i : Rdr), lnextC.cnd i → Vlnext i) : lnextC.ok Tryz.prog 53 := ok_of_walk mixed ([(38, lrefC)]) hG 0 (fun (i : Rdr) => []) (fun (i : Rdr) => []) [] Tryz.func53 (by kernel_rfl) (by kernel_rfl) (by kernel_rfl) (fun _ => by kernel_rfl) (fun (i : Rdr) hc => Eq.mp (eqlnext i) (h i hc))

def Vlnum (i : Rdr) : Prop :=
  ∃ (i_1 : Rdr), (↑i_1.k : Int) = (↑i.k : Int) ∧ i_1.end_ = i.end_ ∧ i_1.why = i.why ∧ i_1.place = i.place ∧ AObj.fro (1 : Nat) (tE i_1.words) = LinU i (1 : Nat) ∧ AObj.fro (1 : Nat) (iE i_1.at_) = LinU i (2 : Nat) ∧ ((i_1.p.code.length ≤ (140737488355328 : Nat) ∧ i_1.p.months.length ≤ (140737488355328 : Nat) ∧ i_1.p.settle.length ≤ (140737488355328 : Nat)) ∧ i_1.at_.length = i_1.words.length ∧ i_1.words.length ≤ (1048576 : Nat) ∧ i_1.k ≤ i_1.words.length ∧ ∀ (w : List UInt8), w ∈ i_1.words → w.length ≤ (1048576 : Nat)) ∧ ∀ (o : Unit), True → ∃ (i_2 : List UInt8), sb i_2 = sb i_1.word ∧ i_2.length ≤ (140737488355328 : Nat) ∧ ∀ (o : Unit), True → cnd (!(numF i_2).snd) (∃ (i_3 : RfI), i_3.why = (12 : Int) ∧ i_3.place = i_1.hereL ∧ (↑i_3.r.k : Int) = (↑i_1.next.k : Int) ∧ i_3.r.end_ = i_1.next.end_ ∧ i_3.r.why = i_1.next.why ∧ i_3.r.place = i_1.next.place ∧ AObj.fro (1 : Nat) (tE i_3.r.words) = AObj.fro (1 : Nat) (tE i_1.next.words) ∧ AObj.fro (1 : Nat) (iE i_3.r.at_) = AObj.fro (1 : Nat) (iE i_1.next.at_) ∧ True ∧ ∀ (o : Unit), True → ∃ (o : Unit), i.num = (numF i_2).fst ∧ (↑i.numR.k : Int) = (↑(i_3.r.fail i_3.why i_3.place).k : Int) ∧ i.numR.end_ = (i_3.r.fail i_3.why i_3.place).end_ ∧ i.numR.why = (i_3.r.fail i_3.why i_3.place).why ∧ i.numR.place = (i_3.r.fail i_3.why i_3.place).place ∧ AObj.fro (1 : Nat) (tE i.numR.words) = AObj.fro (1 : Nat) (tE (i_3.r.fail i_3.why i_3.place).words) ∧ AObj.fro (1 : Nat) (iE i.numR.at_) = AObj.fro (1 : Nat) (iE (i_3.r.fail i_3.why i_3.place).at_) ∧ True) (∃ (o : Unit), i.num = (numF i_2).fst ∧ (↑i.numR.k : Int) = (↑i_1.next.k : Int) ∧ i.numR.end_ = i_1.next.end_ ∧ i.numR.why = i_1.next.why ∧ i.numR.place = i_1.next.place ∧ AObj.fro (1 : Nat) (tE i.numR.words) = AObj.fro (1 : Nat) (tE i_1.next.words) ∧ AObj.fro (1 : Nat) (iE i.numR.at_) = AObj.fro (1 : Nat) (iE i_1.next.at_) ∧ True)
theorem eqlnum (i : Rdr) : Vlnum i = walk Tryz.prog ([(53, lnextC), (24, numC), (38, lrefC)]) 0 ([]) ([]) [] Tryz.f36 (Tryz.f36.body.getD .skip) (lnumC.pat i) (lnumC.pre i) (lnumC.alts i) := by kernel_rfl

theorem bylnum (hG : GOk Tryz.prog ([(53, lnextC), (24, numC), (38, lrefC)])) (h : ∀ (i : Rdr), lnumC.cnd i → Vlnum i) : lnumC.ok Tryz.prog 36 := ok_of_walk mixed ([(53, lnextC), (24, numC), (38, lrefC)]) hG 0 (fun (i : Rdr) => []) (fun (i : Rdr) => []) [] Tryz.func36 (by kernel_rfl) (by kernel_rfl) (by kernel_rfl) (fun _ => by kernel_rfl) (fun (i : Rdr) hc => Eq.mp (eqlnum i) (h i hc))

def Vlword (i : RmI) : Prop :=
  ∃ (i_1 : Rdr), (↑i_1.k : Int) = (↑i.r.k : Int) ∧ i_1.end_ = i.r.end_ ∧ i_1.why = i.r.why ∧ i_1.place = i.r.place ∧ AObj.fro (1 : Nat) (tE i_1.words) = LinU i.r (1 : Nat) ∧ AObj.fro (1 : Nat) (iE i_1.at_) = LinU i.r (2 : Nat) ∧ ((i_1.p.code.length ≤ (140737488355328 : Nat) ∧ i_1.p.months.length ≤ (140737488355328 : Nat) ∧ i_1.p.settle.length ≤ (140737488355328 : Nat)) ∧ i_1.at_.length = i_1.words.length ∧ i_1.words.length ≤ (1048576 : Nat) ∧ i_1.k ≤ i_1.words.length ∧ ∀ (w : List UInt8), w ∈ i_1.words → w.length ≤ (1048576 : Nat)) ∧ ∀ (o : Unit), True → ∃ (i_2 : List UInt8), sb i_2 = sb i_1.word ∧ i_2.length ≤ (1099511627776 : Nat) ∧ ∀ (o : Unit), True → cnd (!(sb (foldF i_2)).toList == (sb i.w).toList) (∃ (i_3 : RfI), i_3.why = (12 : Int) ∧ i_3.place = i_1.hereL ∧ (↑i_3.r.k : Int) = (↑i_1.next.k : Int) ∧ i_3.r.end_ = i_1.next.end_ ∧ i_3.r.why = i_1.next.why ∧ i_3.r.place = i_1.next.place ∧ AObj.fro (1 : Nat) (tE i_3.r.words) = AObj.fro (1 : Nat) (tE i_1.next.words) ∧ AObj.fro (1 : Nat) (iE i_3.r.at_) = AObj.fro (1 : Nat) (iE i_1.next.at_) ∧ True ∧ ∀ (o : Unit), True → ∃ (o : Unit), (↑(i.r.must i.w).k : Int) = (↑(i_3.r.fail i_3.why i_3.place).k : Int) ∧ (i.r.must i.w).end_ = (i_3.r.fail i_3.why i_3.place).end_ ∧ (i.r.must i.w).why = (i_3.r.fail i_3.why i_3.place).why ∧ (i.r.must i.w).place = (i_3.r.fail i_3.why i_3.place).place ∧ AObj.fro (1 : Nat) (tE (i.r.must i.w).words) = AObj.fro (1 : Nat) (tE (i_3.r.fail i_3.why i_3.place).words) ∧ AObj.fro (1 : Nat) (iE (i.r.must i.w).at_) = AObj.fro (1 : Nat) (iE (i_3.r.fail i_3.why i_3.place).at_) ∧ True) (∃ (o : Unit), (↑(i.r.must i.w).k : Int) = (↑i_1.next.k : Int) ∧ (i.r.must i.w).end_ = i_1.next.end_ ∧ (i.r.must i.w).why = i_1.next.why ∧ (i.r.must i.w).place = i_1.next.place ∧ AObj.fro (1 : Nat) (tE (i.r.must i.w).words) = AObj.fro (1 : Nat) (tE i_1.next.words) ∧ AObj.fro (1 : Nat) (iE (i.r.must i.w).at_) = AObj.fro (1 : Nat) (iE i_1.next.at_) ∧ True)
theorem eqlword (i : RmI) : Vlword i = walk Tryz.prog ([(53, lnextC), (35, foldC), (38, lrefC)]) 0 ([]) ([]) [] Tryz.f55 (Tryz.f55.body.getD .skip) (lwordC.pat i) (lwordC.pre i) (lwordC.alts i) := by kernel_rfl

theorem bylword (hG : GOk Tryz.prog ([(53, lnextC), (35, foldC), (38, lrefC)])) (h : ∀ (i : RmI), lwordC.cnd i → Vlword i) : lwordC.ok Tryz.prog 55 := ok_of_walk mixed ([(53, lnextC), (35, foldC), (38, lrefC)]) hG 0 (fun (i : RmI) => []) (fun (i : RmI) => []) [] Tryz.func55 (by kernel_rfl) (by kernel_rfl) (by kernel_rfl) (fun _ => by kernel_rfl) (fun (i : RmI) hc => Eq.mp (eqlword i) (h i hc))

end Sx

namespace Sx
set_option linter.unusedVariables false
set_option linter.unusedSimpArgs false
set_option maxRecDepth 100000
open Go Cv Go.Proofs

theorem vsame1 (i : SmI) (h : same1C.cnd i) : Vsame1 i := by
  obtain ⟨h1, h2⟩ : i.a.length ≤ 140737488355328 ∧ i.b.length ≤ 140737488355328 := h
  obtain ⟨a, b⟩ := i
  dsimp only at h1 h2
  unfold Vsame1
  simp only [iE_len]
  have neq : a ≠ b → decide (a = b) = false := fun e => decide_eq_false e
  refine Cv.cnd.mk (fun c => ⟨(), neq ?_, trivial⟩) fun c => ⟨0, rfl, fun k => k ≤ a.length ∧ ∀ j, j < k → a[j]? = b[j]?, fun k => a.length - k, ⟨by omega, fun j hj => by omega⟩, ?_⟩
  · rintro rfl
    simp at c
  have c : a.length = b.length := by simp at c; omega
  rintro k ⟨k1, k2⟩
  refine cndD (fun d => ?_) fun d => ⟨(), decide_eq_true ?_, trivial⟩
  · have hk : k < a.length := by omega
    obtain ⟨x, hx⟩ : ∃ x, a[k]? = some x := ⟨_, List.getElem?_eq_getElem hk⟩
    obtain ⟨y, hy⟩ : ∃ y, b[k]? = some y := ⟨_, List.getElem?_eq_getElem (by omega)⟩
    refine ⟨⟨by omega, by omega⟩, x, by rw [Int.toNat_natCast]; exact elI hx, ⟨by omega, by omega⟩, y, by rw [Int.toNat_natCast]; exact elI hy, Cv.cnd.mk (fun e => ⟨(), neq ?_, trivial⟩) fun e => ⟨k + 1, by rw [w64 (by omega)]; rfl, ⟨by omega, fun j hj => ?_⟩, by (first | omega | (dsimp only; omega)), trivial⟩⟩
    · rintro rfl
      rw [hx] at hy
      cases hy
      simp at e
    · have e : x = y := by simpa using e
      rcases Nat.lt_or_ge j k with hj' | hj'
      · exact k2 j hj'
      · obtain rfl : j = k := by omega
        rw [hx, hy, e]
  · apply List.ext_getElem?
    intro j
    rcases Nat.lt_or_ge j k with hj | hj
    · exact k2 j hj
    · rw [List.getElem?_eq_none (by omega), List.getElem?_eq_none (by omega)]
theorem same1_ok : same1C.ok Tryz.prog 22 := bysame1 gok0 vsame1
theorem vlab2 (s : List UInt8) (h : labC.cnd s) : Vlab2 s := by
  have h : s.length ≤ 140737488355328 := h
  have hr := runes_len s
  unfold Vlab2
  refine ⟨(0, 0), rfl, rfl, rfl, fun x => x.1 ≤ s.length ∧ x.2 + (runesP s x.1).length = (runes s).length ∧ (runes s).all labR = (runesP s x.1).all fun x => labR x.2, fun x => s.length - x.1, ⟨by omega, by rw [runes, List.length_map]; simp, by rw [runes, List.all_map]; rfl⟩, ?_⟩
  rintro ⟨p, n⟩ ⟨h1, h2, h3⟩
  dsimp only at h1 h2 h3 ⊢
  refine Cv.cnd.mk (fun hp => ?_) (fun hp => ?_)
  · have hp : p < s.length := by simpa [Nat.blt_eq] using hp
    have hw := decode_w s hp
    rw [runesP_step hp, List.length_cons] at h2
    rw [runesP_step hp, List.all_cons] at h3
    generalize hc : (Utf8.decode (sb s) p).1 = c at h2 h3 ⊢
    generalize hww : (Utf8.decode (sb s) p).2 = w at h2 h3 hw ⊢
    dsimp only at h3
    have bad : labR c = false → ∃ (o : Unit), labOk s = false ∧ True := fun e => ⟨(), by rw [labOk, h3, e]; rfl, trivial⟩
    refine cndD (fun c1 => bad ?_) (fun c1 => Cv.cnd.mk (fun c2 => bad ?_) (fun c2 => Cv.cnd.mk (fun c3 => bad ?_) (fun c3 => ?_)))
    · simp [labR]; omega
    · have c2 : (c : Int) = 127 := by simpa using c2
      simp [labR]; omega
    · have c3 : (c : Int) = 65533 := by simpa using c3
      simp [labR]; omega
    · have c2 : ¬ (c : Int) = 127 := by simpa using c2
      have c3 : ¬ (c : Int) = 65533 := by simpa using c3
      have e : labR c = true := by simp [labR]; omega
      refine ⟨(p + w, n + 1), ?_, rfl, rfl, ⟨hw.2, by (first | omega | (dsimp only; omega)), by rw [h3, e]; rfl⟩, by (first | omega | (dsimp only; omega)), trivial⟩
      rw [w64 (by omega)]; rfl
  · have hp : s.length ≤ p := by have := blt_f hp; simpa using this
    rw [runesP_end hp] at h2 h3
    have h2 : n = (runes s).length := h2
    have h3 : (runes s).all labR = true := h3
    refine cndD (fun c => ⟨(), ?_, trivial⟩) (fun c => ⟨(), ?_, trivial⟩)
    · rw [labOk, h3, ← h2, decide_eq_true (show 1 ≤ n by omega)]
      simp only [Bool.true_and]
      congr 1
      simp only [eq_iff_iff]; omega
    · rw [labOk, ← h2, decide_eq_false (show ¬ 1 ≤ n by omega)]; simp
theorem lab2_ok : labC.ok Tryz.prog 31 := bylab2 gok0 vlab2
theorem vcnt2 (s : List UInt8) (h : endC27.cnd s) : Vcnt2 s := by
  have h : s.length ≤ 140737488355328 := h
  have hr := runes_len s
  unfold Vcnt2
  refine ⟨(0, 0), rfl, rfl, rfl, fun x => x.1 ≤ s.length ∧ x.2 + (runesP s x.1).length = (runes s).length, fun x => s.length - x.1, ⟨by omega, by rw [runes, List.length_map]; simp⟩, ?_⟩
  rintro ⟨p, n⟩ ⟨h1, h2⟩
  dsimp only at h1 h2 ⊢
  refine Cv.cnd.mk (fun hp => ?_) (fun hp => ?_)
  · have hp : p < s.length := by simpa [Nat.blt_eq] using hp
    have hw := decode_w s hp
    rw [runesP_step hp, List.length_cons] at h2
    refine ⟨(p + (Utf8.decode (sb s) p).2, n + 1), ?_, rfl, rfl, ⟨hw.2, by (first | omega | (dsimp only; omega))⟩, by (first | omega | (dsimp only; omega)), trivial⟩
    rw [w64 (by omega)]; rfl
  · have hp : s.length ≤ p := by have := blt_f hp; simpa using this
    rw [runesP_end hp] at h2
    exact ⟨(), by rw [← h2]; rfl, trivial⟩
theorem cnt2_ok : endC27.ok Tryz.prog 34 := bycnt2 gok0 vcnt2

/-! ### Fold, by the document -/
set_option maxHeartbeats 2000000 in
theorem dec_two {l : List UInt8} (hl : l ≠ []) (h1 : 128 ≤ (dec1 l).1) (h2 : (dec1 l).1 < 2048) : (dec1 l).2 = 2 := by
  rw [dec1_N] at h1 h2 ⊢
  generalize l.length = n at *
  generalize gB l 0 = b0 at *
  generalize gB l 1 = b1 at *
  generalize gB l 2 = b2 at *
  generalize gB l 3 = b3 at *
  simp only [Go.Lib.decodeN] at h1 h2 ⊢
  revert h1 h2
  repeat' split
  all_goals intro h1 h2
  all_goals simp_all
  all_goals omega
theorem enc_low : ∀ k < 26, Utf8.encode ((65 + k : Nat) : Int) = sb (encR (65 + k)) ∧ (Utf8.encode ((97 + k : Nat) : Int)).size = 1 := by decide +kernel
theorem enc_gr : ∀ k < 25, Utf8.encode ((913 + k : Nat) : Int) = sb (encR (913 + k)) ∧ (Utf8.encode ((945 + k : Nat) : Int)).size = 2 := by decide +kernel
theorem wi32b {k : Nat} (h : k < 2000) : IntKind.i32.wrap (k : Int) = k := by
  have : ∀ k < 2000, IntKind.i32.wrap ((k : Nat) : Int) = k := by decide +kernel
  exact this k h
theorem up_enc {l : List UInt8} (hl : l ≠ []) (hu : upR (dec1 l).1 = true) : Utf8.encode (IntKind.i32.wrap (((dec1 l).1 : Int) - 32)) = sb (encR ((dec1 l).1 - 32)) ∧ (Utf8.encode ((dec1 l).1 : Int)).size = (dec1 l).2 ∧ (encR ((dec1 l).1 - 32)).length = (dec1 l).2 := by
  obtain ⟨q1, q2, q3⟩ := dec_32 hl
  have t2 := fun a b => dec_two hl a b
  generalize (dec1 l).1 = r at *
  generalize (dec1 l).2 = d at *
  simp only [upR, Bool.or_eq_true, Bool.and_eq_true, decide_eq_true_eq] at hu
  have e : ((r : Int) - 32) = ((r - 32 : Nat) : Int) := by omega
  rw [e, wi32b (by omega)]
  rcases hu with hu | hu
  · have hd : d = 1 := (q2 (Classical.byContradiction fun h => by have := q3 (by omega); omega)).1
    obtain ⟨k, rfl⟩ : ∃ k, r = 97 + k := ⟨r - 97, by omega⟩
    obtain ⟨e1, e2⟩ := enc_low k (by omega)
    rw [show 97 + k - 32 = 65 + k by omega, e1, e2, hd]
    refine ⟨rfl, rfl, ?_⟩
    unfold encR; rw [if_pos (by omega)]; rfl
  · have hd : d = 2 := t2 (by omega) (by omega)
    obtain ⟨k, rfl⟩ : ∃ k, r = 945 + k := ⟨r - 945, by omega⟩
    obtain ⟨e1, e2⟩ := enc_gr k (by omega)
    rw [show 945 + k - 32 = 913 + k by omega, e1, e2, hd]
    refine ⟨rfl, rfl, ?_⟩
    unfold encR; rw [if_neg (by omega)]; rfl
structure FInv (s : List UInt8) (x : FdS) : Prop where
  le : x.from_ ≤ x.p
  ps : x.p ≤ s.length
  ol : x.out.length ≤ x.from_
  run : x.out ++ (s.take x.p).drop x.from_ ++ foldT s (runesP s x.p) = foldF s
theorem vfold2 (s : List UInt8) (h : foldC.cnd s) : Vfold2 s := by
  have h : s.length ≤ 1099511627776 := h
  unfold Vfold2
  simp only [sb_size, sb_nil', i64max]
  refine ⟨⟨0, [], 0⟩, rfl, rfl, by (first | exact rfl | exact trivial), rfl, FInv s, fun x => s.length - x.p, ⟨Nat.le_refl _, by dsimp only; omega, Nat.le_refl _, by simp [foldF]⟩, ?_⟩
  rintro ⟨p, out, fr⟩ ⟨h1, h2, h3, h4⟩
  dsimp only at h1 h2 h3 h4 ⊢
  refine Cv.cnd.mk (fun hp => ?_) (fun hp => ?_)
  · have hp : p < s.length := by simpa [Nat.blt_eq] using hp
    have hne : s.drop p ≠ [] := by intro e; rw [List.drop_eq_nil_iff] at e; omega
    have hwd := dec1_w hne
    rw [List.length_drop] at hwd
    have hup := fun hu => up_enc hne hu
    rw [runesP_step hp, decode_drop] at h4
    rw [decode_drop]
    have hraw : rawAt s p = (s.drop p).take (dec1 (s.drop p)).2 := rfl
    have tm : ∀ d, (s.take (p + d)).drop fr = (s.take p).drop fr ++ (s.drop p).take d := fun d => take_more h1 h2
    generalize (dec1 (s.drop p)).1 = r at *
    generalize (dec1 (s.drop p)).2 = d at *
    have h4 : out ++ (s.take p).drop fr ++ (fold1 s (p, r) ++ foldT s (runesP s (p + d))) = foldF s := h4
    have no (hu : upR r = false) : ∃ (i' : FdS), sb i'.out = sb out ∧ (i'.from_ : Int) = (fr : Int) ∧ True ∧ i'.p = p + d ∧ FInv s i' ∧ s.length - i'.p < s.length - p ∧ True := by
      refine ⟨⟨p + d, out, fr⟩, rfl, rfl, trivial, rfl, ⟨by dsimp only; omega, by dsimp only; omega, h3, ?_⟩, by dsimp only; omega, trivial⟩
      dsimp only
      rw [tm d, ← hraw, ← h4]
      unfold fold1
      rw [hu]
      simp
    have hsz : ((s.take p).drop fr).length = p - fr := by rw [List.length_drop, List.length_take]; omega
    have yes (hu : upR r = true) : (0 ≤ (fr : Int) ∧ (fr : Int) ≤ (p : Int) ∧ (p : Int) ≤ (s.length : Int)) ∧ ((out.length + ((sb s).extract (fr : Int).toNat (p : Int).toNat).size : Nat) : Int) ≤ 9223372036854775807 ∧ (((sb out ++ (sb s).extract (fr : Int).toNat (p : Int).toNat).size + (Utf8.encode (IntKind.i32.wrap ((r : Int) - 32))).size : Nat) : Int) ≤ 9223372036854775807 ∧ ∃ (i' : FdS), sb i'.out = sb out ++ (sb s).extract (fr : Int).toNat (p : Int).toNat ++ Utf8.encode (IntKind.i32.wrap ((r : Int) - 32)) ∧ (i'.from_ : Int) = IntKind.i64.wrap ((p : Int) + ((Utf8.encode (r : Int)).size : Int)) ∧ True ∧ i'.p = p + d ∧ FInv s i' ∧ s.length - i'.p < s.length - p ∧ True := by
      obtain ⟨u1, u2, u3⟩ := hup hu
      rw [u1, u2, sb_cut, Int.toNat_natCast, Int.toNat_natCast]
      refine ⟨⟨by omega, by omega, by omega⟩, by rw [sb_size, hsz]; omega, by rw [← sb_app, sb_size, sb_size, List.length_append, hsz, u3]; omega, ⟨p + d, out ++ (s.take p).drop fr ++ encR (r - 32), p + d⟩, by rw [sb_app, sb_app], by rw [w64 (by omega)]; rfl, trivial, rfl, ⟨Nat.le_refl _, by dsimp only; omega, ?_, ?_⟩, by dsimp only; omega, trivial⟩
      · dsimp only
        rw [List.length_append, List.length_append, hsz, u3]; omega
      · dsimp only
        rw [← h4, show (s.take (p + d)).drop (p + d) = [] by rw [List.drop_eq_nil_iff, List.length_take]; omega]
        unfold fold1
        rw [hu]
        simp
    clear hup tm hwd hne hraw
    refine cndD (fun c1 => cndD (fun c2 => yes ?_) (fun c2 => cndD (fun c3 => cndD (fun c4 => Cv.cnd.mk (fun c5 => yes ?_) (fun c5 => no ?_)) (fun c4 => no ?_)) (fun c3 => no ?_))) (fun c1 => cndD (fun c3 => cndD (fun c4 => Cv.cnd.mk (fun c5 => yes ?_) (fun c5 => no ?_)) (fun c4 => no ?_)) (fun c3 => no ?_))
    all_goals (try simp only [bne_iff_ne, ne_eq, bne_eq_false_iff_eq] at *)
    all_goals first
      | (simp only [upR, Bool.or_eq_true, Bool.and_eq_true, decide_eq_true_eq]; omega)
      | (simp only [upR, Bool.or_eq_false_iff, Bool.and_eq_false_iff, decide_eq_false_iff_not]; omega)
  · have hp : s.length ≤ p := by have := blt_f hp; simpa using this
    have hp' : p = s.length := by omega
    subst hp'
    rw [runesP_end (Nat.le_refl _)] at h4
    rw [sb_cut, Int.toNat_natCast, List.take_length]
    rw [List.take_length] at h4
    refine ⟨⟨by omega, by omega⟩, by rw [sb_size, List.length_drop]; omega, (), ?_, trivial⟩
    rw [← h4, ← sb_app]
    simp [foldT]
theorem fold2_ok : foldC.ok Tryz.prog 35 := byfold2 gok0 vfold2

/-! ### Names -/
theorem enc_d {x : Int} (h0 : 0 ≤ x) (h9 : x ≤ 9) : Utf8.encode (IntKind.i32.wrap (48 + x)) = sb [UInt8.ofNat (48 + x.toNat)] := by
  obtain ⟨k, rfl⟩ : ∃ k : Nat, x = k := ⟨x.toNat, by omega⟩
  rw [show (48 : Int) + (k : Int) = ((48 + k : Nat) : Int) by omega, wi32 (by omega), enc_dig k (by omega), Int.toNat_natCast]
theorem vcode3 (i : CodI) (h : codeC.cnd i) : Vcode3 i := by
  have h : i.c.length ≤ 140737488355328 := h
  unfold Vcode3
  refine ⟨i.c, rfl, h, fun _ _ => Cv.cnd.mk (fun c1 => ?_) (fun c1 => cndD (fun c2 => ?_) (fun c2 => cndD (fun c3 => ?_) (fun c3 => ?_)))⟩
  · have c1 : symOk i.c = false := by simpa using c1
    rw [codeF, if_pos c1]; exact ⟨(), rfl, rfl, trivial⟩
  · have c1 : symOk i.c = true := by simpa using c1
    rw [codeF, if_neg (by simp [c1]), if_pos (.inl c2)]; exact ⟨(), rfl, rfl, trivial⟩
  · have c1 : symOk i.c = true := by simpa using c1
    rw [codeF, if_neg (by simp [c1]), if_pos (.inr c3)]; exact ⟨(), rfl, rfl, trivial⟩
  have c1 : symOk i.c = true := by simpa using c1
  have c3 : ¬ i.m > 1199 := c3
  have e0 : codeF i.c i.m = (i.c ++ [letters.getD (i.m % 12).toNat 0] ++ [UInt8.ofNat (48 + (i.m / 12).toNat / 10), UInt8.ofNat (48 + (i.m / 12).toNat % 10)], 0) := by
    rw [codeF, if_neg (by simp [c1]), if_neg (by omega)]
  have t1 : i.m.tmod 12 = i.m % 12 := Int.tmod_eq_emod_of_nonneg (by omega)
  have t2 : i.m.tdiv 12 = i.m / 12 := Int.tdiv_eq_ediv_of_nonneg (by omega)
  rw [t1, t2, w64 (x := i.m / 12) (by omega), w64 (x := i.m % 12 + 1) (by omega)]
  have t3 : (i.m / 12).tdiv 10 = i.m / 12 / 10 := Int.tdiv_eq_ediv_of_nonneg (by omega)
  have t4 : (i.m / 12).tmod 10 = i.m / 12 % 10 := Int.tmod_eq_emod_of_nonneg (by omega)
  rw [t3, t4, w64 (x := i.m / 12 / 10) (by omega), w64 (x := 48 + i.m / 12 / 10) (by omega), w64 (x := 48 + i.m / 12 % 10) (by omega), enc_d (by omega) (by omega), enc_d (by omega) (by omega)]
  have e1 : (i.m % 12 + 1).toNat = (i.m % 12).toNat + 1 := by omega
  rw [e1, letter_cut _ (by omega), i64max]
  have e2 : (ByteArray.mk #[70, 71, 72, 74, 75, 77, 78, 81, 85, 86, 88, 90]).size = 12 := rfl
  have e3 : (i.m / 12 / 10).toNat = (i.m / 12).toNat / 10 := by omega
  have e4 : (i.m / 12 % 10).toNat = (i.m / 12).toNat % 10 := by omega
  rw [e2, e3, e4]
  simp only [← sb_app, sb_size, List.length_append, List.length_cons, List.length_nil]
  refine ⟨by (first | exact rfl | exact trivial), by decide, by (first | exact rfl | exact trivial), by decide, ⟨by omega, by omega, by omega⟩, by omega, by (first | exact rfl | exact trivial), by decide, by omega, by (first | exact rfl | exact trivial), by decide, by omega, (), ?_, ?_, trivial⟩
  · rw [e0]; simp
  · rw [e0]
theorem code3_ok : codeC.ok Tryz.prog 32 := bycode3 (gokc r3prod_ok gok0) vcode3
theorem vspr3 (i : SpdI) (h : sprC.cnd i) : Vspr3 i := by
  have h : i.c.length ≤ 140737488355328 := h
  unfold Vspr3
  refine ⟨⟨i.c, i.a⟩, rfl, rfl, h, fun _ _ => ?_⟩
  dsimp only
  refine Cv.cnd.mk (fun c1 => ?_) (fun c1 => ⟨⟨i.c, i.b⟩, rfl, rfl, h, fun _ _ => ?_⟩)
  · have c1 : (codeF i.c i.a).2 ≠ 0 := by simpa using c1
    rw [sprF, if_pos c1]; exact ⟨(), rfl, rfl, trivial⟩
  have c1 : (codeF i.c i.a).2 = 0 := by simpa using c1
  dsimp only
  refine Cv.cnd.mk (fun c2 => ?_) (fun c2 => cndD (fun c3 => ?_) (fun c3 => ?_))
  · have c2 : (codeF i.c i.b).2 ≠ 0 := by simpa using c2
    rw [sprF, if_neg (by simp [c1]), if_pos c2]; exact ⟨(), rfl, rfl, trivial⟩
  · have c2 : (codeF i.c i.b).2 = 0 := by simpa using c2
    rw [sprF, if_neg (by simp [c1]), if_neg (by simp [c2]), if_pos c3]; exact ⟨(), rfl, rfl, trivial⟩
  · have c2 : (codeF i.c i.b).2 = 0 := by simpa using c2
    have c3 : ¬ i.a ≥ i.b := c3
    rw [sprF, if_neg (by simp [c1]), if_neg (by simp [c2]), if_neg (by omega)]
    have l1 := codeF_len i.c i.a
    have l2 := codeF_len i.c i.b
    rw [show ByteArray.mk #[45] = sb [45] from rfl, ← sb_app, ← sb_app, i64max]
    refine ⟨?_, ?_, (), rfl, rfl, trivial⟩
    · simp only [sb_size, List.length_singleton]; omega
    · simp only [sb_size, List.length_append, List.length_singleton]; omega
theorem spr3_ok : sprC.ok Tryz.prog 33 := byspr3 (gokc code3_ok gok0) vspr3
theorem vname5 (i : LegI) (h : nameC.cnd i) : Vname5 i := by
  obtain ⟨h1, h2, h3⟩ : i.p.small := h
  unfold Vname5
  refine cndD (fun c1 => ?_) (fun c1 => ⟨i.p, ?_⟩)
  · rw [Prd.name, if_pos (.inl c1)]; exact ⟨(), rfl, trivial⟩
  (repeat' (first | exact rfl | exact trivial | assumption | apply And.intro | (refine fun (_ : Unit) (_ : True) => ?_) | (refine Exists.intro () ?_) | omega | (dsimp only; omega)))
  refine cndD (fun c2 => ?_) (fun c2 => ⟨i, ?_⟩)
  · rw [Prd.name, if_pos (.inr c2)]; exact ⟨(), rfl, trivial⟩
  have c2 : ¬ i.n ≥ (i.p.count : Int) := c2
  obtain ⟨b1, b2, b3⟩ := legs_bd (p := i.p) (n := i.n) (by omega) (by omega)
  refine ⟨rfl, rfl, rfl, rfl, rfl, rfl, rfl, rfl, rfl, rfl, rfl, rfl, ⟨h1, h2, h3⟩, fun _ _ => ⟨⟨b1, by rw [iE_len]; exact b2⟩, _, monthE b1 b2, ⟨i.p.code, i.p.month (i.p.legs i.n).1⟩, rfl, rfl, h1, fun _ _ => ?_⟩⟩
  have e0 : i.p.name i.n = if (i.p.legs i.n).2.2 = true then (sprF i.p.code (i.p.month (i.p.legs i.n).1) (i.p.month (i.p.legs i.n).2.1)).1 else (codeF i.p.code (i.p.month (i.p.legs i.n).1)).1 := by
    rw [Prd.name, if_neg (by omega)]
  refine Cv.cnd.mk (fun c3 => ?_) (fun c3 => ?_)
  · obtain ⟨b4, b5⟩ := b3 c3
    refine ⟨⟨b1, by rw [iE_len]; exact b2⟩, _, monthE b1 b2, ⟨by omega, by rw [iE_len]; exact b5⟩, _, monthE (by omega) b5, ⟨i.p.code, i.p.month (i.p.legs i.n).1, i.p.month (i.p.legs i.n).2.1⟩, rfl, rfl, rfl, h1, fun _ _ => ⟨(), ?_, trivial⟩⟩
    rw [e0, if_pos c3]
  · rw [e0, if_neg (by simp [c3])]
    exact ⟨(), rfl, trivial⟩
theorem name5_ok : nameC.ok Tryz.prog 16 := byname5 (gokc r5count_ok (gokc r5legs_ok (gokc code3_ok (gokc spr3_ok gok0)))) vname5
theorem vfind5 (i : FndI) (h : findC.cnd i) : Vfind5 i := by
  obtain ⟨h1, h2, h3⟩ : i.p.small := h
  unfold Vfind5
  have hc := count_le i.p
  refine ⟨0, rfl, fun m => m ≤ i.p.count ∧ ∀ k < m, i.p.name (k : Nat) ≠ i.s, fun m => i.p.count - m, ⟨by omega, fun k hk => by omega⟩, ?_⟩
  rintro m ⟨g1, g2⟩
  have nonef (hm : i.p.count ≤ m) : i.p.find i.s = (0, false) := by
    have : (List.range i.p.count).find? (fun (n : Nat) => decide (i.p.name (n : Int) = i.s)) = none := by
      rw [List.find?_eq_none]
      intro k hk
      simp only [List.mem_range] at hk
      simpa using g2 k (by omega)
    rw [Prd.find, this]
  refine ⟨i.p, rfl, rfl, rfl, rfl, rfl, rfl, rfl, rfl, rfl, rfl, rfl, ⟨h1, h2, h3⟩, fun _ _ => ?_⟩
  refine cndD (fun c => ⟨⟨i.p, m⟩, ?_⟩) (fun c => ?_)
  · (repeat' (first | exact rfl | exact trivial | assumption | apply And.intro | (refine fun (_ : Unit) (_ : True) => ?_) | (refine Exists.intro () ?_) | omega | (dsimp only; omega)))
    refine Cv.cnd.mk (fun d => ?_) (fun d => ?_)
    · have d : i.p.name m = i.s := by
        rw [sb_toList, sb_toList] at d
        exact eq_of_beq d
      have : (List.range i.p.count).find? (fun (n : Nat) => decide (i.p.name (n : Int) = i.s)) = some m := by
        rw [List.find?_eq_some_iff_getElem]
        refine ⟨by simpa using d, m, by rw [List.length_range]; omega, by simp, fun j hj => ?_⟩
        simpa using g2 j hj
      rw [Prd.find, this]
      exact ⟨(), rfl, rfl, trivial⟩
    · have d : ¬ i.p.name m = i.s := by
        rw [sb_toList, sb_toList] at d
        intro e
        dsimp only at d
        rw [e] at d
        simp at d
      refine ⟨m + 1, by rw [w64 (by omega)]; rfl, ⟨by omega, fun k hk => ?_⟩, by (first | omega | (dsimp only; omega)), by (repeat' (first | exact rfl | exact trivial | assumption | apply And.intro | (refine fun (_ : Unit) (_ : True) => ?_) | (refine Exists.intro () ?_) | omega | (dsimp only; omega)))⟩
      rcases Nat.lt_or_ge k m with hk' | hk'
      · exact g2 k hk'
      · obtain rfl : k = m := by omega
        exact d
  · rw [nonef (by omega)]
    exact ⟨(), rfl, rfl, trivial⟩
theorem find5_ok : findC.ok Tryz.prog 54 := byfind5 (gokc r5count_ok (gokc name5_ok gok0)) vfind5


end Sx

namespace Sx
set_option linter.unusedVariables false
set_option linter.unusedSimpArgs false
set_option maxRecDepth 100000
open Go Cv Go.Proofs

def R4 (c : Cmd) : Int := if c.kind = 1 ∧ (c.inst < 0 ∨ 255 < c.inst) then 20 else 0
def R3 (c : Cmd) : Int := if (c.kind = 1 ∨ c.kind = 4) ∧ (c.price < -2000000 ∨ 2000000 < c.price) then 23 else R4 c
def R2 (c : Cmd) : Int := if c.kind = 1 ∧ (c.least < 0 ∨ c.qty < c.least) then 28 else if c.kind = 1 ∧ c.label ≠ [] ∧ labOk c.label = false then 29 else R3 c
def R1 (c : Cmd) : Int := if c.kind ≠ 2 ∧ (c.qty < 1 ∨ 1000000 < c.qty) then 24 else R2 c
theorem right_R (c : Cmd) : c.right = if c.kind < 1 ∨ 4 < c.kind then 31 else if c.id < 1 ∨ 1099511627776 < c.id then 1 else if c.kind = 1 ∧ c.side ≠ 1 ∧ c.side ≠ 2 then 21 else if c.kind = 1 ∧ (c.time < 1 ∨ 3 < c.time) then 27 else R1 c := by
  have q : (quantB c.qty = false) = (c.qty < 1 ∨ 1000000 < c.qty) := by simp only [quantB, Bool.and_eq_false_iff, decide_eq_false_iff_not, eq_iff_iff]; omega
  have p : (price2 c.price = false) = (c.price < -2000000 ∨ 2000000 < c.price) := by simp only [price2, Bool.and_eq_false_iff, decide_eq_false_iff_not, eq_iff_iff]; omega
  unfold Cmd.right
  by_cases k1 : c.kind = 1
  · unfold Cmd.orderE R1 R2 R3 R4
    simp only [q, p]
    simp [k1]
  · unfold R1 R2 R3 R4
    simp only [q, p]
    simp [k1]
theorem vright6 (c : Cmd) (h : rightC.cnd c) : Vright6 c := by
  have h : c.label.length ≤ 140737488355328 := h
  have R := right_R c
  unfold Vright6
  simp only [sb_nil', eqB, beqI, bneI]
  generalize c.right = r at R ⊢
  refine cndD (fun d => ⟨(), ?_, trivial⟩) fun d => cndD (fun d2 => ⟨(), ?_, trivial⟩) fun d2 => cndD (fun d3 => ⟨(), ?_, trivial⟩) fun d3 => cndD (fun d4 => ⟨(), ?_, trivial⟩) fun d4 => ?_
  · rw [R, if_pos (.inl d)]
  · rw [R, if_pos (.inr d2)]
  · rw [R, if_neg (by omega), if_pos (.inl d3)]
  · rw [R, if_neg (by omega), if_pos (.inr d4)]
  rw [if_neg (by omega), if_neg (by omega)] at R
  clear d3 d4
  have t1 : c.kind = 1 → (c.side = 1 ∨ c.side = 2) → r = if c.time < 1 ∨ 3 < c.time then 27 else R1 c := fun k e => by
    rw [if_neg (by omega)] at R
    rw [R]
    by_cases tt : c.time < 1 ∨ 3 < c.time
    · rw [if_pos ⟨k, tt⟩, if_pos tt]
    · rw [if_neg (fun e => tt e.2), if_neg tt]
  refine ⟨(), fun _ => r = R1 c, cndD (fun k => cndD (fun s1 => cndD (fun s2 => ⟨(), ?_, trivial⟩) fun s2 => cndD (fun u => ⟨(), ?_, trivial⟩) fun u => cndD (fun u2 => ⟨(), ?_, trivial⟩) fun u2 => ⟨(), ?_, trivial⟩) fun s1 => cndD (fun u => ⟨(), ?_, trivial⟩) fun u => cndD (fun u2 => ⟨(), ?_, trivial⟩) fun u2 => ⟨(), ?_, trivial⟩) (fun k => ⟨(), ?_, trivial⟩), fun _ R => ?_⟩
  · rw [R, if_pos ⟨k, s1, s2⟩]
  · rw [t1 k (.inr (Classical.byContradiction s2)), if_pos (.inl u)]
  · rw [t1 k (.inr (Classical.byContradiction s2)), if_pos (.inr u2)]
  · rw [t1 k (.inr (Classical.byContradiction s2)), if_neg (by omega)]
  · rw [t1 k (.inl (Classical.byContradiction s1)), if_pos (.inl u)]
  · rw [t1 k (.inl (Classical.byContradiction s1)), if_pos (.inr u2)]
  · rw [t1 k (.inl (Classical.byContradiction s1)), if_neg (by omega)]
  · rw [R, if_neg (fun e => k e.1), if_neg (fun e => k e.1)]
  clear t1
  unfold R1 at R
  refine ⟨(), fun _ => r = R2 c, cndD (fun k => cndD (fun u => ⟨(), ?_, trivial⟩) fun u => cndD (fun u2 => ⟨(), ?_, trivial⟩) fun u2 => ⟨(), ?_, trivial⟩) (fun k => ⟨(), ?_, trivial⟩), fun _ R => ?_⟩
  · rw [R, if_pos ⟨k, .inl u⟩]
  · rw [R, if_pos ⟨k, .inr u2⟩]
  · rw [R, if_neg (by omega)]
  · rw [R, if_neg (fun e => k e.1)]
  unfold R2 at R
  refine ⟨(), fun _ => r = R3 c, cndD (fun k => cndD (fun u => ⟨(), ?_, trivial⟩) fun u => cndD (fun u2 => ⟨(), ?_, trivial⟩) fun u2 => Cv.cnd.mk (fun l => ⟨c.label, rfl, h, fun _ _ => Cv.cnd.mk (fun l2 => ⟨(), ?_, trivial⟩) (fun l2 => ⟨(), ?_, trivial⟩)⟩) (fun l => ⟨(), ?_, trivial⟩)) (fun k => ⟨(), ?_, trivial⟩), fun _ R => ?_⟩
  · rw [R, if_pos ⟨k, .inl u⟩]
  · rw [R, if_pos ⟨k, .inr u2⟩]
  · rw [R, if_neg (by omega), if_pos ⟨k, by simpa using l, by simpa using l2⟩]
  · rw [R, if_neg (by omega), if_neg (fun e => by rw [e.2.2] at l2; cases l2)]
  · rw [R, if_neg (by omega), if_neg (fun e => by simp [e.2.1] at l)]
  · rw [R, if_neg (fun e => k e.1), if_neg (fun e => k e.1)]
  unfold R3 at R
  refine ⟨(), fun _ => r = R4 c, cndD (fun k => cndD (fun u => ⟨(), ?_, trivial⟩) fun u => cndD (fun u2 => ⟨(), ?_, trivial⟩) fun u2 => ⟨(), ?_, trivial⟩) (fun k => cndD (fun k4 => cndD (fun u => ⟨(), ?_, trivial⟩) fun u => cndD (fun u2 => ⟨(), ?_, trivial⟩) fun u2 => ⟨(), ?_, trivial⟩) (fun k4 => ⟨(), ?_, trivial⟩)), fun _ R => ?_⟩
  · rw [R, if_pos ⟨.inl k, .inl u⟩]
  · rw [R, if_pos ⟨.inl k, .inr u2⟩]
  · rw [R, if_neg (by omega)]
  · rw [R, if_pos ⟨.inr k4, .inl u⟩]
  · rw [R, if_pos ⟨.inr k4, .inr u2⟩]
  · rw [R, if_neg (by omega)]
  · rw [R, if_neg (by omega)]
  unfold R4 at R
  refine cndD (fun k => cndD (fun u => ⟨(), ?_, trivial⟩) fun u => cndD (fun u2 => ⟨(), ?_, trivial⟩) fun u2 => ⟨(), ?_, trivial⟩) (fun k => ⟨(), ?_, trivial⟩)
  · rw [R, if_pos ⟨k, .inl u⟩]
  · rw [R, if_pos ⟨k, .inr u2⟩]
  · rw [R, if_neg (by omega)]
  · rw [R, if_neg (by omega)]
theorem right6_ok : rightC.ok Tryz.prog 14 := byright6 (gokc lab2_ok gok0) vright6

/-! ### Words -/
structure W2Inv (s : List UInt8) (y : WS2) : Prop where
  ex : ∃ x : WSt, WInv s y.p x ∧ x.words = y.words ∧ x.n = y.n ∧ x.from_ = y.from_ ∧ x.at_ = if 0 ≤ y.from_ then y.at_ ++ [y.start] else y.at_
theorem vwords2 (s : List UInt8) (h : wordsC.cnd s) : Vwords2 s := by
  have h : s.length ≤ 1048576 := h
  unfold Vwords2
  simp only [tE_len, iE_len, sb_size, beqI, bneI]
  refine ⟨⟨0, [], [], 0, -1, 0⟩, rfl, rfl, rfl, by (first | exact rfl | exact trivial), rfl, rfl, rfl, fun y => y.p ≤ s.length ∧ W2Inv s y, fun y => s.length - y.p, ⟨by dsimp only; omega, ⟨⟨[], [], -1, 0⟩, ⟨rfl, by decide, by decide, by decide, by decide, by decide⟩, rfl, rfl, rfl, rfl⟩⟩, ?_⟩
  rintro ⟨p, ws, az, n, fr, st⟩ ⟨h1, ⟨x, ⟨g1, g2, g3, g4, g5, g6⟩, x1, x2, x3, x4⟩⟩
  obtain ⟨xw, xa, xf, xn⟩ := x
  dsimp only at h1 g1 g2 g3 g4 g5 g6 x1 x2 x3 x4 ⊢
  subst x1 x2 x3
  refine Cv.cnd.mk (fun hp => ?_) (fun hp => ?_)
  · have hp : p < s.length := by simpa [Nat.blt_eq] using hp
    have hw := decode_w s hp
    rw [runesP_step hp, List.foldl_cons] at g1
    generalize hc : (Utf8.decode (sb s) p).1 = c at g1 ⊢
    generalize hww : (Utf8.decode (sb s) p).2 = d at g1 hw ⊢
    have fin (y : WSt) (z : WS2) (e : WSt.step s ⟨xw, xa, xf, xn⟩ (p, c) = y) (f0 : -1 ≤ y.from_) (f1 : y.from_ ≤ p) (k1 : y.n = xn + 1) (k2 : y.words.length ≤ p + 1) (k3 : y.at_.length ≤ p + 1) (zp : z.p = p + d) (z1 : y.words = z.words) (z2 : y.n = z.n) (z3 : y.from_ = z.from_) (z4 : y.at_ = if 0 ≤ z.from_ then z.at_ ++ [z.start] else z.at_) : z.p ≤ s.length ∧ W2Inv s z :=
      ⟨by rw [zp]; exact hw.2, ⟨y, ⟨by rw [← e, zp]; exact g1, f0, by rw [zp]; omega, by rw [zp]; omega, by rw [zp]; omega, by rw [zp]; omega⟩, z1, z2, z3, z4⟩⟩
    have hn : IntKind.i64.wrap ((xn : Int) + 1) = ((xn + 1 : Nat) : Int) := by rw [w64 (by omega)]; rfl
    rw [hn]
    have hal : 0 ≤ xf → az.length ≤ p := fun e => by rw [if_pos e] at x4; rw [x4] at g6; simp at g6; omega
    have hal2 : ¬ 0 ≤ xf → az.length ≤ p := fun e => by rw [if_neg e] at x4; rw [x4] at g6; omega
    refine cndD (fun c1 => ?_) (fun c1 => ?_)
    · have c1 : c = 32 := by omega
      refine cndD (fun c2 => ?_) (fun c2 => ?_)
      · have c2 : 0 ≤ xf := c2
        have e : WSt.step s ⟨xw, xa, xf, xn⟩ (p, c) = ⟨xw ++ [(s.take p).drop xf.toNat], xa, -1, xn + 1⟩ := by
          simp only [WSt.step]
          rw [if_pos c1, if_pos c2]
        have hal := hal c2
        rw [if_pos c2] at x4
        refine ⟨⟨by omega, by omega, by omega⟩, by omega, by omega, ⟨p + d, xw ++ [(s.take p).drop xf.toNat], az ++ [st], xn + 1, -1, st⟩, rfl, rfl, rfl, by (first | exact rfl | exact trivial), rfl, ?_, iE_app _ _, fin _ _ e (by dsimp only; omega) (by dsimp only; omega) rfl (by simp; omega) (by dsimp only; omega) rfl rfl rfl rfl ?_, by dsimp only; omega, trivial⟩
        · dsimp only
          rw [tE_app, sb_cut]; rfl
        · dsimp only
          rw [if_neg (by omega)]
          exact x4
      · have c2 : ¬ 0 ≤ xf := c2
        have hf : xf = -1 := by omega
        have e : WSt.step s ⟨xw, xa, xf, xn⟩ (p, c) = ⟨xw, xa, xf, xn + 1⟩ := by
          simp only [WSt.step]
          rw [if_pos c1, if_neg c2]
        rw [if_neg c2] at x4
        exact ⟨⟨p + d, xw, az, xn + 1, -1, st⟩, rfl, rfl, rfl, by (first | exact rfl | exact trivial), rfl, rfl, rfl, fin _ _ e (by dsimp only; omega) (by dsimp only; omega) rfl (by dsimp only; omega) (by dsimp only; omega) rfl rfl rfl hf (by dsimp only; rw [if_neg (by omega)]; exact x4), by dsimp only; omega, trivial⟩
    · have c1 : ¬ c = 32 := by omega
      refine cndD (fun c2 => ?_) (fun c2 => ?_)
      · have c2 : xf < 0 := c2
        have e : WSt.step s ⟨xw, xa, xf, xn⟩ (p, c) = ⟨xw, xa ++ [(xn : Int)], p, xn + 1⟩ := by
          simp only [WSt.step]
          rw [if_neg c1, if_pos c2]
        rw [if_neg (by omega)] at x4
        exact ⟨⟨p + d, xw, az, xn + 1, p, xn⟩, rfl, rfl, rfl, by (first | exact rfl | exact trivial), rfl, rfl, rfl, fin _ _ e (by dsimp only; omega) (by dsimp only; omega) rfl (by dsimp only; omega) (by simp; omega) rfl rfl rfl rfl (by dsimp only; rw [if_pos (by omega), x4]), by dsimp only; omega, trivial⟩
      · have c2 : ¬ xf < 0 := c2
        have e : WSt.step s ⟨xw, xa, xf, xn⟩ (p, c) = ⟨xw, xa, xf, xn + 1⟩ := by
          simp only [WSt.step]
          rw [if_neg c1, if_neg c2]
        exact ⟨⟨p + d, xw, az, xn + 1, xf, st⟩, rfl, rfl, rfl, by (first | exact rfl | exact trivial), rfl, rfl, rfl, fin _ _ e (by dsimp only; omega) (by dsimp only; omega) rfl (by dsimp only; omega) (by dsimp only; omega) rfl rfl rfl rfl x4, by dsimp only; omega, trivial⟩
  · have hp : s.length ≤ p := by have := blt_f hp; simpa using this
    rw [runesP_end hp] at g1
    have g1 : (⟨xw, xa, xf, xn⟩ : WSt) = wordsSt s := g1
    refine cndD (fun c => ?_) (fun c => ⟨(), ?_, ?_, trivial⟩)
    · have c : 0 ≤ xf := c
      rw [if_pos c] at x4
      have hal : az.length ≤ p := by rw [x4] at g6; simp at g6; omega
      refine ⟨⟨by omega, by omega⟩, by omega, by omega, (), ?_, ?_, trivial⟩
      · rw [wordsL, ← g1, if_pos c, tE_app, sb_cut, List.take_length]
      · rw [wordsA, ← g1]
        dsimp only
        rw [x4, iE_app]
    · have c : ¬ 0 ≤ xf := c
      rw [wordsL, ← g1, if_neg c]
    · have c : ¬ 0 ≤ xf := c
      rw [if_neg c] at x4
      rw [wordsA, ← g1]
      dsimp only
      rw [x4]
theorem words2_ok : wordsC.ok Tryz.prog 21 := bywords2 gok0 vwords2

/-! ### Numbers -/
def numD (d : List UInt8) : Int × Bool := if d ≠ [] ∧ d.length ≤ 18 ∧ d.all digB = true then (valB 0 d, true) else (0, false)
theorem numF_neg (l : List UInt8) : numF (45 :: l) = (-(numD l).1, (numD l).2) := by
  rw [numF_minus, numD]
  cases l with
  | nil => rfl
  | cons b l =>
    by_cases hc : (b :: l).all digB = true ∧ (b :: l).length ≤ 18
    · rw [if_pos hc, if_pos ⟨by simp, hc.2, hc.1⟩]
      simp
    · rw [if_neg hc, if_neg (fun e => hc ⟨e.2.2, e.2.1⟩)]
      rfl
theorem numF_pos {s : List UInt8} (h : ∀ l, s ≠ 45 :: l) : numF s = numD s := by
  cases s with
  | nil => rfl
  | cons b l =>
    rw [numD]
    by_cases hb : digB b = true
    · rw [numF_dig l hb]
      by_cases hc : l.all digB = true ∧ l.length ≤ 17
      · rw [if_pos hc, if_pos ⟨by simp, by simp; omega, by rw [List.all_cons, hb, hc.1]; rfl⟩, valB_cons]
        congr 2 <;> omega
      · rw [if_neg hc, if_neg]
        rintro ⟨e1, e2, e3⟩
        rw [List.all_cons, hb, Bool.true_and] at e3
        rw [List.length_cons] at e2
        exact hc ⟨e3, by omega⟩
    · have hb : digB b = false := by simpa using hb
      rw [numF_bad l hb (fun e => h l (by rw [e])), if_neg]
      rintro ⟨e1, e2, e3⟩
      rw [List.all_cons, hb] at e3
      cases e3
theorem wi8 {k : Nat} (h : k < 10) : IntKind.u8.wrap (k : Int) = k := by
  have : ∀ k < 10, IntKind.u8.wrap ((k : Nat) : Int) = k := by decide
  exact this k h
structure N2Inv (d : List UInt8) (x : Int × Nat) : Prop where
  le : x.2 ≤ d.length
  all : (d.take x.2).all digB = true
  val : x.1 = valB 0 (d.take x.2)
  lo : 0 ≤ x.1
  hi : x.1 < 10 ^ x.2
theorem sb_getB (l : List UInt8) (q : Nat) (b : UInt8) (h : l[q]? = some b) : (sb l)[q]? = some b := sb_getE h
theorem vnum2 (s : List UInt8) (h : numC.cnd s) : Vnum2 s := by
  have h : s.length ≤ 140737488355328 := h
  unfold Vnum2
  simp only [sb_size, eqB]
  refine ⟨s, fun d => s = 45 :: d ∨ (d = s ∧ ∀ l, s ≠ 45 :: l), ?_, ?_⟩
  · refine cndD (fun c => ?_) (fun c => ⟨s, rfl, .inr ⟨rfl, ?_⟩, trivial⟩)
    · cases hs : s with
      | nil => rw [hs] at c; simp at c
      | cons b l =>
        refine ⟨b, ⟨by omega, sb_getB _ 0 b rfl⟩, Cv.cnd.mk (fun e => ⟨⟨by omega, by simp; omega⟩, l, ?_, .inl ?_, trivial⟩) (fun e => ⟨b :: l, rfl, .inr ⟨rfl, ?_⟩, trivial⟩)⟩
        · rw [sb_cut]; simp
        · have e : (b.toNat : Int) = 45 := by simpa using e
          have : b = 45 := UInt8.toNat.inj (by show b.toNat = 45; omega)
          rw [this]
        · rintro l' e'
          cases e'
          simp at e
    · intro l e
      rw [e] at c
      simp at c
  intro d hd
  have hv : numF s = if d = s then numD d else (-(numD d).1, (numD d).2) := by
    rcases hd with hd | ⟨rfl, hd⟩
    · have : d ≠ s := by
        rintro rfl
        have := congrArg List.length hd
        simp at this
      rw [if_neg this, hd, numF_neg]
    · rw [if_pos rfl, numF_pos hd]
  have hdl : d.length ≤ s.length := by
    rcases hd with hd | ⟨rfl, hd⟩
    · rw [hd]; simp
    · exact Nat.le_refl _
  generalize numF s = N at hv ⊢
  have bad (e : numD d = (0, false)) : ∃ (o : Unit), N.1 = 0 ∧ N.2 = false ∧ True := by
    rw [e] at hv
    have : N = (0, false) := by rw [hv]; split <;> rfl
    rw [this]
    exact ⟨(), rfl, rfl, trivial⟩
  refine cndD (fun c => bad ?_) fun c => cndD (fun c2 => bad ?_) fun c2 => ?_
  · rw [numD, if_neg]
    rintro ⟨e, _⟩
    have : d.length ≠ 0 := fun h => e (List.eq_nil_of_length_eq_zero h)
    omega
  · rw [numD, if_neg]
    rintro ⟨_, e, _⟩
    omega
  have hne : d ≠ [] := by rintro rfl; simp at c
  refine ⟨(0, 0), rfl, rfl, N2Inv d, fun x => d.length - x.2, ⟨Nat.zero_le _, rfl, rfl, by decide, by decide⟩, ?_⟩
  rintro ⟨n, k⟩ ⟨k1, k2, k3, k4, k5⟩
  dsimp only at k1 k2 k3 k4 k5 ⊢
  have hb18 : (10 : Int) ^ k ≤ 1000000000000000000 := p10 (by omega)
  refine cndD (fun e => ?_) fun e => ?_
  · have hk : k < d.length := by omega
    obtain ⟨b, hb⟩ : ∃ b, d[k]? = some b := ⟨_, List.getElem?_eq_getElem hk⟩
    have hg : (0 ≤ (k : Int) ∧ (sb d)[(k : Int).toNat]? = some b) := ⟨by omega, by rw [Int.toNat_natCast]; exact sb_getB d k b hb⟩
    have hno : digB b = false → numD d = (0, false) := fun f => by
      rw [numD, if_neg]
      rintro ⟨_, _, g⟩
      have := List.all_eq_true.1 g b (List.mem_of_getElem? hb)
      rw [f] at this; cases this
    refine ⟨b, hg, cndD (fun f => bad (hno ?_)) fun f => ⟨b, hg, cndD (fun f2 => bad (hno ?_)) fun f2 => ⟨b, hg, ?_⟩⟩⟩
    · simp [digB]; omega
    · simp [digB]; omega
    · have hd9 : digB b = true := by simp [digB]; omega
      have ht : d.take (k + 1) = d.take k ++ [b] := by rw [List.take_add_one, hb]; rfl
      have hk17 : (10 : Int) ^ k ≤ 100000000000000000 := by
        have : ∀ d < 18, (10 : Int) ^ d ≤ 100000000000000000 := by decide
        exact this _ (by omega)
      have e1 : IntKind.u8.wrap ((b.toNat : Int) - 48) = (b.toNat : Int) - 48 := by
        rw [show (b.toNat : Int) - 48 = ((b.toNat - 48 : Nat) : Int) by omega, wi8 (by omega)]
      refine ⟨(10 * n + ((b.toNat : Int) - 48), k + 1), ?_, by rw [w64 (by omega)]; rfl, ⟨by dsimp only; omega, by dsimp only; rw [ht, List.all_append, k2]; simp [hd9], ?_, by dsimp only; omega, ?_⟩, by dsimp only; omega, trivial⟩
      · rw [e1, w64 (x := 10 * n) (by omega), w64 (x := (b.toNat : Int) - 48) (by omega), w64 (by omega)]
      · dsimp only
        rw [ht, k3]
        simp [valB]
      · dsimp only
        rw [Int.pow_succ]
        omega
  · have hk : k = d.length := by omega
    subst hk
    rw [List.take_length] at k2 k3
    have hD : numD d = (n, true) := by rw [numD, if_pos ⟨hne, by omega, k2⟩, k3]
    rw [hD] at hv
    refine Cv.cnd.mk (fun f => ⟨(), ?_, ?_, trivial⟩) (fun f => ⟨(), ?_, ?_, trivial⟩)
    · have f : ¬ d = s := by simpa using f
      rw [hv, if_neg f, w64 (by omega)]
      dsimp only; omega
    · have f : ¬ d = s := by simpa using f
      rw [hv, if_neg f]
    · have f : d = s := by simpa using f
      rw [hv, if_pos f]
    · have f : d = s := by simpa using f
      rw [hv, if_pos f]
theorem num2_ok : numC.ok Tryz.prog 24 := bynum2 gok0 vnum2

/-! ### A line that is gone through -/
theorem vlref (i : RfI) (h : lrefC.cnd i) : Vlref i := by
  unfold Vlref
  rw [beqI]
  refine cndD (fun c => ?_) (fun c => ?_)
  · have e : i.r.fail i.why i.place = { i.r with why := i.why, place := i.place } := by rw [Rdr.fail, if_pos c]
    rw [e]; (repeat' (first | exact rfl | exact trivial | assumption | apply And.intro | (refine fun (_ : Unit) (_ : True) => ?_) | (refine Exists.intro () ?_) | omega | (dsimp only; omega)))
  · have e : i.r.fail i.why i.place = i.r := by rw [Rdr.fail, if_neg c]
    rw [e]; (repeat' (first | exact rfl | exact trivial | assumption | apply And.intro | (refine fun (_ : Unit) (_ : True) => ?_) | (refine Exists.intro () ?_) | omega | (dsimp only; omega)))
theorem lref_ok : lrefC.ok Tryz.prog 38 := bylref gok0 vlref
theorem vlnext (i : Rdr) (h : lnextC.cnd i) : Vlnext i := by
  obtain ⟨h1, h2, h3, h4, h5⟩ : i.ok := h
  unfold Vlnext
  simp only [tE_len, iE_len, bneI]
  refine cndD (fun c => ?_) (fun c => cndD (fun d => ⟨⟨i, 12, i.end_⟩, ?_⟩) (fun d => ?_))
  · have m : ¬ i.more = true := by simp [Rdr.more, c]
    have e1 : i.word = [] := by rw [Rdr.word, if_neg m]
    have e2 : i.hereL = 0 := by rw [Rdr.hereL, if_neg m]
    have e3 : i.next = i := by rw [Rdr.next, if_neg m, Rdr.fail, if_neg c]
    simp only [e1, e2, e3]; (repeat' (first | exact rfl | exact trivial | assumption | apply And.intro | (refine fun (_ : Unit) (_ : True) => ?_) | (refine Exists.intro () ?_) | fail))
  · have m : ¬ i.more = true := by simp [Rdr.more]; omega
    have e1 : i.word = [] := by rw [Rdr.word, if_neg m]
    have e2 : i.hereL = 0 := by rw [Rdr.hereL, if_neg m]
    have e3 : i.next = i.fail 12 i.end_ := by rw [Rdr.next, if_neg m]
    simp only [e1, e2, e3]; (repeat' (first | exact rfl | exact trivial | assumption | apply And.intro | (refine fun (_ : Unit) (_ : True) => ?_) | (refine Exists.intro () ?_) | fail))
  · have c : i.why = 0 := Classical.byContradiction c
    have hk : i.k < i.words.length := by omega
    have m : i.more = true := by simp [Rdr.more, c, hk]
    have e3 : i.next = { i with k := i.k + 1 } := by rw [Rdr.next, if_pos m]
    have e4 : IntKind.i64.wrap (IntKind.i64.wrap ((i.k : Int) + 1) - 1) = i.k := by
      rw [w64 (x := (i.k : Int) + 1) (by omega), w64 (by omega)]; omega
    have e5 : IntKind.i64.wrap ((i.k : Int) + 1) = ((i.k + 1 : Nat) : Int) := by rw [w64 (by omega)]; rfl
    rw [e4, e5]
    obtain ⟨w, hw⟩ := getI (l := i.words) (i := i.k) hk
    obtain ⟨n, hn⟩ := getI (l := i.at_) (i := i.k) (by omega)
    have e1 : i.word = w := by rw [Rdr.word, if_pos m, List.getD_eq_getElem?_getD, hw]; rfl
    have e2 : i.hereL = n := by rw [Rdr.hereL, if_pos m, List.getD_eq_getElem?_getD, hn]; rfl
    refine ⟨⟨by omega, by omega⟩, sb w, elT hw, ⟨by omega, by omega⟩, n, elI hn, (), ?_⟩
    simp only [e1, e2, e3]; (repeat' (first | exact rfl | exact trivial | assumption | apply And.intro | (refine fun (_ : Unit) (_ : True) => ?_) | (refine Exists.intro () ?_) | fail))
theorem lnext_ok : lnextC.ok Tryz.prog 53 := bylnext (gokc lref_ok gok0) vlnext
/-- Where a line's place does not matter: something was refused already. -/
theorem fail_here (r : Rdr) (a : Int) : r.next.fail a r.hereL = r.next.fail a r.here := by
  by_cases m : r.more = true
  · rw [Rdr.hereL, Rdr.here, if_pos m, if_pos m]
  · have hw : r.next.why ≠ 0 := by
      rw [Rdr.next, if_neg m]
      unfold Rdr.fail
      split
      · simp
      · rename_i c; exact c
    rw [Rdr.fail, Rdr.fail, if_neg hw, if_neg hw]
theorem vlnum (i : Rdr) (h : lnumC.cnd i) : Vlnum i := by
  have h0 : i.ok := h
  have hw := word_len h0
  unfold Vlnum
  refine ⟨i, rfl, rfl, rfl, rfl, rfl, rfl, h0, fun _ _ => ⟨i.word, rfl, by omega, fun _ _ => Cv.cnd.mk (fun c => ⟨⟨i.next, 12, i.hereL⟩, rfl, rfl, rfl, rfl, rfl, rfl, rfl, rfl, trivial, fun _ _ => ?_⟩) (fun c => ?_)⟩⟩
  · have c : ¬ (numF i.word).2 = true := by simpa using c
    have e : i.numR = i.next.fail 12 i.hereL := by rw [Rdr.numR, if_neg c, fail_here]
    simp only [e, Rdr.num]; (repeat' (first | exact rfl | exact trivial | assumption | apply And.intro | (refine fun (_ : Unit) (_ : True) => ?_) | (refine Exists.intro () ?_) | fail))
  · have c : (numF i.word).2 = true := by simpa using c
    have e : i.numR = i.next := by rw [Rdr.numR, if_pos c]
    simp only [e, Rdr.num]; (repeat' (first | exact rfl | exact trivial | assumption | apply And.intro | (refine fun (_ : Unit) (_ : True) => ?_) | (refine Exists.intro () ?_) | fail))
theorem lnum_ok : lnumC.ok Tryz.prog 36 := bylnum (gokc lnext_ok (gokc num2_ok (gokc lref_ok gok0))) vlnum
theorem vlword (i : RmI) (h : lwordC.cnd i) : Vlword i := by
  have h0 : i.r.ok := h
  have hw := word_len h0
  unfold Vlword
  refine ⟨i.r, rfl, rfl, rfl, rfl, rfl, rfl, h0, fun _ _ => ⟨i.r.word, rfl, by omega, fun _ _ => ?_⟩⟩
  rw [eqB]
  refine Cv.cnd.mk (fun c => ⟨⟨i.r.next, 12, i.r.hereL⟩, rfl, rfl, rfl, rfl, rfl, rfl, rfl, rfl, trivial, fun _ _ => ?_⟩) (fun c => ?_)
  · have c : ¬ foldF i.r.word = i.w := by simpa using c
    have e : i.r.must i.w = i.r.next.fail 12 i.r.hereL := by rw [Rdr.must, if_neg c, fail_here]
    simp only [e]; (repeat' (first | exact rfl | exact trivial | assumption | apply And.intro | (refine fun (_ : Unit) (_ : True) => ?_) | (refine Exists.intro () ?_) | fail))
  · have c : foldF i.r.word = i.w := by simpa using c
    have e : i.r.must i.w = i.r.next := by rw [Rdr.must, if_pos c]
    simp only [e]; (repeat' (first | exact rfl | exact trivial | assumption | apply And.intro | (refine fun (_ : Unit) (_ : True) => ?_) | (refine Exists.intro () ?_) | fail))
theorem lword_ok : lwordC.ok Tryz.prog 55 := bylword (gokc lnext_ok (gokc fold2_ok (gokc lref_ok gok0))) vlword

end Sx

namespace Sx
set_option linter.unusedVariables false
set_option maxRecDepth 100000
open Go Cv Go.Proofs

/-- A line's rows behind a call that gives its lists new names. -/
def LinU2 (r : Rdr) : Nat → AObj
  | 0 => .cells [.own 3, .own 4, i64V r.k, i64V r.end_, i64V r.why, i64V r.place] tL
  | 3 => .fro 1 (tE r.words)
  | 4 => .fro 1 (iE r.at_)
  | _ => .gone
@[reducible] def linRows2 (r : Rdr) : List AObj := [LinU2 r 0, LinU2 r 1, LinU2 r 2, LinU2 r 3, LinU2 r 4]
/-- What is told of a New that is read: as long as nothing was refused. -/
structure LoI where
  r : Rdr
  side : Int
@[reducible] def loAlt (i : LoI) : Alt := ⟨Cmd, fun c => cmdV c, fun _ => linRows2 (i.r.order i.side).r, fun c => ((i.r.order i.side).r.why = 0 → c = (i.r.order i.side).c) ∧ c.label.length ≤ 1048576⟩
def lorderC : Con where
  ι := LoI
  pat := fun i => [.nm 0 0, prdV i.r.p, i64V i.side]
  pre := fun i => linRows i.r
  cnd := fun i => i.r.ok
  alts := fun i => [loAlt i]
structure LoS where
  r : Rdr
  c : Cmd
  l : Bool
  t : Bool
  b : Bool
def lorderA : List SAnn := [{ ι := LoS, slots := fun x => [(0, .nm 0 0), (7, .nm 3 0), (12, boolV x.l), (13, boolV x.t), (14, boolV x.b)], rows := fun x => linRows x.r ++ [cmdR x.c] }]
def lorderJ : List (Nat × SAnn) := [(18, { ι := Rdr, slots := fun r => [(0, .nm 0 0)], rows := fun r => linRows r, slots0 := fun r => [(0, .nm 0 0)], rows0 := fun r => linRows r })]
def lprintJ : List (Nat × SAnn) := [(30, tj 6), (42, tj 6), (50, tj 6), (58, tj 6), (22, tj 6)]
def lparseJ : List (Nat × SAnn) := [(78, { ι := Rdr, slots := fun r => [(9, .nm 0 0)], rows := fun r => linRows r, slots0 := fun r => [(9, .nm 0 0)], rows0 := fun r => linRows r })]
structure SamI where
  p : Prd
  s : List UInt8
def sameC : Con := con1 SamI (fun i => [prdV i.p, sV i.s]) (fun _ => []) (fun i => i.p.small ∧ i.s.length ≤ 1048576) (fun i => boolV true) (fun _ => [])
def sameA : List SAnn := [{ ι := Nat, slots := fun k => [(15, i64V k)], rows := fun _ => [] }]
structure CtI where
  x : Prd
  s : List UInt8
  words : List (List UInt8)
  c : Cmd
  at_ : Int
  turn : Nat
def ctLine (i : CtI) : Nat → List UInt8
  | 0 => []
  | k + 1 => ctLine i k ++ [32] ++ headF (i.words.getD k []) 30
def ctellC : Con := con1 CtI (fun i => [prdV i.x, sV i.s, tV i.words, cmdV i.c, i64V i.at_, .d (.v (.int .u8 i.turn))]) (fun _ => []) (fun i => i.x.raw ∧ i.x.small ∧ i.c.raw ∧ i64r i.at_ ∧ i.turn < 256 ∧ i.s.length ≤ 9223372036854775807 ∧ i.words.length ≤ 9223372036854775807 ∧ (∀ w ∈ i.words, w.length ≤ 9223372036854775807) ∧ i.c.label.length ≤ 9223372036854775807) (fun i => boolV true) (fun _ => [])
def ctellA (i : CtI) : List SAnn := [{ ι := Nat, slots := fun k => [(14, sV (ctLine i k)), (15, i64V k)], rows := fun _ => [] }]

end Sx

