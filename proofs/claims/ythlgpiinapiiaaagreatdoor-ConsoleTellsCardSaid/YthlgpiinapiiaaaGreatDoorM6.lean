/- Texts of ours, one behind the other: a walk that the kernel reckons, and contracts of functions. No condition. -/
import Derived.BigCall
import Derived.WalkKit
import Derived.Test.YthlgpiinapiiaaaGreatDoorM5

namespace Sx
set_option linter.unusedVariables false
set_option linter.unusedSimpArgs false
set_option maxRecDepth 100000
open Go Go.RowKit Go.Proofs

@[reducible] def HTab (w : World) : Prop := ∀ g ∈ gtab, ∃ o, w.heap[g.1]? = some o ∧ g.2 o
/-- Package variables of the decoder, as the library's contract asks for them. -/
theorem tabs_of {w : World} (h : HTab w) : Lib.Utf8Tabs (shelfRen.g 3) (shelfRen.g 4) w := by
  obtain ⟨o1, h1, l1, T1, f1, rfl, q1⟩ := h _ (List.mem_cons_self)
  obtain ⟨o2, h2, l2, T2, f2, rfl, q2⟩ := h _ (List.mem_cons_of_mem _ (List.mem_cons_self))
  refine ⟨fun c hc => ?_, fun i hi => ⟨?_, ?_⟩⟩
  · show (match w.heap[1]? with | some (.cells cs _ _) => cs[c]? | _ => none) = _
    dsimp only at h1
    rw [h1]; exact q1 c hc
  · show (match w.heap[2]? with | some (.cells cs _ _) => cs[2 * i]? | _ => none) = _
    dsimp only at h2
    rw [h2]; exact (q2 i hi).1
  · show (match w.heap[2]? with | some (.cells cs _ _) => cs[2 * i + 1]? | _ => none) = _
    dsimp only at h2
    rw [h2]; exact (q2 i hi).2
theorem HTab.below {w w' : World} {B : Nat} (h : HTab w) (hb : Below B w w') (hB : w.heap.size ≤ B) : HTab w' := by
  intro g hg
  obtain ⟨o, h1, h2⟩ := h g hg
  have hlt : g.1 < w.heap.size := (Array.getElem?_eq_some_iff.1 h1).1
  exact ⟨o, by rw [hb.block g.1 (by omega)]; exact h1, h2⟩

theorem bldF_below {T e : TypeId} {B b : Nat} {bs : List Value} {w w' : World} (h : Lib.IsBuilderF T e B b bs w) (hb : Below w.heap.size w w') : Lib.IsBuilderF T e B b bs w' := by
  have key : ∀ {p : Value}, Lib.BuilderAtF T e B b p bs w → Lib.BuilderAtF T e B b p bs w' := by
    rintro p ⟨hB, v, hbk, hown, hne⟩
    have lt : ∀ {k : Nat} {o : Obj}, w.heap[k]? = some o → w'.heap[k]? = some o := fun {k o} hk => by
      rw [hb.block k (Array.getElem?_eq_some_iff.1 hk).1]; exact hk
    refine ⟨hB, v, lt hbk, ⟨hown.1, ?_⟩, hne⟩
    rcases hown.2 with hn | ⟨g, cap, cur, fz, hv, hbg, hg, rest⟩
    · exact .inl hn
    · exact .inr ⟨g, cap, cur, fz, hv, hbg, lt hg, rest⟩
  exact h.elim (fun x => .inl (key x)) (fun x => .inr (key x))

theorem dec_calls (s : ByteArray) (w : World) (hG : HTab w) : Calls Tryz.prog 85 #[.string s] w fun e w' => e = .returned (.tuple #[.int .i32 (Lib.decodeGo s).1, .int .i64 (Lib.decodeGo s).2]) ∧ Below w.heap.size w w' :=
  Any.utf8_DecodeRuneInString layn197 s w (tabs_of hG)
theorem brune_calls (B b : Nat) (bs : List Value) (r : Int) (hr0 : -2147483648 ≤ r) (hr1 : r ≤ 2147483647) (w : World) (h : Lib.IsBuilderF 109 5 B b bs w) (hlen : bs.length + 4 ≤ 140737488355328) (hBw : B ≤ w.heap.size) :
    Calls Tryz.prog 70 #[.pointer (some ⟨b, 0, none⟩), .int .i32 r] w fun e w' => e = .returned (.tuple #[.int .i64 (Lib.runeCells r).length, .nilIface]) ∧ (Lib.BuilderAtF 109 5 B b (.pointer (some ⟨b, 0, none⟩)) (bs ++ Lib.runeCells r) w' ∧ Below B w w' ∧ Lib.OthersKept 5 (some b) w w') :=
  Any.Builder_WriteRune_k layn168 layExtraX B b bs r hr0 hr1 w h hlen hBw
theorem bstr_calls (B b : Nat) (bs : List Value) (s : ByteArray) (w : World) (h : Lib.IsBuilderF 109 5 B b bs w) (hlen : bs.length + s.size ≤ 140737488355328) (hBw : B ≤ w.heap.size) :
    Calls Tryz.prog 71 #[.pointer (some ⟨b, 0, none⟩), .string s] w fun e w' => e = .returned (.tuple #[.int .i64 s.size, .nilIface]) ∧ (Lib.BuilderAtF 109 5 B b (.pointer (some ⟨b, 0, none⟩)) (bs ++ Lib.strCells s) w' ∧ Below B w w' ∧ Lib.OthersKept 5 (some b) w w') :=
  Any.Builder_WriteString_k layn166 layExtraX B b bs s w h hlen hBw
theorem btell_calls (B b : Nat) (l : List UInt8) (w : World) (h : Lib.IsBuilderF 109 5 B b (Lib.byteCells l) w) (hBw : B ≤ w.heap.size) :
    Calls Tryz.prog 73 #[.pointer (some ⟨b, 0, none⟩)] w fun e w' => e = .returned (.string ⟨l.toArray⟩) ∧ (Lib.IsBuilderF 109 5 B b (Lib.byteCells l) w' ∧ Below B w w' ∧ Lib.OthersKept 5 (some b) w w') :=
  Any.Builder_String_any_k layn169 layExtraX B b l w h hBw

theorem decodeGo_drop (s : List UInt8) {p : Nat} (hp : p < s.length) : Lib.decodeGo (sb (s.drop p)) = dec1 (s.drop p) := by
  unfold Lib.decodeGo
  rw [if_neg (by rw [sb_size, List.length_drop]; omega)]
  rfl

set_option maxHeartbeats 4000000 in
set_option maxRecDepth 1000000 in
theorem raw_calls (s : List UInt8) (p : Nat) (w : World) (hG : HTab w) (hp : p < s.length) (hs : s.length ≤ 1099511627776) :
    Calls Tryz.prog 72 #[.string (sb s), .int .i64 p] w fun e w' => e = .returned (.string (sb (rawAt s p))) ∧ Below w.heap.size w w' := by
  have hw := dec1_w (l := s.drop p) (by intro e; rw [List.drop_eq_nil_iff] at e; omega)
  rw [List.length_drop] at hw
  have hsz : (sb s).size = s.length := sb_size s
  go_enter Tryz.func72, Tryz.ntmps72
  go_wp2_with (go_at_call 85; refine (dec_calls _ _ hG).mono ?_)
  rintro e W1 ⟨rfl, hb⟩
  have hx : (sb s).extract p s.length = sb (s.drop p) := by rw [sb_cut, List.take_length]
  obtain ⟨d, hd⟩ : ∃ d, (Lib.decodeGo (sb (s.drop p))).2 = d := ⟨_, rfl⟩
  have hd' : d = (dec1 (s.drop p)).2 := by rw [← hd, decodeGo_drop s hp]
  obtain ⟨e, he⟩ : ∃ e, p + d = e := ⟨_, rfl⟩
  have hpe : p ≤ e := by omega
  have hes : e ≤ s.length := by omega
  have hwr : wrap64 ((p : Int) + (d : Int)) = (e : Int) := by unfold wrap64; omega
  have HD : Hid (d = (dec1 (s.drop p)).2 ∧ p + d = e) := ⟨hd', he⟩
  clear hd' he hw
  go_wp2
  go_ret
  obtain ⟨h1, h2⟩ := HD.out
  refine ⟨?_, hb⟩
  rw [sb_cut, ← h2, rawAt, ← h1, List.drop_take, Nat.add_sub_cancel_left]
  rfl

theorem enc_cells {r : Nat} (h : r < 2048) : Lib.runeCells (r : Int) = Lib.byteCells (encR r) := by
  unfold Lib.runeCells Lib.byteCells encR
  by_cases h1 : r < 128
  · rw [Lib.encodeRuneZ_one (by omega) (by omega), if_pos h1]
    simp only [List.map_cons, List.map_nil]
    rw [UInt8.toNat_ofNat_of_lt' (by simp [UInt8.size]; omega)]
  · rw [Lib.encodeRuneZ_two (by omega) (by omega), if_neg h1]
    simp only [List.map_cons, List.map_nil]
    rw [UInt8.toNat_ofNat_of_lt' (by simp [UInt8.size]; omega), UInt8.toNat_ofNat_of_lt' (by simp [UInt8.size]; omega)]
    congr 3
theorem str_cells (l : List UInt8) : Lib.strCells (sb l) = Lib.byteCells l := by
  unfold Lib.strCells Lib.byteCells
  simp [sb]
theorem fold1_len (s : List UInt8) (x : Nat × Nat) (h : x.1 < s.length) : (fold1 s x).length ≤ 4 * (dec1 (s.drop x.1)).2 := by
  have hw := dec1_w (l := s.drop x.1) (by intro e; rw [List.drop_eq_nil_iff] at e; omega)
  unfold fold1
  split
  · unfold encR; split <;> simp <;> omega
  · rw [rawAt, List.length_take]; omega

set_option maxHeartbeats 8000000 in
set_option maxRecDepth 1000000 in
theorem fold_calls (s : List UInt8) (w : World) (hG : HTab w) (hs : s.length ≤ 1099511627776) :
    Calls Tryz.prog 57 #[.string (sb s)] w fun e w' => e = .returned (.string (sb (foldF s))) ∧ Below w.heap.size w w' := by
  have hsz : (sb s).size = s.length := sb_size s
  go_enter Tryz.func57, Tryz.ntmps57
  go_wp2
  go_loopw [] (fun wr => ∃ (pos : Nat) (acc : List UInt8), Lib.IsBuilderF 109 5 w.heap.size w.heap.size (Lib.byteCells acc) wr ∧ wr.heap[w.heap.size + 1]? = some (.stringIter (sb s) pos) ∧ Below w.heap.size w wr ∧ acc ++ foldT s (runesP s pos) = foldF s ∧ acc.length ≤ 4 * pos ∧ pos ≤ s.length) (fun wr => s.length - wr.iterPos (w.heap.size + 1))
  case atStart =>
    refine ⟨0, [], (Lib.IsBuilderF.of (Lib.fresh_isBuilder 109 5 w)).alloc _, ?_, ((Below.refl _ w).alloc (Nat.le_refl _) _).alloc (by simp) _, rfl, by simp, by omega⟩
    have := World.iter_heap (w.alloc (.cells #[.pointer none, .slice none 0 0] 109)) (sb s) 0
    simpa using this
  case round =>
    obtain ⟨pos, acc, hI, hit, hbw, hacc, hal, hps⟩ := hrel
    have hsz1 : w.heap.size + 1 < wr.heap.size := (Array.getElem?_eq_some_iff.1 hit).1
    by_cases hp : pos < s.length
    · have hnx : ∀ ty, (Instr.next (.pointer (some ⟨w.heap.size + 1, 0, none⟩)) true ty).run Tryz.prog wr = _ := fun ty => Lib.run_next_any_at wr (w.heap.size + 1) (sb s) pos ty hit (by rw [hsz]; exact hp)
      have hwd := decode_w s hp
      rw [runesP_step hp] at hacc
      have hd0 := decode_drop s pos
      have hlen := fold1_len s (pos, (Utf8.decode (sb s) pos).1) hp
      rw [← hd0] at hlen
      have hI2 := hI.iterAt hit (pos + (Utf8.decode (sb s) pos).2)
      have hit2 := Lib.iterAt_heap wr (w.heap.size + 1) (sb s) pos (pos + (Utf8.decode (sb s) pos).2) hit
      have hbw2 := Lib.below_iterAt hbw (k := w.heap.size + 1) (by omega) (sb s) (pos + (Utf8.decode (sb s) pos).2)
      have hsz2 : w.heap.size ≤ (wr.iterAt (w.heap.size + 1) (sb s) (pos + (Utf8.decode (sb s) pos).2)).heap.size := by rw [Lib.iterAt_size]; omega
      have hG2 := hG.below hbw2 (Nat.le_refl _)
      generalize hc : (Utf8.decode (sb s) pos).1 = c at *
      generalize hww : (Utf8.decode (sb s) pos).2 = d at *
      go_wp2_with (first | (go_at_call 70; refine (brune_calls w.heap.size w.heap.size _ _ ?_ ?_ _ hI2 ?_ hsz2).mono ?_) | (go_at_call 72; refine (raw_calls s pos _ hG2 hp hs).mono ?_))
      all_goals first | omega | (rw [Lib.byteCells_length]; omega) | skip
      all_goals first
        | (rintro e W1 ⟨rfl, h1, b1, k1⟩
           have hu : upR c = true := by
             simp only [upR, Bool.or_eq_true, Bool.and_eq_true, decide_eq_true_eq]
             (try simp only [bne_iff_ne, ne_eq, bne_eq_false_iff_eq] at *)
             omega
           have hc2 : c ≤ 969 ∧ 97 ≤ c := by simp [upR] at hu; omega
           have e1 : (c : Int) - 32 = ((c - 32 : Nat) : Int) := by omega
           simp only [fold1, hu, if_true] at hlen
           have HC : Hid (c ≤ 969 ∧ 97 ≤ c ∧ (c : Int) - 32 = ((c - 32 : Nat) : Int)) := ⟨hc2.1, hc2.2, e1⟩
           have HL : Hid ((encR (c - 32)).length ≤ 4 * d) := hlen
           have HA : Hid (acc ++ foldT s ((pos, c) :: runesP s (pos + d)) = foldF s) := hacc
           clear e1 hc2 hlen hacc
           go_wp2
           go_roundw
           case rel =>
             obtain ⟨g1, g2, g3⟩ := HC.out
             have g4 := HL.out
             refine ⟨pos + d, acc ++ encR (c - 32), ?_, k1.iter hit2 (by omega), hbw2.trans b1, ?_, ?_, by omega⟩
             · rw [Lib.byteCells_append, ← enc_cells (by omega), ← g3]; exact Or.inr h1
             · rw [← HA.out]; simp [foldT, fold1, hu]
             · rw [List.length_append]; omega
           case measure =>
             simp only [World.iterPos, k1.iter hit2 (by omega), hit]
             omega)
        | ((first | (rintro e W1 rfl hb1) | (rintro e W1 ⟨rfl, hb1⟩))
           have hu : upR c = false := by
             simp only [upR, Bool.or_eq_false_iff, Bool.and_eq_false_iff, decide_eq_false_iff_not]
             (try simp only [bne_iff_ne, ne_eq, bne_eq_false_iff_eq] at *)
             omega
           simp only [fold1, hu, Bool.false_eq_true, if_false] at hlen
           have hI3 := bldF_below hI2 hb1
           have hit3 : W1.heap[w.heap.size + 1]? = some (.stringIter (sb s) (pos + d)) := by rw [hb1.block _ (Array.getElem?_eq_some_iff.1 hit2).1]; exact hit2
           have hsz3 : w.heap.size ≤ W1.heap.size := by have := hb1.size; omega
           have hbw3 : Below w.heap.size w W1 := hbw2.trans (hb1.mono hsz2)
           have HL : Hid ((rawAt s pos).length ≤ 4 * d) := hlen
           have HA : Hid (acc ++ foldT s ((pos, c) :: runesP s (pos + d)) = foldF s) := hacc
           have hl2 : (Lib.byteCells acc).length + (sb (rawAt s pos)).size ≤ 140737488355328 := by rw [Lib.byteCells_length, sb_size]; omega
           clear hlen hacc
           go_wp2_with (go_at_call 71; refine (bstr_calls w.heap.size w.heap.size _ _ _ hI3 hl2 hsz3).mono ?_)
           rintro e W2 ⟨rfl, h1, b1, k1⟩
           go_wp2
           go_roundw
           case rel =>
             have g4 := HL.out
             refine ⟨pos + d, acc ++ rawAt s pos, ?_, k1.iter hit3 (by omega), hbw3.trans b1, ?_, ?_, by omega⟩
             · rw [Lib.byteCells_append, ← str_cells]; exact Or.inr h1
             · rw [← HA.out]; simp [foldT, fold1, hu]
             · rw [List.length_append]; omega
           case measure =>
             simp only [World.iterPos, k1.iter hit3 (by omega), hit]
             omega)
    · have hnx : ∀ ty, (Instr.next (.pointer (some ⟨w.heap.size + 1, 0, none⟩)) true ty).run Tryz.prog wr = _ := fun ty => Lib.run_next_end_at wr (w.heap.size + 1) (sb s) pos ty hit (by rw [hsz]; exact hp)
      go_wp2_with (go_at_call 73; refine (btell_calls w.heap.size w.heap.size acc _ hI (by omega)).mono ?_)
      rintro e W1 ⟨rfl, _, b1, _⟩
      go_wp2
      go_ret
      rw [runesP_end (by omega)] at hacc
      simp only [foldT, List.map_nil, List.flatten_nil, List.append_nil] at hacc
      subst hacc
      exact ⟨rfl, hbw.trans b1⟩

/-- A contract of a function whose arguments and results name no place, from how it is called. -/
theorem con_of_calls {P : Program} {f : FuncId} {ι : Type} {pat : ι → List V} {cnd : ι → Prop} {res : ι → V} (hbd : Cv.hasBody P f = true)
    (h : ∀ i, cnd i → ∀ (E : Ev) (w : World) (ys : List Value), HTab w → VRL E (pat i) ys → Calls P f ys.toArray w fun e w' => ∃ y, e = .returned y ∧ VR E (res i) y ∧ Below w.heap.size w w') : (con1 ι pat (fun _ => []) cnd res (fun _ => [])).ok P f := by
  intro i hc k L E w ys R hv
  refine does_call' hbd ((h i hc E w ys R.gtab hv).mono ?_)
  rintro e w' ⟨y, rfl, h1, h2⟩
  exact ⟨y, rfl, _, List.mem_singleton.2 rfl, (), trivial, E, Ev.le.refl _, h1, ⟨R.nx, R.hp.below h2⟩⟩
theorem fold_ok : foldC.ok Tryz.prog 57 := con_of_calls (by kernel_rfl) fun s hs E w ys hG hv => by
  simp only [VRL, VR, DR] at hv
  obtain ⟨y, _, rfl, ⟨rfl, _⟩, rfl⟩ := hv
  refine (fold_calls s w hG hs).mono ?_
  rintro e w' ⟨rfl, hb⟩
  exact ⟨_, rfl, by simp only [VR, DR]; exact ⟨trivial, rfl⟩, hb⟩

end Sx

namespace Sx
set_option linter.unusedVariables false
set_option maxRecDepth 100000
open Go Cv Go.Proofs

/-! ### Words and numbers -/
def tE (l : List (List UInt8)) : List (List D) := l.map fun w => [.v (.string (sb w))]
@[reducible] def tV (l : List (List UInt8)) : V := roV 1 (tE l)
structure WSt where
  words : List (List UInt8)
  at_ : List Int
  from_ : Int
  n : Nat
def WSt.step (s : List UInt8) (x : WSt) (r : Nat × Nat) : WSt :=
  if r.2 = 32 then (if 0 ≤ x.from_ then ⟨x.words ++ [(s.take r.1).drop x.from_.toNat], x.at_, -1, x.n + 1⟩ else ⟨x.words, x.at_, x.from_, x.n + 1⟩)
  else if x.from_ < 0 then ⟨x.words, x.at_ ++ [(x.n : Int)], r.1, x.n + 1⟩ else ⟨x.words, x.at_, x.from_, x.n + 1⟩
def wordsSt (s : List UInt8) : WSt := (runesP s 0).foldl (WSt.step s) ⟨[], [], -1, 0⟩
def wordsL (s : List UInt8) : List (List UInt8) := if 0 ≤ (wordsSt s).from_ then (wordsSt s).words ++ [s.drop (wordsSt s).from_.toNat] else (wordsSt s).words
def wordsA (s : List UInt8) : List Int := (wordsSt s).at_
def wordsC : Con := con1 (List UInt8) (fun s => [sV s]) (fun _ => []) (fun s => s.length ≤ 1048576) (fun s => .tup [tV (wordsL s), iV (wordsA s)]) (fun _ => [])

structure NSt where
  n : Int
  digits : Nat
  minus : Bool
def NSt.step (x : NSt) (r : Nat × Nat) : Option NSt :=
  if r.2 = 45 ∧ r.1 = 0 then some ⟨x.n, x.digits, true⟩ else if 48 ≤ r.2 ∧ r.2 ≤ 57 ∧ x.digits < 18 then some ⟨10 * x.n + ((r.2 : Int) - 48), x.digits + 1, x.minus⟩ else none
def nrun : NSt → List (Nat × Nat) → Option NSt
  | x, [] => some x
  | x, r :: l => match x.step r with
    | some y => nrun y l
    | none => none
def numF (s : List UInt8) : Int × Bool :=
  match nrun ⟨0, 0, false⟩ (runesP s 0) with
  | some x => (if x.minus = true then -x.n else x.n, decide (0 < x.digits))
  | none => (0, false)
def numC : Con := con1 (List UInt8) (fun s => [sV s]) (fun _ => []) (fun s => s.length ≤ 140737488355328) (fun s => .tup [i64V (numF s).1, boolV (numF s).2]) (fun _ => [])
def endC27 : Con := con1 (List UInt8) (fun s => [sV s]) (fun _ => []) (fun s => s.length ≤ 140737488355328) (fun s => i64V ((runes s).length : Nat)) (fun _ => [])

/-! ### A line that is gone through -/
structure Rdr where
  p : Prd
  words : List (List UInt8)
  at_ : List Int
  end_ : Int
  k : Nat
  why : Int
  place : Int
@[reducible] def tR : Nat := 72
def RdrU (r : Rdr) : Nat → AObj
  | 0 => .cells [sV r.p.code, .own 1, i64V r.p.tick, i64V r.p.low, i64V r.p.high, i64V r.p.wide, i64V r.p.rule, i64V r.p.top, i64V r.p.least, i64V r.p.part, .own 2, .own 3, .own 4, i64V r.end_, i64V r.k, i64V r.why, i64V r.place] tR
  | 1 => .fro 1 (iE r.p.months)
  | 2 => .fro 1 (iE r.p.settle)
  | 3 => .fro 1 (tE r.words)
  | 4 => .fro 1 (iE r.at_)
  | _ => .gone
@[reducible] def rdrRows (r : Rdr) : List AObj := [RdrU r 0, RdrU r 1, RdrU r 2, RdrU r 3, RdrU r 4]
@[reducible] def Rdr.ok (r : Rdr) : Prop := r.p.small ∧ r.at_.length = r.words.length ∧ r.words.length ≤ 1048576 ∧ r.k ≤ r.words.length ∧ ∀ w ∈ r.words, w.length ≤ 1048576
def Rdr.fail (r : Rdr) (why place : Int) : Rdr := if r.why = 0 then { r with why := why, place := place } else r
structure RfI where
  r : Rdr
  why : Int
  place : Int
def rfailC : Con := con1 RfI (fun i => [.nm 0 0, i64V i.why, i64V i.place]) (fun i => rdrRows (i.r)) (fun i => True) (fun _ => unitV) (fun i => rdrRows ((i.r.fail i.why i.place)))
def Rdr.more (r : Rdr) : Bool := decide (r.why = 0) && decide (r.k < r.words.length)
def rmoreC : Con := con1 Rdr (fun i => [.nm 0 0]) (fun i => rdrRows (i)) (fun i => i.ok) (fun i => boolV i.more) (fun i => rdrRows (i))
def Rdr.word (r : Rdr) : List UInt8 := if r.more = true then r.words.getD r.k [] else []
def Rdr.here (r : Rdr) : Int := if r.more = true then r.at_.getD r.k 0 else r.end_
def Rdr.next (r : Rdr) : Rdr := if r.more = true then { r with k := r.k + 1 } else r.fail 12 r.end_
def rnextC : Con := con1 Rdr (fun i => [.nm 0 0]) (fun i => rdrRows (i)) (fun i => i.ok) (fun i => .tup [sV i.word, i64V i.here]) (fun i => rdrRows (i.next))
def Rdr.num (r : Rdr) : Int := (numF r.word).1
def Rdr.numR (r : Rdr) : Rdr := if (numF r.word).2 = true then r.next else r.next.fail 12 r.here
def rnumC : Con := con1 Rdr (fun i => [.nm 0 0]) (fun i => rdrRows (i)) (fun i => i.ok) (fun i => i64V i.num) (fun i => rdrRows (i.numR))
def Rdr.must (r : Rdr) (w : List UInt8) : Rdr := if foldF r.word = w then r.next else r.next.fail 12 r.here
structure RmI where
  r : Rdr
  w : List UInt8
def rmustC : Con := con1 RmI (fun i => [.nm 0 0, sV i.w]) (fun i => rdrRows (i.r)) (fun i => i.r.ok) (fun _ => unitV) (fun i => rdrRows ((i.r.must i.w)))

/-! ### Commands -/
structure Cmd where
  kind : Int
  id : Int
  inst : Int
  side : Int
  price : Int
  qty : Int
  least : Int
  time : Int
  label : List UInt8
  deriving DecidableEq
@[reducible] def Cmd.cells (c : Cmd) : List V := [i64V c.kind, i64V c.id, i64V c.inst, i64V c.side, i64V c.price, i64V c.qty, i64V c.least, i64V c.time, sV c.label]
@[reducible] def cmdV (c : Cmd) : V := .agg c.cells
@[reducible] def cmdR (c : Cmd) : AObj := .cells c.cells 28
def cmd0 : Cmd := ⟨0, 0, 0, 0, 0, 0, 0, 0, []⟩

def wNOW : List UInt8 := [78, 79, 87]
def wWHOLE : List UInt8 := [87, 72, 79, 76, 69]
def wLEAST : List UInt8 := [76, 69, 65, 83, 84]
def wLABEL : List UInt8 := [76, 65, 66, 69, 76]
/-- What was read already. -/
def seenE (l : List (List UInt8)) : List (Value × List D) := l.map fun k => (.string (sb k), [.v (.bool true)])
structure Opt where
  r : Rdr
  c : Cmd
  seen : List (List UInt8)
def kindW (w : List UInt8) : List UInt8 := if w = wWHOLE then wNOW else w
def Opt.step (x : Opt) : Opt :=
  if kindW (foldF x.r.word) ∈ x.seen then ⟨x.r.next.fail 25 x.r.here, x.c, x.seen⟩
  else if foldF x.r.word = wLEAST then ⟨x.r.next.numR, { x.c with least := x.r.next.num }, x.seen ++ [kindW (foldF x.r.word)]⟩
  else if foldF x.r.word = wNOW then ⟨x.r.next, { x.c with time := 2 }, x.seen ++ [kindW (foldF x.r.word)]⟩
  else if foldF x.r.word = wWHOLE then ⟨x.r.next, { x.c with time := 3 }, x.seen ++ [kindW (foldF x.r.word)]⟩
  else if foldF x.r.word = wLABEL then ⟨if labOk x.r.next.word = true then x.r.next.next else x.r.next.next.fail 29 x.r.next.here, { x.c with label := x.r.next.word }, x.seen ++ [kindW (foldF x.r.word)]⟩
  else ⟨x.r.next.fail 12 x.r.here, x.c, x.seen ++ [kindW (foldF x.r.word)]⟩
def roptC : Con := con1 Opt (fun i => [.nm 0 0, .nm 5 0, .mp 6]) (fun i => rdrRows i.r ++ [cmdR i.c, .map (seenE i.seen)]) (fun i => i.r.ok) (fun _ => unitV) (fun i => rdrRows i.step.r ++ [cmdR i.step.c, .map (seenE i.step.seen)])
/-- All that is left, as far as it goes. -/
def Opt.run : Nat → Opt → Opt
  | 0, x => x
  | k + 1, x => if x.r.more = true then Opt.run k x.step else x

def price2 (n : Int) : Bool := decide (-2000000 ≤ n) && decide (n ≤ 2000000)
def quantB (n : Int) : Bool := decide (1 ≤ n) && decide (n ≤ 1000000)
def Cmd.orderE (c : Cmd) : Int :=
  if c.side ≠ 1 ∧ c.side ≠ 2 then 21 else if c.time < 1 ∨ 3 < c.time then 27 else if quantB c.qty = false then 24 else if c.least < 0 ∨ c.qty < c.least then 28
  else if c.label ≠ [] ∧ labOk c.label = false then 29 else if price2 c.price = false then 23 else if c.inst < 0 ∨ 255 < c.inst then 20 else 0
def Cmd.right (c : Cmd) : Int :=
  if c.kind < 1 ∨ 4 < c.kind then 31 else if c.id < 1 ∨ 1099511627776 < c.id then 1 else if c.kind = 1 then c.orderE
  else if c.kind ≠ 2 ∧ quantB c.qty = false then 24 else if c.kind = 4 ∧ price2 c.price = false then 23 else 0
def cmdOrdC : Con := con1 Cmd (fun c => [cmdV c]) (fun _ => []) (fun c => c.label.length ≤ 140737488355328) (fun c => i64V c.orderE) (fun _ => [])
def rightC : Con := con1 Cmd (fun c => [cmdV c]) (fun _ => []) (fun c => c.label.length ≤ 140737488355328) (fun c => i64V c.right) (fun _ => [])

/-! ### Loops and joins -/
def wordsLA (s : List UInt8) : List SAnn := [{ ι := Nat × WSt, slots := fun x => [(4, .own 1), (5, .own 2), (6, i64V x.2.from_), (7, i64V x.2.n), (11, .nm 0 0)], rows := fun x => [.iter (sb s) x.1, .own 9 1 (tE x.2.words), .own 3 1 (iE x.2.at_)] }]
def numLA (s : List UInt8) : List SAnn := [{ ι := Nat × NSt, slots := fun x => [(4, i64V x.2.n), (5, i64V x.2.digits), (6, boolV x.2.minus), (10, .nm 0 0)], rows := fun x => [.iter (sb s) x.1] }]
def tj (t : Nat) : SAnn := { ι := List UInt8, slots := fun k => [(t, sV k)], rows := fun _ => [] }

end Sx

namespace Sx
set_option linter.unusedVariables false
set_option maxRecDepth 100000
open Go Cv Go.Proofs
def Vwords (s : List UInt8) : Prop :=
  ∃ (i0 : Nat × WSt), i0.snd.from_ = (-1 : Int) ∧ (↑i0.snd.n : Int) = (0 : Int) ∧ sb s = sb s ∧ i0.fst = (0 : Nat) ∧ tE i0.snd.words = [] ∧ iE i0.snd.at_ = [] ∧ ∃ (I : Nat × WSt → Prop), ∃ (μ : Nat × WSt → Nat), I i0 ∧ ∀ (i : Nat × WSt), I i → cnd (i.fst.blt (sb s).size) (cnd ((↑(Utf8.decode (sb s) i.fst).fst : Int) == (32 : Int)) (cnd (decide (i.snd.from_ ≥ (0 : Int))) (((0 : Int) ≤ i.snd.from_ ∧ i.snd.from_ ≤ (↑i.fst : Int) ∧ (↑i.fst : Int) ≤ (↑(sb s).size : Int)) ∧ ((tE i.snd.words).length + (1 : Nat)) * (16 : Nat) ≤ (70368744177664 : Nat) ∧ ∃ (i' : Nat × WSt), i'.snd.from_ = (-1 : Int) ∧ (↑i'.snd.n : Int) = IntKind.i64.wrap ((↑i.snd.n : Int) + (1 : Int)) ∧ sb s = sb s ∧ i'.fst = i.fst + (Utf8.decode (sb s) i.fst).snd ∧ tE i'.snd.words = tE i.snd.words ++ [[D.v (Value.string ((sb s).extract i.snd.from_.toNat (↑i.fst : Int).toNat))]] ∧ iE i'.snd.at_ = iE i.snd.at_ ∧ I i' ∧ μ i' < μ i ∧ True) (cnd ((↑(Utf8.decode (sb s) i.fst).fst : Int) != (32 : Int)) (cnd (decide (i.snd.from_ < (0 : Int))) (((iE i.snd.at_).length + (1 : Nat)) * (8 : Nat) ≤ (70368744177664 : Nat) ∧ ∃ (i' : Nat × WSt), i'.snd.from_ = (↑i.fst : Int) ∧ (↑i'.snd.n : Int) = IntKind.i64.wrap ((↑i.snd.n : Int) + (1 : Int)) ∧ sb s = sb s ∧ i'.fst = i.fst + (Utf8.decode (sb s) i.fst).snd ∧ tE i'.snd.words = tE i.snd.words ∧ iE i'.snd.at_ = iE i.snd.at_ ++ [[D.v (.int .i64 (↑i.snd.n : Int))]] ∧ I i' ∧ μ i' < μ i ∧ True) (∃ (i' : Nat × WSt), i'.snd.from_ = i.snd.from_ ∧ (↑i'.snd.n : Int) = IntKind.i64.wrap ((↑i.snd.n : Int) + (1 : Int)) ∧ sb s = sb s ∧ i'.fst = i.fst + (Utf8.decode (sb s) i.fst).snd ∧ tE i'.snd.words = tE i.snd.words ∧ iE i'.snd.at_ = iE i.snd.at_ ∧ I i' ∧ μ i' < μ i ∧ True)) (∃ (i' : Nat × WSt), i'.snd.from_ = i.snd.from_ ∧ (↑i'.snd.n : Int) = IntKind.i64.wrap ((↑i.snd.n : Int) + (1 : Int)) ∧ sb s = sb s ∧ i'.fst = i.fst + (Utf8.decode (sb s) i.fst).snd ∧ tE i'.snd.words = tE i.snd.words ∧ iE i'.snd.at_ = iE i.snd.at_ ∧ I i' ∧ μ i' < μ i ∧ True))) (cnd ((↑(Utf8.decode (sb s) i.fst).fst : Int) != (32 : Int)) (cnd (decide (i.snd.from_ < (0 : Int))) (((iE i.snd.at_).length + (1 : Nat)) * (8 : Nat) ≤ (70368744177664 : Nat) ∧ ∃ (i' : Nat × WSt), i'.snd.from_ = (↑i.fst : Int) ∧ (↑i'.snd.n : Int) = IntKind.i64.wrap ((↑i.snd.n : Int) + (1 : Int)) ∧ sb s = sb s ∧ i'.fst = i.fst + (Utf8.decode (sb s) i.fst).snd ∧ tE i'.snd.words = tE i.snd.words ∧ iE i'.snd.at_ = iE i.snd.at_ ++ [[D.v (.int .i64 (↑i.snd.n : Int))]] ∧ I i' ∧ μ i' < μ i ∧ True) (∃ (i' : Nat × WSt), i'.snd.from_ = i.snd.from_ ∧ (↑i'.snd.n : Int) = IntKind.i64.wrap ((↑i.snd.n : Int) + (1 : Int)) ∧ sb s = sb s ∧ i'.fst = i.fst + (Utf8.decode (sb s) i.fst).snd ∧ tE i'.snd.words = tE i.snd.words ∧ iE i'.snd.at_ = iE i.snd.at_ ∧ I i' ∧ μ i' < μ i ∧ True)) (∃ (i' : Nat × WSt), i'.snd.from_ = i.snd.from_ ∧ (↑i'.snd.n : Int) = IntKind.i64.wrap ((↑i.snd.n : Int) + (1 : Int)) ∧ sb s = sb s ∧ i'.fst = i.fst + (Utf8.decode (sb s) i.fst).snd ∧ tE i'.snd.words = tE i.snd.words ∧ iE i'.snd.at_ = iE i.snd.at_ ∧ I i' ∧ μ i' < μ i ∧ True))) (cnd (decide (i.snd.from_ ≥ (0 : Int))) (((0 : Int) ≤ i.snd.from_ ∧ i.snd.from_ ≤ (↑(sb s).size : Int)) ∧ ((tE i.snd.words).length + (1 : Nat)) * (16 : Nat) ≤ (70368744177664 : Nat) ∧ ∃ (o : Unit), tE (wordsL s) = tE i.snd.words ++ [[D.v (Value.string ((sb s).extract i.snd.from_.toNat (sb s).size))]] ∧ iE (wordsA s) = iE i.snd.at_ ∧ True) (∃ (o : Unit), tE (wordsL s) = tE i.snd.words ∧ iE (wordsA s) = iE i.snd.at_ ∧ True))
theorem eqwords (s : List UInt8) : Vwords s = walk Tryz.prog ([]) 0 ([]) (wordsLA s) [] Tryz.f20 (Tryz.f20.body.getD .skip) (wordsC.pat s) (wordsC.pre s) (wordsC.alts s) := by kernel_rfl

theorem bywords (hG : GOk Tryz.prog ([])) (h : ∀ (s : List UInt8), wordsC.cnd s → Vwords s) : wordsC.ok Tryz.prog 20 := ok_of_walk mixed ([]) hG 0 (fun (s : List UInt8) => []) (fun (s : List UInt8) => wordsLA s) [] Tryz.func20 (by kernel_rfl) (by kernel_rfl) (by kernel_rfl) (fun _ => by kernel_rfl) (fun (s : List UInt8) hc => Eq.mp (eqwords s) (h s hc))

def Vnum (s : List UInt8) : Prop :=
  ∃ (i0 : Nat × NSt), i0.snd.n = (0 : Int) ∧ (↑i0.snd.digits : Int) = (0 : Int) ∧ i0.snd.minus = false ∧ sb s = sb s ∧ i0.fst = (0 : Nat) ∧ ∃ (I : Nat × NSt → Prop), ∃ (μ : Nat × NSt → Nat), I i0 ∧ ∀ (i : Nat × NSt), I i → cnd (i.fst.blt (sb s).size) (cnd ((↑(Utf8.decode (sb s) i.fst).fst : Int) == (45 : Int)) (cnd ((↑i.fst : Int) == (0 : Int)) (∃ (i' : Nat × NSt), i'.snd.n = i.snd.n ∧ (↑i'.snd.digits : Int) = (↑i.snd.digits : Int) ∧ i'.snd.minus = true ∧ sb s = sb s ∧ i'.fst = i.fst + (Utf8.decode (sb s) i.fst).snd ∧ I i' ∧ μ i' < μ i ∧ True) (cnd (decide ((↑(Utf8.decode (sb s) i.fst).fst : Int) ≥ (48 : Int))) (cnd (decide ((↑(Utf8.decode (sb s) i.fst).fst : Int) ≤ (57 : Int))) (cnd (decide ((↑i.snd.digits : Int) < (18 : Int))) (∃ (i' : Nat × NSt), i'.snd.n = IntKind.i64.wrap (IntKind.i64.wrap ((10 : Int) * i.snd.n) + IntKind.i64.wrap (IntKind.i32.wrap ((↑(Utf8.decode (sb s) i.fst).fst : Int) - (48 : Int)))) ∧ (↑i'.snd.digits : Int) = IntKind.i64.wrap ((↑i.snd.digits : Int) + (1 : Int)) ∧ i'.snd.minus = i.snd.minus ∧ sb s = sb s ∧ i'.fst = i.fst + (Utf8.decode (sb s) i.fst).snd ∧ I i' ∧ μ i' < μ i ∧ True) (∃ (o : Unit), (numF s).fst = (0 : Int) ∧ (numF s).snd = false ∧ True)) (∃ (o : Unit), (numF s).fst = (0 : Int) ∧ (numF s).snd = false ∧ True)) (∃ (o : Unit), (numF s).fst = (0 : Int) ∧ (numF s).snd = false ∧ True))) (cnd (decide ((↑(Utf8.decode (sb s) i.fst).fst : Int) ≥ (48 : Int))) (cnd (decide ((↑(Utf8.decode (sb s) i.fst).fst : Int) ≤ (57 : Int))) (cnd (decide ((↑i.snd.digits : Int) < (18 : Int))) (∃ (i' : Nat × NSt), i'.snd.n = IntKind.i64.wrap (IntKind.i64.wrap ((10 : Int) * i.snd.n) + IntKind.i64.wrap (IntKind.i32.wrap ((↑(Utf8.decode (sb s) i.fst).fst : Int) - (48 : Int)))) ∧ (↑i'.snd.digits : Int) = IntKind.i64.wrap ((↑i.snd.digits : Int) + (1 : Int)) ∧ i'.snd.minus = i.snd.minus ∧ sb s = sb s ∧ i'.fst = i.fst + (Utf8.decode (sb s) i.fst).snd ∧ I i' ∧ μ i' < μ i ∧ True) (∃ (o : Unit), (numF s).fst = (0 : Int) ∧ (numF s).snd = false ∧ True)) (∃ (o : Unit), (numF s).fst = (0 : Int) ∧ (numF s).snd = false ∧ True)) (∃ (o : Unit), (numF s).fst = (0 : Int) ∧ (numF s).snd = false ∧ True))) (cnd i.snd.minus (∃ (o : Unit), (numF s).fst = IntKind.i64.wrap ((0 : Int) - i.snd.n) ∧ (numF s).snd = decide ((↑i.snd.digits : Int) > (0 : Int)) ∧ True) (∃ (o : Unit), (numF s).fst = i.snd.n ∧ (numF s).snd = decide ((↑i.snd.digits : Int) > (0 : Int)) ∧ True))
theorem eqnum (s : List UInt8) : Vnum s = walk Tryz.prog ([]) 0 ([]) (numLA s) [] Tryz.f23 (Tryz.f23.body.getD .skip) (numC.pat s) (numC.pre s) (numC.alts s) := by kernel_rfl

theorem bynum (hG : GOk Tryz.prog ([])) (h : ∀ (s : List UInt8), numC.cnd s → Vnum s) : numC.ok Tryz.prog 23 := ok_of_walk mixed ([]) hG 0 (fun (s : List UInt8) => []) (fun (s : List UInt8) => numLA s) [] Tryz.func23 (by kernel_rfl) (by kernel_rfl) (by kernel_rfl) (fun _ => by kernel_rfl) (fun (s : List UInt8) hc => Eq.mp (eqnum s) (h s hc))

def Vend27 (s : List UInt8) : Prop :=
  ∃ (i : List UInt8), sb i = sb s ∧ i.length ≤ (140737488355328 : Nat) ∧ ∀ (o : Unit), True → ∃ (o : Unit), (↑(runes s).length : Int) = (↑(runes i).length : Int) ∧ True
theorem eqend27 (s : List UInt8) : Vend27 s = walk Tryz.prog ([(56, countC)]) 0 ([]) ([]) [] Tryz.f39 (Tryz.f39.body.getD .skip) (endC27.pat s) (endC27.pre s) (endC27.alts s) := by kernel_rfl

theorem byend27 (hG : GOk Tryz.prog ([(56, countC)])) (h : ∀ (s : List UInt8), endC27.cnd s → Vend27 s) : endC27.ok Tryz.prog 39 := ok_of_walk mixed ([(56, countC)]) hG 0 (fun (s : List UInt8) => []) (fun (s : List UInt8) => []) [] Tryz.func39 (by kernel_rfl) (by kernel_rfl) (by kernel_rfl) (fun _ => by kernel_rfl) (fun (s : List UInt8) hc => Eq.mp (eqend27 s) (h s hc))

def Vrfail (i : RfI) : Prop :=
  cnd (i.r.why == (0 : Int)) (∃ (o : Unit), sb (i.r.fail i.why i.place).p.code = sb i.r.p.code ∧ (i.r.fail i.why i.place).p.tick = i.r.p.tick ∧ (i.r.fail i.why i.place).p.low = i.r.p.low ∧ (i.r.fail i.why i.place).p.high = i.r.p.high ∧ (i.r.fail i.why i.place).p.wide = i.r.p.wide ∧ (i.r.fail i.why i.place).p.rule = i.r.p.rule ∧ (i.r.fail i.why i.place).p.top = i.r.p.top ∧ (i.r.fail i.why i.place).p.least = i.r.p.least ∧ (i.r.fail i.why i.place).p.part = i.r.p.part ∧ (i.r.fail i.why i.place).end_ = i.r.end_ ∧ (↑(i.r.fail i.why i.place).k : Int) = (↑i.r.k : Int) ∧ (i.r.fail i.why i.place).why = i.why ∧ (i.r.fail i.why i.place).place = i.place ∧ AObj.fro (1 : Nat) (iE (i.r.fail i.why i.place).p.months) = RdrU i.r (1 : Nat) ∧ AObj.fro (1 : Nat) (iE (i.r.fail i.why i.place).p.settle) = RdrU i.r (2 : Nat) ∧ AObj.fro (1 : Nat) (tE (i.r.fail i.why i.place).words) = RdrU i.r (3 : Nat) ∧ AObj.fro (1 : Nat) (iE (i.r.fail i.why i.place).at_) = RdrU i.r (4 : Nat) ∧ True) (∃ (o : Unit), sb (i.r.fail i.why i.place).p.code = sb i.r.p.code ∧ (i.r.fail i.why i.place).p.tick = i.r.p.tick ∧ (i.r.fail i.why i.place).p.low = i.r.p.low ∧ (i.r.fail i.why i.place).p.high = i.r.p.high ∧ (i.r.fail i.why i.place).p.wide = i.r.p.wide ∧ (i.r.fail i.why i.place).p.rule = i.r.p.rule ∧ (i.r.fail i.why i.place).p.top = i.r.p.top ∧ (i.r.fail i.why i.place).p.least = i.r.p.least ∧ (i.r.fail i.why i.place).p.part = i.r.p.part ∧ (i.r.fail i.why i.place).end_ = i.r.end_ ∧ (↑(i.r.fail i.why i.place).k : Int) = (↑i.r.k : Int) ∧ (i.r.fail i.why i.place).why = i.r.why ∧ (i.r.fail i.why i.place).place = i.r.place ∧ AObj.fro (1 : Nat) (iE (i.r.fail i.why i.place).p.months) = RdrU i.r (1 : Nat) ∧ AObj.fro (1 : Nat) (iE (i.r.fail i.why i.place).p.settle) = RdrU i.r (2 : Nat) ∧ AObj.fro (1 : Nat) (tE (i.r.fail i.why i.place).words) = RdrU i.r (3 : Nat) ∧ AObj.fro (1 : Nat) (iE (i.r.fail i.why i.place).at_) = RdrU i.r (4 : Nat) ∧ True)
theorem eqrfail (i : RfI) : Vrfail i = walk Tryz.prog ([]) 0 ([]) ([]) [] Tryz.f43 (Tryz.f43.body.getD .skip) (rfailC.pat i) (rfailC.pre i) (rfailC.alts i) := by kernel_rfl

theorem byrfail (hG : GOk Tryz.prog ([])) (h : ∀ (i : RfI), rfailC.cnd i → Vrfail i) : rfailC.ok Tryz.prog 43 := ok_of_walk mixed ([]) hG 0 (fun (i : RfI) => []) (fun (i : RfI) => []) [] Tryz.func43 (by kernel_rfl) (by kernel_rfl) (by kernel_rfl) (fun _ => by kernel_rfl) (fun (i : RfI) hc => Eq.mp (eqrfail i) (h i hc))

def Vrmore (i : Rdr) : Prop :=
  cnd (i.why == (0 : Int)) (∃ (o : Unit), i.more = decide ((↑i.k : Int) < (↑(tE i.words).length : Int)) ∧ sb i.p.code = sb i.p.code ∧ i.p.tick = i.p.tick ∧ i.p.low = i.p.low ∧ i.p.high = i.p.high ∧ i.p.wide = i.p.wide ∧ i.p.rule = i.p.rule ∧ i.p.top = i.p.top ∧ i.p.least = i.p.least ∧ i.p.part = i.p.part ∧ i.end_ = i.end_ ∧ (↑i.k : Int) = (↑i.k : Int) ∧ i.why = i.why ∧ i.place = i.place ∧ AObj.fro (1 : Nat) (iE i.p.months) = RdrU i (1 : Nat) ∧ AObj.fro (1 : Nat) (iE i.p.settle) = RdrU i (2 : Nat) ∧ AObj.fro (1 : Nat) (tE i.words) = RdrU i (3 : Nat) ∧ AObj.fro (1 : Nat) (iE i.at_) = RdrU i (4 : Nat) ∧ True) (∃ (o : Unit), i.more = false ∧ sb i.p.code = sb i.p.code ∧ i.p.tick = i.p.tick ∧ i.p.low = i.p.low ∧ i.p.high = i.p.high ∧ i.p.wide = i.p.wide ∧ i.p.rule = i.p.rule ∧ i.p.top = i.p.top ∧ i.p.least = i.p.least ∧ i.p.part = i.p.part ∧ i.end_ = i.end_ ∧ (↑i.k : Int) = (↑i.k : Int) ∧ i.why = i.why ∧ i.place = i.place ∧ AObj.fro (1 : Nat) (iE i.p.months) = RdrU i (1 : Nat) ∧ AObj.fro (1 : Nat) (iE i.p.settle) = RdrU i (2 : Nat) ∧ AObj.fro (1 : Nat) (tE i.words) = RdrU i (3 : Nat) ∧ AObj.fro (1 : Nat) (iE i.at_) = RdrU i (4 : Nat) ∧ True)
theorem eqrmore (i : Rdr) : Vrmore i = walk Tryz.prog ([]) 0 ([]) ([]) [] Tryz.f41 (Tryz.f41.body.getD .skip) (rmoreC.pat i) (rmoreC.pre i) (rmoreC.alts i) := by kernel_rfl

theorem byrmore (hG : GOk Tryz.prog ([])) (h : ∀ (i : Rdr), rmoreC.cnd i → Vrmore i) : rmoreC.ok Tryz.prog 41 := ok_of_walk mixed ([]) hG 0 (fun (i : Rdr) => []) (fun (i : Rdr) => []) [] Tryz.func41 (by kernel_rfl) (by kernel_rfl) (by kernel_rfl) (fun _ => by kernel_rfl) (fun (i : Rdr) hc => Eq.mp (eqrmore i) (h i hc))

def Vrnext (i : Rdr) : Prop :=
  ∃ (i_1 : Rdr), sb i_1.p.code = sb i.p.code ∧ i_1.p.tick = i.p.tick ∧ i_1.p.low = i.p.low ∧ i_1.p.high = i.p.high ∧ i_1.p.wide = i.p.wide ∧ i_1.p.rule = i.p.rule ∧ i_1.p.top = i.p.top ∧ i_1.p.least = i.p.least ∧ i_1.p.part = i.p.part ∧ i_1.end_ = i.end_ ∧ (↑i_1.k : Int) = (↑i.k : Int) ∧ i_1.why = i.why ∧ i_1.place = i.place ∧ AObj.fro (1 : Nat) (iE i_1.p.months) = RdrU i (1 : Nat) ∧ AObj.fro (1 : Nat) (iE i_1.p.settle) = RdrU i (2 : Nat) ∧ AObj.fro (1 : Nat) (tE i_1.words) = RdrU i (3 : Nat) ∧ AObj.fro (1 : Nat) (iE i_1.at_) = RdrU i (4 : Nat) ∧ ((i_1.p.code.length ≤ (140737488355328 : Nat) ∧ i_1.p.months.length ≤ (140737488355328 : Nat) ∧ i_1.p.settle.length ≤ (140737488355328 : Nat)) ∧ i_1.at_.length = i_1.words.length ∧ i_1.words.length ≤ (1048576 : Nat) ∧ i_1.k ≤ i_1.words.length ∧ ∀ (w : List UInt8), w ∈ i_1.words → w.length ≤ (1048576 : Nat)) ∧ ∀ (o : Unit), True → cnd (!i_1.more) (∃ (i_2 : RfI), i_2.why = (12 : Int) ∧ i_2.place = i_1.end_ ∧ sb i_2.r.p.code = sb i_1.p.code ∧ i_2.r.p.tick = i_1.p.tick ∧ i_2.r.p.low = i_1.p.low ∧ i_2.r.p.high = i_1.p.high ∧ i_2.r.p.wide = i_1.p.wide ∧ i_2.r.p.rule = i_1.p.rule ∧ i_2.r.p.top = i_1.p.top ∧ i_2.r.p.least = i_1.p.least ∧ i_2.r.p.part = i_1.p.part ∧ i_2.r.end_ = i_1.end_ ∧ (↑i_2.r.k : Int) = (↑i_1.k : Int) ∧ i_2.r.why = i_1.why ∧ i_2.r.place = i_1.place ∧ AObj.fro (1 : Nat) (iE i_2.r.p.months) = AObj.fro (1 : Nat) (iE i_1.p.months) ∧ AObj.fro (1 : Nat) (iE i_2.r.p.settle) = AObj.fro (1 : Nat) (iE i_1.p.settle) ∧ AObj.fro (1 : Nat) (tE i_2.r.words) = AObj.fro (1 : Nat) (tE i_1.words) ∧ AObj.fro (1 : Nat) (iE i_2.r.at_) = AObj.fro (1 : Nat) (iE i_1.at_) ∧ True ∧ ∀ (o : Unit), True → ∃ (o : Unit), sb i.word = ByteArray.mk #[] ∧ i.here = (i_2.r.fail i_2.why i_2.place).end_ ∧ sb i.next.p.code = sb (i_2.r.fail i_2.why i_2.place).p.code ∧ i.next.p.tick = (i_2.r.fail i_2.why i_2.place).p.tick ∧ i.next.p.low = (i_2.r.fail i_2.why i_2.place).p.low ∧ i.next.p.high = (i_2.r.fail i_2.why i_2.place).p.high ∧ i.next.p.wide = (i_2.r.fail i_2.why i_2.place).p.wide ∧ i.next.p.rule = (i_2.r.fail i_2.why i_2.place).p.rule ∧ i.next.p.top = (i_2.r.fail i_2.why i_2.place).p.top ∧ i.next.p.least = (i_2.r.fail i_2.why i_2.place).p.least ∧ i.next.p.part = (i_2.r.fail i_2.why i_2.place).p.part ∧ i.next.end_ = (i_2.r.fail i_2.why i_2.place).end_ ∧ (↑i.next.k : Int) = (↑(i_2.r.fail i_2.why i_2.place).k : Int) ∧ i.next.why = (i_2.r.fail i_2.why i_2.place).why ∧ i.next.place = (i_2.r.fail i_2.why i_2.place).place ∧ AObj.fro (1 : Nat) (iE i.next.p.months) = AObj.fro (1 : Nat) (iE (i_2.r.fail i_2.why i_2.place).p.months) ∧ AObj.fro (1 : Nat) (iE i.next.p.settle) = AObj.fro (1 : Nat) (iE (i_2.r.fail i_2.why i_2.place).p.settle) ∧ AObj.fro (1 : Nat) (tE i.next.words) = AObj.fro (1 : Nat) (tE (i_2.r.fail i_2.why i_2.place).words) ∧ AObj.fro (1 : Nat) (iE i.next.at_) = AObj.fro (1 : Nat) (iE (i_2.r.fail i_2.why i_2.place).at_) ∧ True) (((0 : Int) ≤ IntKind.i64.wrap (IntKind.i64.wrap ((↑i_1.k : Int) + (1 : Int)) - (1 : Int)) ∧ IntKind.i64.wrap (IntKind.i64.wrap ((↑i_1.k : Int) + (1 : Int)) - (1 : Int)) < (↑(tE i_1.words).length : Int)) ∧ ∃ (s : ByteArray), elPart (tE i_1.words) (IntKind.i64.wrap (IntKind.i64.wrap ((↑i_1.k : Int) + (1 : Int)) - (1 : Int))).toNat (0 : Nat) (1 : Nat) = some [D.v (Value.string s)] ∧ ((0 : Int) ≤ IntKind.i64.wrap (IntKind.i64.wrap ((↑i_1.k : Int) + (1 : Int)) - (1 : Int)) ∧ IntKind.i64.wrap (IntKind.i64.wrap ((↑i_1.k : Int) + (1 : Int)) - (1 : Int)) < (↑(iE i_1.at_).length : Int)) ∧ ∃ (n : Int), elPart (iE i_1.at_) (IntKind.i64.wrap (IntKind.i64.wrap ((↑i_1.k : Int) + (1 : Int)) - (1 : Int))).toNat (0 : Nat) (1 : Nat) = some [D.v (.int .i64 n)] ∧ ∃ (o : Unit), sb i.word = s ∧ i.here = n ∧ sb i.next.p.code = sb i_1.p.code ∧ i.next.p.tick = i_1.p.tick ∧ i.next.p.low = i_1.p.low ∧ i.next.p.high = i_1.p.high ∧ i.next.p.wide = i_1.p.wide ∧ i.next.p.rule = i_1.p.rule ∧ i.next.p.top = i_1.p.top ∧ i.next.p.least = i_1.p.least ∧ i.next.p.part = i_1.p.part ∧ i.next.end_ = i_1.end_ ∧ (↑i.next.k : Int) = IntKind.i64.wrap ((↑i_1.k : Int) + (1 : Int)) ∧ i.next.why = i_1.why ∧ i.next.place = i_1.place ∧ AObj.fro (1 : Nat) (iE i.next.p.months) = AObj.fro (1 : Nat) (iE i_1.p.months) ∧ AObj.fro (1 : Nat) (iE i.next.p.settle) = AObj.fro (1 : Nat) (iE i_1.p.settle) ∧ AObj.fro (1 : Nat) (tE i.next.words) = AObj.fro (1 : Nat) (tE i_1.words) ∧ AObj.fro (1 : Nat) (iE i.next.at_) = AObj.fro (1 : Nat) (iE i_1.at_) ∧ True)
theorem eqrnext (i : Rdr) : Vrnext i = walk Tryz.prog ([(41, rmoreC), (43, rfailC)]) 0 ([]) ([]) [] Tryz.f42 (Tryz.f42.body.getD .skip) (rnextC.pat i) (rnextC.pre i) (rnextC.alts i) := by kernel_rfl

theorem byrnext (hG : GOk Tryz.prog ([(41, rmoreC), (43, rfailC)])) (h : ∀ (i : Rdr), rnextC.cnd i → Vrnext i) : rnextC.ok Tryz.prog 42 := ok_of_walk mixed ([(41, rmoreC), (43, rfailC)]) hG 0 (fun (i : Rdr) => []) (fun (i : Rdr) => []) [] Tryz.func42 (by kernel_rfl) (by kernel_rfl) (by kernel_rfl) (fun _ => by kernel_rfl) (fun (i : Rdr) hc => Eq.mp (eqrnext i) (h i hc))

def Vrnum (i : Rdr) : Prop :=
  ∃ (i_1 : Rdr), sb i_1.p.code = sb i.p.code ∧ i_1.p.tick = i.p.tick ∧ i_1.p.low = i.p.low ∧ i_1.p.high = i.p.high ∧ i_1.p.wide = i.p.wide ∧ i_1.p.rule = i.p.rule ∧ i_1.p.top = i.p.top ∧ i_1.p.least = i.p.least ∧ i_1.p.part = i.p.part ∧ i_1.end_ = i.end_ ∧ (↑i_1.k : Int) = (↑i.k : Int) ∧ i_1.why = i.why ∧ i_1.place = i.place ∧ AObj.fro (1 : Nat) (iE i_1.p.months) = RdrU i (1 : Nat) ∧ AObj.fro (1 : Nat) (iE i_1.p.settle) = RdrU i (2 : Nat) ∧ AObj.fro (1 : Nat) (tE i_1.words) = RdrU i (3 : Nat) ∧ AObj.fro (1 : Nat) (iE i_1.at_) = RdrU i (4 : Nat) ∧ ((i_1.p.code.length ≤ (140737488355328 : Nat) ∧ i_1.p.months.length ≤ (140737488355328 : Nat) ∧ i_1.p.settle.length ≤ (140737488355328 : Nat)) ∧ i_1.at_.length = i_1.words.length ∧ i_1.words.length ≤ (1048576 : Nat) ∧ i_1.k ≤ i_1.words.length ∧ ∀ (w : List UInt8), w ∈ i_1.words → w.length ≤ (1048576 : Nat)) ∧ ∀ (o : Unit), True → ∃ (i_2 : List UInt8), sb i_2 = sb i_1.word ∧ i_2.length ≤ (140737488355328 : Nat) ∧ ∀ (o : Unit), True → cnd (!(numF i_2).snd) (∃ (i_3 : RfI), i_3.why = (12 : Int) ∧ i_3.place = i_1.here ∧ sb i_3.r.p.code = sb i_1.next.p.code ∧ i_3.r.p.tick = i_1.next.p.tick ∧ i_3.r.p.low = i_1.next.p.low ∧ i_3.r.p.high = i_1.next.p.high ∧ i_3.r.p.wide = i_1.next.p.wide ∧ i_3.r.p.rule = i_1.next.p.rule ∧ i_3.r.p.top = i_1.next.p.top ∧ i_3.r.p.least = i_1.next.p.least ∧ i_3.r.p.part = i_1.next.p.part ∧ i_3.r.end_ = i_1.next.end_ ∧ (↑i_3.r.k : Int) = (↑i_1.next.k : Int) ∧ i_3.r.why = i_1.next.why ∧ i_3.r.place = i_1.next.place ∧ AObj.fro (1 : Nat) (iE i_3.r.p.months) = AObj.fro (1 : Nat) (iE i_1.next.p.months) ∧ AObj.fro (1 : Nat) (iE i_3.r.p.settle) = AObj.fro (1 : Nat) (iE i_1.next.p.settle) ∧ AObj.fro (1 : Nat) (tE i_3.r.words) = AObj.fro (1 : Nat) (tE i_1.next.words) ∧ AObj.fro (1 : Nat) (iE i_3.r.at_) = AObj.fro (1 : Nat) (iE i_1.next.at_) ∧ True ∧ ∀ (o : Unit), True → ∃ (o : Unit), i.num = (numF i_2).fst ∧ sb i.numR.p.code = sb (i_3.r.fail i_3.why i_3.place).p.code ∧ i.numR.p.tick = (i_3.r.fail i_3.why i_3.place).p.tick ∧ i.numR.p.low = (i_3.r.fail i_3.why i_3.place).p.low ∧ i.numR.p.high = (i_3.r.fail i_3.why i_3.place).p.high ∧ i.numR.p.wide = (i_3.r.fail i_3.why i_3.place).p.wide ∧ i.numR.p.rule = (i_3.r.fail i_3.why i_3.place).p.rule ∧ i.numR.p.top = (i_3.r.fail i_3.why i_3.place).p.top ∧ i.numR.p.least = (i_3.r.fail i_3.why i_3.place).p.least ∧ i.numR.p.part = (i_3.r.fail i_3.why i_3.place).p.part ∧ i.numR.end_ = (i_3.r.fail i_3.why i_3.place).end_ ∧ (↑i.numR.k : Int) = (↑(i_3.r.fail i_3.why i_3.place).k : Int) ∧ i.numR.why = (i_3.r.fail i_3.why i_3.place).why ∧ i.numR.place = (i_3.r.fail i_3.why i_3.place).place ∧ AObj.fro (1 : Nat) (iE i.numR.p.months) = AObj.fro (1 : Nat) (iE (i_3.r.fail i_3.why i_3.place).p.months) ∧ AObj.fro (1 : Nat) (iE i.numR.p.settle) = AObj.fro (1 : Nat) (iE (i_3.r.fail i_3.why i_3.place).p.settle) ∧ AObj.fro (1 : Nat) (tE i.numR.words) = AObj.fro (1 : Nat) (tE (i_3.r.fail i_3.why i_3.place).words) ∧ AObj.fro (1 : Nat) (iE i.numR.at_) = AObj.fro (1 : Nat) (iE (i_3.r.fail i_3.why i_3.place).at_) ∧ True) (∃ (o : Unit), i.num = (numF i_2).fst ∧ sb i.numR.p.code = sb i_1.next.p.code ∧ i.numR.p.tick = i_1.next.p.tick ∧ i.numR.p.low = i_1.next.p.low ∧ i.numR.p.high = i_1.next.p.high ∧ i.numR.p.wide = i_1.next.p.wide ∧ i.numR.p.rule = i_1.next.p.rule ∧ i.numR.p.top = i_1.next.p.top ∧ i.numR.p.least = i_1.next.p.least ∧ i.numR.p.part = i_1.next.p.part ∧ i.numR.end_ = i_1.next.end_ ∧ (↑i.numR.k : Int) = (↑i_1.next.k : Int) ∧ i.numR.why = i_1.next.why ∧ i.numR.place = i_1.next.place ∧ AObj.fro (1 : Nat) (iE i.numR.p.months) = AObj.fro (1 : Nat) (iE i_1.next.p.months) ∧ AObj.fro (1 : Nat) (iE i.numR.p.settle) = AObj.fro (1 : Nat) (iE i_1.next.p.settle) ∧ AObj.fro (1 : Nat) (tE i.numR.words) = AObj.fro (1 : Nat) (tE i_1.next.words) ∧ AObj.fro (1 : Nat) (iE i.numR.at_) = AObj.fro (1 : Nat) (iE i_1.next.at_) ∧ True)
theorem eqrnum (i : Rdr) : Vrnum i = walk Tryz.prog ([(42, rnextC), (23, numC), (43, rfailC)]) 0 ([]) ([]) [] Tryz.f58 (Tryz.f58.body.getD .skip) (rnumC.pat i) (rnumC.pre i) (rnumC.alts i) := by kernel_rfl

theorem byrnum (hG : GOk Tryz.prog ([(42, rnextC), (23, numC), (43, rfailC)])) (h : ∀ (i : Rdr), rnumC.cnd i → Vrnum i) : rnumC.ok Tryz.prog 58 := ok_of_walk mixed ([(42, rnextC), (23, numC), (43, rfailC)]) hG 0 (fun (i : Rdr) => []) (fun (i : Rdr) => []) [] Tryz.func58 (by kernel_rfl) (by kernel_rfl) (by kernel_rfl) (fun _ => by kernel_rfl) (fun (i : Rdr) hc => Eq.mp (eqrnum i) (h i hc))

def Vrmust (i : RmI) : Prop :=
  ∃ (i_1 : Rdr), sb i_1.p.code = sb i.r.p.code ∧ i_1.p.tick = i.r.p.tick ∧ i_1.p.low = i.r.p.low ∧ i_1.p.high = i.r.p.high ∧ i_1.p.wide = i.r.p.wide ∧ i_1.p.rule = i.r.p.rule ∧ i_1.p.top = i.r.p.top ∧ i_1.p.least = i.r.p.least ∧ i_1.p.part = i.r.p.part ∧ i_1.end_ = i.r.end_ ∧ (↑i_1.k : Int) = (↑i.r.k : Int) ∧ i_1.why = i.r.why ∧ i_1.place = i.r.place ∧ AObj.fro (1 : Nat) (iE i_1.p.months) = RdrU i.r (1 : Nat) ∧ AObj.fro (1 : Nat) (iE i_1.p.settle) = RdrU i.r (2 : Nat) ∧ AObj.fro (1 : Nat) (tE i_1.words) = RdrU i.r (3 : Nat) ∧ AObj.fro (1 : Nat) (iE i_1.at_) = RdrU i.r (4 : Nat) ∧ ((i_1.p.code.length ≤ (140737488355328 : Nat) ∧ i_1.p.months.length ≤ (140737488355328 : Nat) ∧ i_1.p.settle.length ≤ (140737488355328 : Nat)) ∧ i_1.at_.length = i_1.words.length ∧ i_1.words.length ≤ (1048576 : Nat) ∧ i_1.k ≤ i_1.words.length ∧ ∀ (w : List UInt8), w ∈ i_1.words → w.length ≤ (1048576 : Nat)) ∧ ∀ (o : Unit), True → ∃ (i_2 : List UInt8), sb i_2 = sb i_1.word ∧ i_2.length ≤ (1099511627776 : Nat) ∧ ∀ (o : Unit), True → cnd (!(sb (foldF i_2)).toList == (sb i.w).toList) (∃ (i_3 : RfI), i_3.why = (12 : Int) ∧ i_3.place = i_1.here ∧ sb i_3.r.p.code = sb i_1.next.p.code ∧ i_3.r.p.tick = i_1.next.p.tick ∧ i_3.r.p.low = i_1.next.p.low ∧ i_3.r.p.high = i_1.next.p.high ∧ i_3.r.p.wide = i_1.next.p.wide ∧ i_3.r.p.rule = i_1.next.p.rule ∧ i_3.r.p.top = i_1.next.p.top ∧ i_3.r.p.least = i_1.next.p.least ∧ i_3.r.p.part = i_1.next.p.part ∧ i_3.r.end_ = i_1.next.end_ ∧ (↑i_3.r.k : Int) = (↑i_1.next.k : Int) ∧ i_3.r.why = i_1.next.why ∧ i_3.r.place = i_1.next.place ∧ AObj.fro (1 : Nat) (iE i_3.r.p.months) = AObj.fro (1 : Nat) (iE i_1.next.p.months) ∧ AObj.fro (1 : Nat) (iE i_3.r.p.settle) = AObj.fro (1 : Nat) (iE i_1.next.p.settle) ∧ AObj.fro (1 : Nat) (tE i_3.r.words) = AObj.fro (1 : Nat) (tE i_1.next.words) ∧ AObj.fro (1 : Nat) (iE i_3.r.at_) = AObj.fro (1 : Nat) (iE i_1.next.at_) ∧ True ∧ ∀ (o : Unit), True → ∃ (o : Unit), sb (i.r.must i.w).p.code = sb (i_3.r.fail i_3.why i_3.place).p.code ∧ (i.r.must i.w).p.tick = (i_3.r.fail i_3.why i_3.place).p.tick ∧ (i.r.must i.w).p.low = (i_3.r.fail i_3.why i_3.place).p.low ∧ (i.r.must i.w).p.high = (i_3.r.fail i_3.why i_3.place).p.high ∧ (i.r.must i.w).p.wide = (i_3.r.fail i_3.why i_3.place).p.wide ∧ (i.r.must i.w).p.rule = (i_3.r.fail i_3.why i_3.place).p.rule ∧ (i.r.must i.w).p.top = (i_3.r.fail i_3.why i_3.place).p.top ∧ (i.r.must i.w).p.least = (i_3.r.fail i_3.why i_3.place).p.least ∧ (i.r.must i.w).p.part = (i_3.r.fail i_3.why i_3.place).p.part ∧ (i.r.must i.w).end_ = (i_3.r.fail i_3.why i_3.place).end_ ∧ (↑(i.r.must i.w).k : Int) = (↑(i_3.r.fail i_3.why i_3.place).k : Int) ∧ (i.r.must i.w).why = (i_3.r.fail i_3.why i_3.place).why ∧ (i.r.must i.w).place = (i_3.r.fail i_3.why i_3.place).place ∧ AObj.fro (1 : Nat) (iE (i.r.must i.w).p.months) = AObj.fro (1 : Nat) (iE (i_3.r.fail i_3.why i_3.place).p.months) ∧ AObj.fro (1 : Nat) (iE (i.r.must i.w).p.settle) = AObj.fro (1 : Nat) (iE (i_3.r.fail i_3.why i_3.place).p.settle) ∧ AObj.fro (1 : Nat) (tE (i.r.must i.w).words) = AObj.fro (1 : Nat) (tE (i_3.r.fail i_3.why i_3.place).words) ∧ AObj.fro (1 : Nat) (iE (i.r.must i.w).at_) = AObj.fro (1 : Nat) (iE (i_3.r.fail i_3.why i_3.place).at_) ∧ True) (∃ (o : Unit), sb (i.r.must i.w).p.code = sb i_1.next.p.code ∧ (i.r.must i.w).p.tick = i_1.next.p.tick ∧ (i.r.must i.w).p.low = i_1.next.p.low ∧ (i.r.must i.w).p.high = i_1.next.p.high ∧ (i.r.must i.w).p.wide = i_1.next.p.wide ∧ (i.r.must i.w).p.rule = i_1.next.p.rule ∧ (i.r.must i.w).p.top = i_1.next.p.top ∧ (i.r.must i.w).p.least = i_1.next.p.least ∧ (i.r.must i.w).p.part = i_1.next.p.part ∧ (i.r.must i.w).end_ = i_1.next.end_ ∧ (↑(i.r.must i.w).k : Int) = (↑i_1.next.k : Int) ∧ (i.r.must i.w).why = i_1.next.why ∧ (i.r.must i.w).place = i_1.next.place ∧ AObj.fro (1 : Nat) (iE (i.r.must i.w).p.months) = AObj.fro (1 : Nat) (iE i_1.next.p.months) ∧ AObj.fro (1 : Nat) (iE (i.r.must i.w).p.settle) = AObj.fro (1 : Nat) (iE i_1.next.p.settle) ∧ AObj.fro (1 : Nat) (tE (i.r.must i.w).words) = AObj.fro (1 : Nat) (tE i_1.next.words) ∧ AObj.fro (1 : Nat) (iE (i.r.must i.w).at_) = AObj.fro (1 : Nat) (iE i_1.next.at_) ∧ True)
theorem eqrmust (i : RmI) : Vrmust i = walk Tryz.prog ([(42, rnextC), (57, foldC), (43, rfailC)]) 0 ([]) ([]) [] Tryz.f75 (Tryz.f75.body.getD .skip) (rmustC.pat i) (rmustC.pre i) (rmustC.alts i) := by kernel_rfl

theorem byrmust (hG : GOk Tryz.prog ([(42, rnextC), (57, foldC), (43, rfailC)])) (h : ∀ (i : RmI), rmustC.cnd i → Vrmust i) : rmustC.ok Tryz.prog 75 := ok_of_walk mixed ([(42, rnextC), (57, foldC), (43, rfailC)]) hG 0 (fun (i : RmI) => []) (fun (i : RmI) => []) [] Tryz.func75 (by kernel_rfl) (by kernel_rfl) (by kernel_rfl) (fun _ => by kernel_rfl) (fun (i : RmI) hc => Eq.mp (eqrmust i) (h i hc))

@[reducible] def Vroptr0 (i_1 : Rdr) : AObj := Sx.AObj.cells (renL (newNM (5 : Nat) (7 : Nat) ((5 : Nat) - (5 : Nat)) [((4 : Nat), (4 : Nat)), ((3 : Nat), (3 : Nat)), ((2 : Nat), (2 : Nat)), ((1 : Nat), (1 : Nat)), ((0 : Nat), (0 : Nat))]) [sV i_1.next.p.code, V.own (1 : Nat), i64V i_1.next.p.tick, i64V i_1.next.p.low, i64V i_1.next.p.high, i64V i_1.next.p.wide, i64V i_1.next.p.rule, i64V i_1.next.p.top, i64V i_1.next.p.least, i64V i_1.next.p.part, V.own (2 : Nat), V.own (3 : Nat), V.own (4 : Nat), i64V i_1.next.end_, i64V (↑i_1.next.k : Int), i64V i_1.next.why, i64V i_1.next.place]) tR
def Vropt (i : Opt) : Prop :=
  ∃ (i_1 : Rdr), sb i_1.p.code = sb i.r.p.code ∧ i_1.p.tick = i.r.p.tick ∧ i_1.p.low = i.r.p.low ∧ i_1.p.high = i.r.p.high ∧ i_1.p.wide = i.r.p.wide ∧ i_1.p.rule = i.r.p.rule ∧ i_1.p.top = i.r.p.top ∧ i_1.p.least = i.r.p.least ∧ i_1.p.part = i.r.p.part ∧ i_1.end_ = i.r.end_ ∧ (↑i_1.k : Int) = (↑i.r.k : Int) ∧ i_1.why = i.r.why ∧ i_1.place = i.r.place ∧ AObj.fro (1 : Nat) (iE i_1.p.months) = RdrU i.r (1 : Nat) ∧ AObj.fro (1 : Nat) (iE i_1.p.settle) = RdrU i.r (2 : Nat) ∧ AObj.fro (1 : Nat) (tE i_1.words) = RdrU i.r (3 : Nat) ∧ AObj.fro (1 : Nat) (iE i_1.at_) = RdrU i.r (4 : Nat) ∧ ((i_1.p.code.length ≤ (140737488355328 : Nat) ∧ i_1.p.months.length ≤ (140737488355328 : Nat) ∧ i_1.p.settle.length ≤ (140737488355328 : Nat)) ∧ i_1.at_.length = i_1.words.length ∧ i_1.words.length ≤ (1048576 : Nat) ∧ i_1.k ≤ i_1.words.length ∧ ∀ (w : List UInt8), w ∈ i_1.words → w.length ≤ (1048576 : Nat)) ∧ ∀ (o : Unit), True → ∃ (i_2 : List UInt8), sb i_2 = sb i_1.word ∧ i_2.length ≤ (1099511627776 : Nat) ∧ ∀ (o : Unit), True → ∃ (i0 : List UInt8), ∃ (I : List UInt8 → Prop), cnd ((sb (foldF i_2)).toList == (ByteArray.mk #[(87 : UInt8), (72 : UInt8), (79 : UInt8), (76 : UInt8), (69 : UInt8)]).toList) (∃ (i' : List UInt8), sb i' = ByteArray.mk #[(78 : UInt8), (79 : UInt8), (87 : UInt8)] ∧ I i' ∧ Vroptr0 i_1 = Vroptr0 i_1 ∧ AObj.fro (1 : Nat) (iE i_1.next.p.months) = AObj.fro (1 : Nat) (iE i_1.next.p.months) ∧ AObj.fro (1 : Nat) (iE i_1.next.p.settle) = AObj.fro (1 : Nat) (iE i_1.next.p.settle) ∧ AObj.fro (1 : Nat) (tE i_1.next.words) = AObj.fro (1 : Nat) (tE i_1.next.words) ∧ AObj.fro (1 : Nat) (iE i_1.next.at_) = AObj.fro (1 : Nat) (iE i_1.next.at_) ∧ RdrU i.r (1 : Nat) = RdrU i.r (1 : Nat) ∧ RdrU i.r (2 : Nat) = RdrU i.r (2 : Nat) ∧ RdrU i.r (3 : Nat) = RdrU i.r (3 : Nat) ∧ RdrU i.r (4 : Nat) = RdrU i.r (4 : Nat) ∧ cmdR i.c = cmdR i.c ∧ Sx.AObj.map (seenE i.seen) = Sx.AObj.map (seenE i.seen)) (∃ (i' : List UInt8), sb i' = sb (foldF i_2) ∧ I i' ∧ Vroptr0 i_1 = Vroptr0 i_1 ∧ AObj.fro (1 : Nat) (iE i_1.next.p.months) = AObj.fro (1 : Nat) (iE i_1.next.p.months) ∧ AObj.fro (1 : Nat) (iE i_1.next.p.settle) = AObj.fro (1 : Nat) (iE i_1.next.p.settle) ∧ AObj.fro (1 : Nat) (tE i_1.next.words) = AObj.fro (1 : Nat) (tE i_1.next.words) ∧ AObj.fro (1 : Nat) (iE i_1.next.at_) = AObj.fro (1 : Nat) (iE i_1.next.at_) ∧ RdrU i.r (1 : Nat) = RdrU i.r (1 : Nat) ∧ RdrU i.r (2 : Nat) = RdrU i.r (2 : Nat) ∧ RdrU i.r (3 : Nat) = RdrU i.r (3 : Nat) ∧ RdrU i.r (4 : Nat) = RdrU i.r (4 : Nat) ∧ cmdR i.c = cmdR i.c ∧ Sx.AObj.map (seenE i.seen) = Sx.AObj.map (seenE i.seen)) ∧ ∀ (i_3 : List UInt8), I i_3 → (∀ (p : Value × List D), p ∈ seenE i.seen → like (Value.string (sb i_3)) p.fst = true) ∧ ∃ (b : Bool), ∃ (b_1 : Bool), (mget (Value.string (sb i_3)) (seenE i.seen) = some [D.v (.bool b_1)] ∧ b = true ∨ mget (Value.string (sb i_3)) (seenE i.seen) = none ∧ [D.v (.bool b_1)] = [D.v (.bool false)] ∧ b = false) ∧ cnd b_1 (∃ (i_4 : RfI), i_4.why = (25 : Int) ∧ i_4.place = i_1.here ∧ sb i_4.r.p.code = sb i_1.next.p.code ∧ i_4.r.p.tick = i_1.next.p.tick ∧ i_4.r.p.low = i_1.next.p.low ∧ i_4.r.p.high = i_1.next.p.high ∧ i_4.r.p.wide = i_1.next.p.wide ∧ i_4.r.p.rule = i_1.next.p.rule ∧ i_4.r.p.top = i_1.next.p.top ∧ i_4.r.p.least = i_1.next.p.least ∧ i_4.r.p.part = i_1.next.p.part ∧ i_4.r.end_ = i_1.next.end_ ∧ (↑i_4.r.k : Int) = (↑i_1.next.k : Int) ∧ i_4.r.why = i_1.next.why ∧ i_4.r.place = i_1.next.place ∧ AObj.fro (1 : Nat) (iE i_4.r.p.months) = AObj.fro (1 : Nat) (iE i_1.next.p.months) ∧ AObj.fro (1 : Nat) (iE i_4.r.p.settle) = AObj.fro (1 : Nat) (iE i_1.next.p.settle) ∧ AObj.fro (1 : Nat) (tE i_4.r.words) = AObj.fro (1 : Nat) (tE i_1.next.words) ∧ AObj.fro (1 : Nat) (iE i_4.r.at_) = AObj.fro (1 : Nat) (iE i_1.next.at_) ∧ True ∧ ∀ (o : Unit), True → ∃ (o : Unit), sb i.step.r.p.code = sb (i_4.r.fail i_4.why i_4.place).p.code ∧ i.step.r.p.tick = (i_4.r.fail i_4.why i_4.place).p.tick ∧ i.step.r.p.low = (i_4.r.fail i_4.why i_4.place).p.low ∧ i.step.r.p.high = (i_4.r.fail i_4.why i_4.place).p.high ∧ i.step.r.p.wide = (i_4.r.fail i_4.why i_4.place).p.wide ∧ i.step.r.p.rule = (i_4.r.fail i_4.why i_4.place).p.rule ∧ i.step.r.p.top = (i_4.r.fail i_4.why i_4.place).p.top ∧ i.step.r.p.least = (i_4.r.fail i_4.why i_4.place).p.least ∧ i.step.r.p.part = (i_4.r.fail i_4.why i_4.place).p.part ∧ i.step.r.end_ = (i_4.r.fail i_4.why i_4.place).end_ ∧ (↑i.step.r.k : Int) = (↑(i_4.r.fail i_4.why i_4.place).k : Int) ∧ i.step.r.why = (i_4.r.fail i_4.why i_4.place).why ∧ i.step.r.place = (i_4.r.fail i_4.why i_4.place).place ∧ AObj.fro (1 : Nat) (iE i.step.r.p.months) = AObj.fro (1 : Nat) (iE (i_4.r.fail i_4.why i_4.place).p.months) ∧ AObj.fro (1 : Nat) (iE i.step.r.p.settle) = AObj.fro (1 : Nat) (iE (i_4.r.fail i_4.why i_4.place).p.settle) ∧ AObj.fro (1 : Nat) (tE i.step.r.words) = AObj.fro (1 : Nat) (tE (i_4.r.fail i_4.why i_4.place).words) ∧ AObj.fro (1 : Nat) (iE i.step.r.at_) = AObj.fro (1 : Nat) (iE (i_4.r.fail i_4.why i_4.place).at_) ∧ i.step.c.kind = i.c.kind ∧ i.step.c.id = i.c.id ∧ i.step.c.inst = i.c.inst ∧ i.step.c.side = i.c.side ∧ i.step.c.price = i.c.price ∧ i.step.c.qty = i.c.qty ∧ i.step.c.least = i.c.least ∧ i.step.c.time = i.c.time ∧ sb i.step.c.label = sb i.c.label ∧ seenE i.step.seen = seenE i.seen ∧ True) (cnd ((sb (foldF i_2)).toList == (ByteArray.mk #[(76 : UInt8), (69 : UInt8), (65 : UInt8), (83 : UInt8), (84 : UInt8)]).toList) (∃ (i_4 : Rdr), sb i_4.p.code = sb i_1.next.p.code ∧ i_4.p.tick = i_1.next.p.tick ∧ i_4.p.low = i_1.next.p.low ∧ i_4.p.high = i_1.next.p.high ∧ i_4.p.wide = i_1.next.p.wide ∧ i_4.p.rule = i_1.next.p.rule ∧ i_4.p.top = i_1.next.p.top ∧ i_4.p.least = i_1.next.p.least ∧ i_4.p.part = i_1.next.p.part ∧ i_4.end_ = i_1.next.end_ ∧ (↑i_4.k : Int) = (↑i_1.next.k : Int) ∧ i_4.why = i_1.next.why ∧ i_4.place = i_1.next.place ∧ AObj.fro (1 : Nat) (iE i_4.p.months) = AObj.fro (1 : Nat) (iE i_1.next.p.months) ∧ AObj.fro (1 : Nat) (iE i_4.p.settle) = AObj.fro (1 : Nat) (iE i_1.next.p.settle) ∧ AObj.fro (1 : Nat) (tE i_4.words) = AObj.fro (1 : Nat) (tE i_1.next.words) ∧ AObj.fro (1 : Nat) (iE i_4.at_) = AObj.fro (1 : Nat) (iE i_1.next.at_) ∧ ((i_4.p.code.length ≤ (140737488355328 : Nat) ∧ i_4.p.months.length ≤ (140737488355328 : Nat) ∧ i_4.p.settle.length ≤ (140737488355328 : Nat)) ∧ i_4.at_.length = i_4.words.length ∧ i_4.words.length ≤ (1048576 : Nat) ∧ i_4.k ≤ i_4.words.length ∧ ∀ (w : List UInt8), w ∈ i_4.words → w.length ≤ (1048576 : Nat)) ∧ ∀ (o : Unit), True → (∀ (p : Value × List D), p ∈ seenE i.seen → like (Value.string (sb i_3)) p.fst = true) ∧ ∃ (o : Unit), sb i.step.r.p.code = sb i_4.numR.p.code ∧ i.step.r.p.tick = i_4.numR.p.tick ∧ i.step.r.p.low = i_4.numR.p.low ∧ i.step.r.p.high = i_4.numR.p.high ∧ i.step.r.p.wide = i_4.numR.p.wide ∧ i.step.r.p.rule = i_4.numR.p.rule ∧ i.step.r.p.top = i_4.numR.p.top ∧ i.step.r.p.least = i_4.numR.p.least ∧ i.step.r.p.part = i_4.numR.p.part ∧ i.step.r.end_ = i_4.numR.end_ ∧ (↑i.step.r.k : Int) = (↑i_4.numR.k : Int) ∧ i.step.r.why = i_4.numR.why ∧ i.step.r.place = i_4.numR.place ∧ AObj.fro (1 : Nat) (iE i.step.r.p.months) = AObj.fro (1 : Nat) (iE i_4.numR.p.months) ∧ AObj.fro (1 : Nat) (iE i.step.r.p.settle) = AObj.fro (1 : Nat) (iE i_4.numR.p.settle) ∧ AObj.fro (1 : Nat) (tE i.step.r.words) = AObj.fro (1 : Nat) (tE i_4.numR.words) ∧ AObj.fro (1 : Nat) (iE i.step.r.at_) = AObj.fro (1 : Nat) (iE i_4.numR.at_) ∧ i.step.c.kind = i.c.kind ∧ i.step.c.id = i.c.id ∧ i.step.c.inst = i.c.inst ∧ i.step.c.side = i.c.side ∧ i.step.c.price = i.c.price ∧ i.step.c.qty = i.c.qty ∧ i.step.c.least = i_4.num ∧ i.step.c.time = i.c.time ∧ sb i.step.c.label = sb i.c.label ∧ seenE i.step.seen = mput (Value.string (sb i_3)) [D.v (.bool true)] (seenE i.seen) ∧ True) (cnd ((sb (foldF i_2)).toList == (ByteArray.mk #[(78 : UInt8), (79 : UInt8), (87 : UInt8)]).toList) ((∀ (p : Value × List D), p ∈ seenE i.seen → like (Value.string (sb i_3)) p.fst = true) ∧ ∃ (o : Unit), sb i.step.r.p.code = sb i_1.next.p.code ∧ i.step.r.p.tick = i_1.next.p.tick ∧ i.step.r.p.low = i_1.next.p.low ∧ i.step.r.p.high = i_1.next.p.high ∧ i.step.r.p.wide = i_1.next.p.wide ∧ i.step.r.p.rule = i_1.next.p.rule ∧ i.step.r.p.top = i_1.next.p.top ∧ i.step.r.p.least = i_1.next.p.least ∧ i.step.r.p.part = i_1.next.p.part ∧ i.step.r.end_ = i_1.next.end_ ∧ (↑i.step.r.k : Int) = (↑i_1.next.k : Int) ∧ i.step.r.why = i_1.next.why ∧ i.step.r.place = i_1.next.place ∧ AObj.fro (1 : Nat) (iE i.step.r.p.months) = AObj.fro (1 : Nat) (iE i_1.next.p.months) ∧ AObj.fro (1 : Nat) (iE i.step.r.p.settle) = AObj.fro (1 : Nat) (iE i_1.next.p.settle) ∧ AObj.fro (1 : Nat) (tE i.step.r.words) = AObj.fro (1 : Nat) (tE i_1.next.words) ∧ AObj.fro (1 : Nat) (iE i.step.r.at_) = AObj.fro (1 : Nat) (iE i_1.next.at_) ∧ i.step.c.kind = i.c.kind ∧ i.step.c.id = i.c.id ∧ i.step.c.inst = i.c.inst ∧ i.step.c.side = i.c.side ∧ i.step.c.price = i.c.price ∧ i.step.c.qty = i.c.qty ∧ i.step.c.least = i.c.least ∧ i.step.c.time = (2 : Int) ∧ sb i.step.c.label = sb i.c.label ∧ seenE i.step.seen = mput (Value.string (sb i_3)) [D.v (.bool true)] (seenE i.seen) ∧ True) (cnd ((sb (foldF i_2)).toList == (ByteArray.mk #[(87 : UInt8), (72 : UInt8), (79 : UInt8), (76 : UInt8), (69 : UInt8)]).toList) ((∀ (p : Value × List D), p ∈ seenE i.seen → like (Value.string (sb i_3)) p.fst = true) ∧ ∃ (o : Unit), sb i.step.r.p.code = sb i_1.next.p.code ∧ i.step.r.p.tick = i_1.next.p.tick ∧ i.step.r.p.low = i_1.next.p.low ∧ i.step.r.p.high = i_1.next.p.high ∧ i.step.r.p.wide = i_1.next.p.wide ∧ i.step.r.p.rule = i_1.next.p.rule ∧ i.step.r.p.top = i_1.next.p.top ∧ i.step.r.p.least = i_1.next.p.least ∧ i.step.r.p.part = i_1.next.p.part ∧ i.step.r.end_ = i_1.next.end_ ∧ (↑i.step.r.k : Int) = (↑i_1.next.k : Int) ∧ i.step.r.why = i_1.next.why ∧ i.step.r.place = i_1.next.place ∧ AObj.fro (1 : Nat) (iE i.step.r.p.months) = AObj.fro (1 : Nat) (iE i_1.next.p.months) ∧ AObj.fro (1 : Nat) (iE i.step.r.p.settle) = AObj.fro (1 : Nat) (iE i_1.next.p.settle) ∧ AObj.fro (1 : Nat) (tE i.step.r.words) = AObj.fro (1 : Nat) (tE i_1.next.words) ∧ AObj.fro (1 : Nat) (iE i.step.r.at_) = AObj.fro (1 : Nat) (iE i_1.next.at_) ∧ i.step.c.kind = i.c.kind ∧ i.step.c.id = i.c.id ∧ i.step.c.inst = i.c.inst ∧ i.step.c.side = i.c.side ∧ i.step.c.price = i.c.price ∧ i.step.c.qty = i.c.qty ∧ i.step.c.least = i.c.least ∧ i.step.c.time = (3 : Int) ∧ sb i.step.c.label = sb i.c.label ∧ seenE i.step.seen = mput (Value.string (sb i_3)) [D.v (.bool true)] (seenE i.seen) ∧ True) (cnd ((sb (foldF i_2)).toList == (ByteArray.mk #[(76 : UInt8), (65 : UInt8), (66 : UInt8), (69 : UInt8), (76 : UInt8)]).toList) (∃ (i_4 : Rdr), sb i_4.p.code = sb i_1.next.p.code ∧ i_4.p.tick = i_1.next.p.tick ∧ i_4.p.low = i_1.next.p.low ∧ i_4.p.high = i_1.next.p.high ∧ i_4.p.wide = i_1.next.p.wide ∧ i_4.p.rule = i_1.next.p.rule ∧ i_4.p.top = i_1.next.p.top ∧ i_4.p.least = i_1.next.p.least ∧ i_4.p.part = i_1.next.p.part ∧ i_4.end_ = i_1.next.end_ ∧ (↑i_4.k : Int) = (↑i_1.next.k : Int) ∧ i_4.why = i_1.next.why ∧ i_4.place = i_1.next.place ∧ AObj.fro (1 : Nat) (iE i_4.p.months) = AObj.fro (1 : Nat) (iE i_1.next.p.months) ∧ AObj.fro (1 : Nat) (iE i_4.p.settle) = AObj.fro (1 : Nat) (iE i_1.next.p.settle) ∧ AObj.fro (1 : Nat) (tE i_4.words) = AObj.fro (1 : Nat) (tE i_1.next.words) ∧ AObj.fro (1 : Nat) (iE i_4.at_) = AObj.fro (1 : Nat) (iE i_1.next.at_) ∧ ((i_4.p.code.length ≤ (140737488355328 : Nat) ∧ i_4.p.months.length ≤ (140737488355328 : Nat) ∧ i_4.p.settle.length ≤ (140737488355328 : Nat)) ∧ i_4.at_.length = i_4.words.length ∧ i_4.words.length ≤ (1048576 : Nat) ∧ i_4.k ≤ i_4.words.length ∧ ∀ (w : List UInt8), w ∈ i_4.words → w.length ≤ (1048576 : Nat)) ∧ ∀ (o : Unit), True → ∃ (i_5 : List UInt8), sb i_5 = sb i_4.word ∧ i_5.length ≤ (140737488355328 : Nat) ∧ ∀ (o : Unit), True → cnd (!labOk i_5) (∃ (i_6 : RfI), i_6.why = (29 : Int) ∧ i_6.place = i_4.here ∧ sb i_6.r.p.code = sb i_4.next.p.code ∧ i_6.r.p.tick = i_4.next.p.tick ∧ i_6.r.p.low = i_4.next.p.low ∧ i_6.r.p.high = i_4.next.p.high ∧ i_6.r.p.wide = i_4.next.p.wide ∧ i_6.r.p.rule = i_4.next.p.rule ∧ i_6.r.p.top = i_4.next.p.top ∧ i_6.r.p.least = i_4.next.p.least ∧ i_6.r.p.part = i_4.next.p.part ∧ i_6.r.end_ = i_4.next.end_ ∧ (↑i_6.r.k : Int) = (↑i_4.next.k : Int) ∧ i_6.r.why = i_4.next.why ∧ i_6.r.place = i_4.next.place ∧ AObj.fro (1 : Nat) (iE i_6.r.p.months) = AObj.fro (1 : Nat) (iE i_4.next.p.months) ∧ AObj.fro (1 : Nat) (iE i_6.r.p.settle) = AObj.fro (1 : Nat) (iE i_4.next.p.settle) ∧ AObj.fro (1 : Nat) (tE i_6.r.words) = AObj.fro (1 : Nat) (tE i_4.next.words) ∧ AObj.fro (1 : Nat) (iE i_6.r.at_) = AObj.fro (1 : Nat) (iE i_4.next.at_) ∧ True ∧ ∀ (o : Unit), True → (∀ (p : Value × List D), p ∈ seenE i.seen → like (Value.string (sb i_3)) p.fst = true) ∧ ∃ (o : Unit), sb i.step.r.p.code = sb (i_6.r.fail i_6.why i_6.place).p.code ∧ i.step.r.p.tick = (i_6.r.fail i_6.why i_6.place).p.tick ∧ i.step.r.p.low = (i_6.r.fail i_6.why i_6.place).p.low ∧ i.step.r.p.high = (i_6.r.fail i_6.why i_6.place).p.high ∧ i.step.r.p.wide = (i_6.r.fail i_6.why i_6.place).p.wide ∧ i.step.r.p.rule = (i_6.r.fail i_6.why i_6.place).p.rule ∧ i.step.r.p.top = (i_6.r.fail i_6.why i_6.place).p.top ∧ i.step.r.p.least = (i_6.r.fail i_6.why i_6.place).p.least ∧ i.step.r.p.part = (i_6.r.fail i_6.why i_6.place).p.part ∧ i.step.r.end_ = (i_6.r.fail i_6.why i_6.place).end_ ∧ (↑i.step.r.k : Int) = (↑(i_6.r.fail i_6.why i_6.place).k : Int) ∧ i.step.r.why = (i_6.r.fail i_6.why i_6.place).why ∧ i.step.r.place = (i_6.r.fail i_6.why i_6.place).place ∧ AObj.fro (1 : Nat) (iE i.step.r.p.months) = AObj.fro (1 : Nat) (iE (i_6.r.fail i_6.why i_6.place).p.months) ∧ AObj.fro (1 : Nat) (iE i.step.r.p.settle) = AObj.fro (1 : Nat) (iE (i_6.r.fail i_6.why i_6.place).p.settle) ∧ AObj.fro (1 : Nat) (tE i.step.r.words) = AObj.fro (1 : Nat) (tE (i_6.r.fail i_6.why i_6.place).words) ∧ AObj.fro (1 : Nat) (iE i.step.r.at_) = AObj.fro (1 : Nat) (iE (i_6.r.fail i_6.why i_6.place).at_) ∧ i.step.c.kind = i.c.kind ∧ i.step.c.id = i.c.id ∧ i.step.c.inst = i.c.inst ∧ i.step.c.side = i.c.side ∧ i.step.c.price = i.c.price ∧ i.step.c.qty = i.c.qty ∧ i.step.c.least = i.c.least ∧ i.step.c.time = i.c.time ∧ sb i.step.c.label = sb i_4.word ∧ seenE i.step.seen = mput (Value.string (sb i_3)) [D.v (.bool true)] (seenE i.seen) ∧ True) ((∀ (p : Value × List D), p ∈ seenE i.seen → like (Value.string (sb i_3)) p.fst = true) ∧ ∃ (o : Unit), sb i.step.r.p.code = sb i_4.next.p.code ∧ i.step.r.p.tick = i_4.next.p.tick ∧ i.step.r.p.low = i_4.next.p.low ∧ i.step.r.p.high = i_4.next.p.high ∧ i.step.r.p.wide = i_4.next.p.wide ∧ i.step.r.p.rule = i_4.next.p.rule ∧ i.step.r.p.top = i_4.next.p.top ∧ i.step.r.p.least = i_4.next.p.least ∧ i.step.r.p.part = i_4.next.p.part ∧ i.step.r.end_ = i_4.next.end_ ∧ (↑i.step.r.k : Int) = (↑i_4.next.k : Int) ∧ i.step.r.why = i_4.next.why ∧ i.step.r.place = i_4.next.place ∧ AObj.fro (1 : Nat) (iE i.step.r.p.months) = AObj.fro (1 : Nat) (iE i_4.next.p.months) ∧ AObj.fro (1 : Nat) (iE i.step.r.p.settle) = AObj.fro (1 : Nat) (iE i_4.next.p.settle) ∧ AObj.fro (1 : Nat) (tE i.step.r.words) = AObj.fro (1 : Nat) (tE i_4.next.words) ∧ AObj.fro (1 : Nat) (iE i.step.r.at_) = AObj.fro (1 : Nat) (iE i_4.next.at_) ∧ i.step.c.kind = i.c.kind ∧ i.step.c.id = i.c.id ∧ i.step.c.inst = i.c.inst ∧ i.step.c.side = i.c.side ∧ i.step.c.price = i.c.price ∧ i.step.c.qty = i.c.qty ∧ i.step.c.least = i.c.least ∧ i.step.c.time = i.c.time ∧ sb i.step.c.label = sb i_4.word ∧ seenE i.step.seen = mput (Value.string (sb i_3)) [D.v (.bool true)] (seenE i.seen) ∧ True)) (∃ (i_4 : RfI), i_4.why = (12 : Int) ∧ i_4.place = i_1.here ∧ sb i_4.r.p.code = sb i_1.next.p.code ∧ i_4.r.p.tick = i_1.next.p.tick ∧ i_4.r.p.low = i_1.next.p.low ∧ i_4.r.p.high = i_1.next.p.high ∧ i_4.r.p.wide = i_1.next.p.wide ∧ i_4.r.p.rule = i_1.next.p.rule ∧ i_4.r.p.top = i_1.next.p.top ∧ i_4.r.p.least = i_1.next.p.least ∧ i_4.r.p.part = i_1.next.p.part ∧ i_4.r.end_ = i_1.next.end_ ∧ (↑i_4.r.k : Int) = (↑i_1.next.k : Int) ∧ i_4.r.why = i_1.next.why ∧ i_4.r.place = i_1.next.place ∧ AObj.fro (1 : Nat) (iE i_4.r.p.months) = AObj.fro (1 : Nat) (iE i_1.next.p.months) ∧ AObj.fro (1 : Nat) (iE i_4.r.p.settle) = AObj.fro (1 : Nat) (iE i_1.next.p.settle) ∧ AObj.fro (1 : Nat) (tE i_4.r.words) = AObj.fro (1 : Nat) (tE i_1.next.words) ∧ AObj.fro (1 : Nat) (iE i_4.r.at_) = AObj.fro (1 : Nat) (iE i_1.next.at_) ∧ True ∧ ∀ (o : Unit), True → (∀ (p : Value × List D), p ∈ seenE i.seen → like (Value.string (sb i_3)) p.fst = true) ∧ ∃ (o : Unit), sb i.step.r.p.code = sb (i_4.r.fail i_4.why i_4.place).p.code ∧ i.step.r.p.tick = (i_4.r.fail i_4.why i_4.place).p.tick ∧ i.step.r.p.low = (i_4.r.fail i_4.why i_4.place).p.low ∧ i.step.r.p.high = (i_4.r.fail i_4.why i_4.place).p.high ∧ i.step.r.p.wide = (i_4.r.fail i_4.why i_4.place).p.wide ∧ i.step.r.p.rule = (i_4.r.fail i_4.why i_4.place).p.rule ∧ i.step.r.p.top = (i_4.r.fail i_4.why i_4.place).p.top ∧ i.step.r.p.least = (i_4.r.fail i_4.why i_4.place).p.least ∧ i.step.r.p.part = (i_4.r.fail i_4.why i_4.place).p.part ∧ i.step.r.end_ = (i_4.r.fail i_4.why i_4.place).end_ ∧ (↑i.step.r.k : Int) = (↑(i_4.r.fail i_4.why i_4.place).k : Int) ∧ i.step.r.why = (i_4.r.fail i_4.why i_4.place).why ∧ i.step.r.place = (i_4.r.fail i_4.why i_4.place).place ∧ AObj.fro (1 : Nat) (iE i.step.r.p.months) = AObj.fro (1 : Nat) (iE (i_4.r.fail i_4.why i_4.place).p.months) ∧ AObj.fro (1 : Nat) (iE i.step.r.p.settle) = AObj.fro (1 : Nat) (iE (i_4.r.fail i_4.why i_4.place).p.settle) ∧ AObj.fro (1 : Nat) (tE i.step.r.words) = AObj.fro (1 : Nat) (tE (i_4.r.fail i_4.why i_4.place).words) ∧ AObj.fro (1 : Nat) (iE i.step.r.at_) = AObj.fro (1 : Nat) (iE (i_4.r.fail i_4.why i_4.place).at_) ∧ i.step.c.kind = i.c.kind ∧ i.step.c.id = i.c.id ∧ i.step.c.inst = i.c.inst ∧ i.step.c.side = i.c.side ∧ i.step.c.price = i.c.price ∧ i.step.c.qty = i.c.qty ∧ i.step.c.least = i.c.least ∧ i.step.c.time = i.c.time ∧ sb i.step.c.label = sb i.c.label ∧ seenE i.step.seen = mput (Value.string (sb i_3)) [D.v (.bool true)] (seenE i.seen) ∧ True)))))
theorem eqropt (i : Opt) : Vropt i = walk Tryz.prog ([(42, rnextC), (57, foldC), (43, rfailC), (58, rnumC), (60, labC)]) 0 ([(14, tj 9)]) ([]) [] Tryz.f76 (Tryz.f76.body.getD .skip) (roptC.pat i) (roptC.pre i) (roptC.alts i) := by kernel_rfl

theorem byropt (hG : GOk Tryz.prog ([(42, rnextC), (57, foldC), (43, rfailC), (58, rnumC), (60, labC)])) (h : ∀ (i : Opt), roptC.cnd i → Vropt i) : roptC.ok Tryz.prog 76 := ok_of_walk mixed ([(42, rnextC), (57, foldC), (43, rfailC), (58, rnumC), (60, labC)]) hG 0 (fun (i : Opt) => [(14, tj 9)]) (fun (i : Opt) => []) [] Tryz.func76 (by kernel_rfl) (by kernel_rfl) (by kernel_rfl) (fun _ => by kernel_rfl) (fun (i : Opt) hc => Eq.mp (eqropt i) (h i hc))

def Vcord (c : Cmd) : Prop :=
  cnd (c.side != (1 : Int)) (cnd (c.side != (2 : Int)) (∃ (o : Unit), c.orderE = (21 : Int) ∧ True) (cnd (decide (c.time < (1 : Int))) (∃ (o : Unit), c.orderE = (27 : Int) ∧ True) (cnd (decide (c.time > (3 : Int))) (∃ (o : Unit), c.orderE = (27 : Int) ∧ True) (cnd (decide (c.qty ≥ (1 : Int))) (cnd (!decide (c.qty ≤ (1000000 : Int))) (∃ (o : Unit), c.orderE = (24 : Int) ∧ True) (cnd (decide (c.least < (0 : Int))) (∃ (o : Unit), c.orderE = (28 : Int) ∧ True) (cnd (decide (c.least > c.qty)) (∃ (o : Unit), c.orderE = (28 : Int) ∧ True) (cnd (!(sb c.label).toList == (ByteArray.mk #[]).toList) (∃ (i : List UInt8), sb i = sb c.label ∧ i.length ≤ (140737488355328 : Nat) ∧ ∀ (o : Unit), True → cnd (!labOk i) (∃ (o : Unit), c.orderE = (29 : Int) ∧ True) (cnd (decide (c.price ≥ (-2000000 : Int))) (cnd (!decide (c.price ≤ (2000000 : Int))) (∃ (o : Unit), c.orderE = (23 : Int) ∧ True) (cnd (decide (c.inst < (0 : Int))) (∃ (o : Unit), c.orderE = (20 : Int) ∧ True) (cnd (decide (c.inst > (255 : Int))) (∃ (o : Unit), c.orderE = (20 : Int) ∧ True) (∃ (o : Unit), c.orderE = (0 : Int) ∧ True)))) (∃ (o : Unit), c.orderE = (23 : Int) ∧ True))) (cnd (decide (c.price ≥ (-2000000 : Int))) (cnd (!decide (c.price ≤ (2000000 : Int))) (∃ (o : Unit), c.orderE = (23 : Int) ∧ True) (cnd (decide (c.inst < (0 : Int))) (∃ (o : Unit), c.orderE = (20 : Int) ∧ True) (cnd (decide (c.inst > (255 : Int))) (∃ (o : Unit), c.orderE = (20 : Int) ∧ True) (∃ (o : Unit), c.orderE = (0 : Int) ∧ True)))) (∃ (o : Unit), c.orderE = (23 : Int) ∧ True)))))) (∃ (o : Unit), c.orderE = (24 : Int) ∧ True))))) (cnd (decide (c.time < (1 : Int))) (∃ (o : Unit), c.orderE = (27 : Int) ∧ True) (cnd (decide (c.time > (3 : Int))) (∃ (o : Unit), c.orderE = (27 : Int) ∧ True) (cnd (decide (c.qty ≥ (1 : Int))) (cnd (!decide (c.qty ≤ (1000000 : Int))) (∃ (o : Unit), c.orderE = (24 : Int) ∧ True) (cnd (decide (c.least < (0 : Int))) (∃ (o : Unit), c.orderE = (28 : Int) ∧ True) (cnd (decide (c.least > c.qty)) (∃ (o : Unit), c.orderE = (28 : Int) ∧ True) (cnd (!(sb c.label).toList == (ByteArray.mk #[]).toList) (∃ (i : List UInt8), sb i = sb c.label ∧ i.length ≤ (140737488355328 : Nat) ∧ ∀ (o : Unit), True → cnd (!labOk i) (∃ (o : Unit), c.orderE = (29 : Int) ∧ True) (cnd (decide (c.price ≥ (-2000000 : Int))) (cnd (!decide (c.price ≤ (2000000 : Int))) (∃ (o : Unit), c.orderE = (23 : Int) ∧ True) (cnd (decide (c.inst < (0 : Int))) (∃ (o : Unit), c.orderE = (20 : Int) ∧ True) (cnd (decide (c.inst > (255 : Int))) (∃ (o : Unit), c.orderE = (20 : Int) ∧ True) (∃ (o : Unit), c.orderE = (0 : Int) ∧ True)))) (∃ (o : Unit), c.orderE = (23 : Int) ∧ True))) (cnd (decide (c.price ≥ (-2000000 : Int))) (cnd (!decide (c.price ≤ (2000000 : Int))) (∃ (o : Unit), c.orderE = (23 : Int) ∧ True) (cnd (decide (c.inst < (0 : Int))) (∃ (o : Unit), c.orderE = (20 : Int) ∧ True) (cnd (decide (c.inst > (255 : Int))) (∃ (o : Unit), c.orderE = (20 : Int) ∧ True) (∃ (o : Unit), c.orderE = (0 : Int) ∧ True)))) (∃ (o : Unit), c.orderE = (23 : Int) ∧ True)))))) (∃ (o : Unit), c.orderE = (24 : Int) ∧ True))))
theorem eqcord (c : Cmd) : Vcord c = walk Tryz.prog ([(60, labC)]) 1 ([]) ([]) [] Tryz.f44 (Tryz.f44.body.getD .skip) (cmdOrdC.pat c) (cmdOrdC.pre c) (cmdOrdC.alts c) := by kernel_rfl

theorem bycord (hG : GOk Tryz.prog ([(60, labC)])) (h : ∀ (c : Cmd), cmdOrdC.cnd c → Vcord c) : cmdOrdC.ok Tryz.prog 44 := ok_of_walk mixed ([(60, labC)]) hG 1 (fun (c : Cmd) => []) (fun (c : Cmd) => []) [] Tryz.func44 (by kernel_rfl) (by kernel_rfl) (by kernel_rfl) (fun _ => by kernel_rfl) (fun (c : Cmd) hc => Eq.mp (eqcord c) (h c hc))

def Vright (c : Cmd) : Prop :=
  cnd (decide (c.kind < (1 : Int))) (∃ (o : Unit), c.right = (31 : Int) ∧ True) (cnd (decide (c.kind > (4 : Int))) (∃ (o : Unit), c.right = (31 : Int) ∧ True) (cnd (decide (c.id < (1 : Int))) (∃ (o : Unit), c.right = (1 : Int) ∧ True) (cnd (decide (c.id > (1099511627776 : Int))) (∃ (o : Unit), c.right = (1 : Int) ∧ True) (cnd (c.kind == (1 : Int)) (∃ (i : Cmd), i.kind = c.kind ∧ i.id = c.id ∧ i.inst = c.inst ∧ i.side = c.side ∧ i.price = c.price ∧ i.qty = c.qty ∧ i.least = c.least ∧ i.time = c.time ∧ sb i.label = sb c.label ∧ i.label.length ≤ (140737488355328 : Nat) ∧ ∀ (o : Unit), True → ∃ (o : Unit), c.right = i.orderE ∧ True) (cnd (c.kind != (2 : Int)) (cnd (decide (c.qty ≥ (1 : Int))) (cnd (!decide (c.qty ≤ (1000000 : Int))) (∃ (o : Unit), c.right = (24 : Int) ∧ True) (cnd (c.kind == (4 : Int)) (cnd (decide (c.price ≥ (-2000000 : Int))) (cnd (!decide (c.price ≤ (2000000 : Int))) (∃ (o : Unit), c.right = (23 : Int) ∧ True) (∃ (o : Unit), c.right = (0 : Int) ∧ True)) (∃ (o : Unit), c.right = (23 : Int) ∧ True)) (∃ (o : Unit), c.right = (0 : Int) ∧ True))) (∃ (o : Unit), c.right = (24 : Int) ∧ True)) (cnd (c.kind == (4 : Int)) (cnd (decide (c.price ≥ (-2000000 : Int))) (cnd (!decide (c.price ≤ (2000000 : Int))) (∃ (o : Unit), c.right = (23 : Int) ∧ True) (∃ (o : Unit), c.right = (0 : Int) ∧ True)) (∃ (o : Unit), c.right = (23 : Int) ∧ True)) (∃ (o : Unit), c.right = (0 : Int) ∧ True)))))))
theorem eqright (c : Cmd) : Vright c = walk Tryz.prog ([(44, cmdOrdC)]) 1 ([]) ([]) [] Tryz.f25 (Tryz.f25.body.getD .skip) (rightC.pat c) (rightC.pre c) (rightC.alts c) := by kernel_rfl

theorem byright (hG : GOk Tryz.prog ([(44, cmdOrdC)])) (h : ∀ (c : Cmd), rightC.cnd c → Vright c) : rightC.ok Tryz.prog 25 := ok_of_walk mixed ([(44, cmdOrdC)]) hG 1 (fun (c : Cmd) => []) (fun (c : Cmd) => []) [] Tryz.func25 (by kernel_rfl) (by kernel_rfl) (by kernel_rfl) (fun _ => by kernel_rfl) (fun (c : Cmd) hc => Eq.mp (eqright c) (h c hc))

end Sx

namespace Sx
set_option linter.unusedVariables false
set_option linter.unusedSimpArgs false
set_option maxRecDepth 100000
open Go Cv Go.Proofs

/-! ### Words -/
theorem tE_app (a : List (List UInt8)) (w : List UInt8) : tE (a ++ [w]) = tE a ++ [[D.v (.string (sb w))]] := by simp [tE]
theorem iE_app (a : List Int) (w : Int) : iE (a ++ [w]) = iE a ++ [[D.v (.int .i64 w)]] := by simp [iE]
@[simp] theorem tE_len (a : List (List UInt8)) : (tE a).length = a.length := by simp [tE]
theorem elT {l : List (List UInt8)} {k : Nat} {w : List UInt8} (h : l[k]? = some w) : elPart (tE l) k 0 1 = some [D.v (.string (sb w))] := by
  simp [elPart, tE, h]; rfl
theorem beqI (a b : Int) : (a == b) = decide (a = b) := by
  by_cases h : a = b
  · subst h; simp
  · simp [h]
theorem bneI (a b : Int) : (a != b) = decide (a ≠ b) := by
  by_cases h : a = b
  · subst h; simp
  · simp [h]

structure WInv (s : List UInt8) (p : Nat) (x : WSt) : Prop where
  run : (runesP s p).foldl (WSt.step s) x = wordsSt s
  f0 : -1 ≤ x.from_
  f1 : x.from_ ≤ p
  n : x.n ≤ p
  w : x.words.length ≤ p
  a : x.at_.length ≤ p
theorem vwords (s : List UInt8) (h : wordsC.cnd s) : Vwords s := by
  have h : s.length ≤ 1048576 := h
  unfold Vwords
  simp only [tE_len, iE_len, sb_size, beqI, bneI]
  refine ⟨(0, ⟨[], [], -1, 0⟩), rfl, rfl, by (first | exact rfl | exact trivial), rfl, rfl, rfl, fun x => x.1 ≤ s.length ∧ WInv s x.1 x.2, fun x => s.length - x.1, ⟨by omega, ⟨rfl, by decide, by decide, by decide, by decide, by decide⟩⟩, ?_⟩
  rintro ⟨p, x⟩ ⟨h1, h2⟩
  obtain ⟨g1, g2, g3, g4, g5, g6⟩ := h2
  dsimp only at h1 g1 g2 g3 g4 g5 g6 ⊢
  refine Cv.cnd.mk (fun hp => ?_) (fun hp => ?_)
  · have hp : p < s.length := by simpa [Nat.blt_eq] using hp
    have hw := decode_w s hp
    rw [runesP_step hp, List.foldl_cons] at g1
    generalize hc : (Utf8.decode (sb s) p).1 = c at g1 ⊢
    generalize hww : (Utf8.decode (sb s) p).2 = d at g1 hw ⊢
    have fin (y : WSt) (e : WSt.step s x (p, c) = y) (f0 : -1 ≤ y.from_) (f1 : y.from_ ≤ p) (k1 : y.n = x.n + 1) (k2 : y.words.length ≤ p + 1) (k3 : y.at_.length ≤ p + 1) : p + d ≤ s.length ∧ WInv s (p + d) y :=
      ⟨hw.2, ⟨by rw [← e]; exact g1, f0, by omega, by omega, by omega, by omega⟩⟩
    have hn : IntKind.i64.wrap ((x.n : Int) + 1) = ((x.n + 1 : Nat) : Int) := by rw [w64 (by omega)]; rfl
    rw [hn]
    refine cndD (fun c1 => ?_) (fun c1 => ?_)
    · have c1 : c = 32 := by omega
      refine cndD (fun c2 => ?_) (fun c2 => ?_)
      · have e : WSt.step s x (p, c) = ⟨x.words ++ [(s.take p).drop x.from_.toNat], x.at_, -1, x.n + 1⟩ := by
          simp only [WSt.step]
          rw [if_pos c1, if_pos (by omega)]
        refine ⟨⟨by omega, by omega, by omega⟩, by omega, (p + d, ⟨x.words ++ [(s.take p).drop x.from_.toNat], x.at_, -1, x.n + 1⟩), ?_, ?_, by (first | exact rfl | exact trivial), rfl, ?_, ?_, fin _ e (by dsimp only; omega) (by dsimp only; omega) rfl (by simp; omega) (by dsimp only; omega), by dsimp only; omega, trivial⟩
        · rfl
        · rfl
        · dsimp only
          rw [tE_app, sb_cut]; rfl
        · rfl
      · have e : WSt.step s x (p, c) = ⟨x.words, x.at_, x.from_, x.n + 1⟩ := by
          simp only [WSt.step]
          rw [if_pos c1, if_neg (by omega)]
        refine cndD (fun c3 => by omega) (fun c3 => ?_)
        exact ⟨(p + d, ⟨x.words, x.at_, x.from_, x.n + 1⟩), rfl, rfl, by (first | exact rfl | exact trivial), rfl, rfl, rfl, fin _ e (by dsimp only; omega) (by dsimp only; omega) rfl (by dsimp only; omega) (by dsimp only; omega), by dsimp only; omega, trivial⟩
    · have c1 : ¬ c = 32 := by omega
      refine cndD (fun c2 => cndD (fun c3 => ?_) (fun c3 => ?_)) (fun c2 => by omega)
      · have e : WSt.step s x (p, c) = ⟨x.words, x.at_ ++ [(x.n : Int)], p, x.n + 1⟩ := by
          simp only [WSt.step]
          rw [if_neg c1, if_pos c3]
        exact ⟨by omega, (p + d, ⟨x.words, x.at_ ++ [(x.n : Int)], p, x.n + 1⟩), rfl, rfl, by (first | exact rfl | exact trivial), rfl, rfl, iE_app _ _, fin _ e (by dsimp only; omega) (by dsimp only; omega) rfl (by dsimp only; omega) (by simp; omega), by dsimp only; omega, trivial⟩
      · have e : WSt.step s x (p, c) = ⟨x.words, x.at_, x.from_, x.n + 1⟩ := by
          simp only [WSt.step]
          rw [if_neg c1, if_neg c3]
        exact ⟨(p + d, ⟨x.words, x.at_, x.from_, x.n + 1⟩), rfl, rfl, by (first | exact rfl | exact trivial), rfl, rfl, rfl, fin _ e (by dsimp only; omega) (by dsimp only; omega) rfl (by dsimp only; omega) (by dsimp only; omega), by dsimp only; omega, trivial⟩
  · have hp : s.length ≤ p := by have := blt_f hp; simpa using this
    rw [runesP_end hp] at g1
    have g1 : x = wordsSt s := g1
    refine cndD (fun c => ⟨⟨by omega, by omega⟩, by omega, (), ?_, ?_, trivial⟩) (fun c => ⟨(), ?_, ?_, trivial⟩)
    · rw [wordsL, ← g1, if_pos (by omega), tE_app, sb_cut, List.take_length]
    · rw [wordsA, ← g1]
    · rw [wordsL, ← g1, if_neg (by omega)]
    · rw [wordsA, ← g1]
theorem words_ok : wordsC.ok Tryz.prog 20 := bywords gok0 vwords

theorem p10 {d : Nat} (h : d ≤ 18) : (10 : Int) ^ d ≤ 1000000000000000000 := by
  have : ∀ d ≤ 18, (10 : Int) ^ d ≤ 1000000000000000000 := by decide
  exact this d h
theorem vnum (s : List UInt8) (h : numC.cnd s) : Vnum s := by
  have h : s.length ≤ 140737488355328 := h
  unfold Vnum
  simp only [sb_size, beqI]
  refine ⟨(0, ⟨0, 0, false⟩), rfl, rfl, rfl, by (first | exact rfl | exact trivial), rfl, fun x => x.1 ≤ s.length ∧ nrun x.2 (runesP s x.1) = nrun ⟨0, 0, false⟩ (runesP s 0) ∧ 0 ≤ x.2.n ∧ x.2.n < 10 ^ x.2.digits ∧ x.2.digits ≤ 18, fun x => s.length - x.1, ⟨by omega, rfl, by decide, by decide, by decide⟩, ?_⟩
  rintro ⟨p, x⟩ ⟨h1, h2, h3, h4, h5⟩
  dsimp only at h1 h2 h3 h4 h5 ⊢
  have hb := p10 h5
  refine Cv.cnd.mk (fun hp => ?_) (fun hp => ?_)
  · have hp : p < s.length := by simpa [Nat.blt_eq] using hp
    have hw := decode_w s hp
    rw [runesP_step hp, nrun] at h2
    generalize hc : (Utf8.decode (sb s) p).1 = c at h2 ⊢
    generalize hww : (Utf8.decode (sb s) p).2 = d at h2 hw ⊢
    have bad (e : x.step (p, c) = none) : ∃ (o : Unit), (numF s).1 = 0 ∧ (numF s).2 = false ∧ True := by
      rw [e] at h2
      rw [numF, ← h2]; exact ⟨(), rfl, rfl, trivial⟩
    have good (y : NSt) (e : x.step (p, c) = some y) (k1 : 0 ≤ y.n) (k2 : y.n < 10 ^ y.digits) (k3 : y.digits ≤ 18) : p + d ≤ s.length ∧ nrun y (runesP s (p + d)) = nrun ⟨0, 0, false⟩ (runesP s 0) ∧ 0 ≤ y.n ∧ y.n < 10 ^ y.digits ∧ y.digits ≤ 18 := by
      rw [e] at h2
      exact ⟨hw.2, h2, k1, k2, k3⟩
    have digit : cnd (decide ((c : Int) ≥ 48)) (cnd (decide ((c : Int) ≤ 57)) (cnd (decide ((x.digits : Int) < 18)) (∃ (i' : Nat × NSt), i'.2.n = IntKind.i64.wrap (IntKind.i64.wrap (10 * x.n) + IntKind.i64.wrap (IntKind.i32.wrap ((c : Int) - 48))) ∧ (i'.2.digits : Int) = IntKind.i64.wrap ((x.digits : Int) + 1) ∧ i'.2.minus = x.minus ∧ True ∧ i'.1 = p + d ∧ (i'.1 ≤ s.length ∧ nrun i'.2 (runesP s i'.1) = nrun ⟨0, 0, false⟩ (runesP s 0) ∧ 0 ≤ i'.2.n ∧ i'.2.n < 10 ^ i'.2.digits ∧ i'.2.digits ≤ 18) ∧ s.length - i'.1 < s.length - p ∧ True) (∃ (o : Unit), (numF s).1 = 0 ∧ (numF s).2 = false ∧ True)) (∃ (o : Unit), (numF s).1 = 0 ∧ (numF s).2 = false ∧ True)) (∃ (o : Unit), (numF s).1 = 0 ∧ (numF s).2 = false ∧ True) ∨ (c = 45 ∧ p = 0) := by
      by_cases hm : c = 45 ∧ p = 0
      · exact .inr hm
      refine .inl (cndD (fun c1 => cndD (fun c2 => cndD (fun c3 => ?_) (fun c3 => bad ?_)) (fun c2 => bad ?_)) (fun c1 => bad ?_))
      · have e : x.step (p, c) = some ⟨10 * x.n + ((c : Int) - 48), x.digits + 1, x.minus⟩ := by
          simp only [NSt.step]
          rw [if_neg hm, if_pos (by omega)]
        have c2 : (c : Int) ≤ 57 := c2
        have hb2 : (10 : Int) ^ x.digits ≤ 100000000000000000 := by
          have : ∀ d < 18, (10 : Int) ^ d ≤ 100000000000000000 := by decide
          exact this _ (by omega)
        have w32 : IntKind.i32.wrap ((c : Int) - 48) = (c : Int) - 48 := by
          have : ∀ n : Int, 0 ≤ n → n < 100 → IntKind.i32.wrap n = n := by
            intro n h1 h2
            obtain ⟨k, rfl⟩ : ∃ k : Nat, n = k := ⟨n.toNat, by omega⟩
            have : ∀ k < 100, IntKind.i32.wrap ((k : Nat) : Int) = k := by decide
            exact this k (by omega)
          exact this _ (by omega) (by omega)
        refine ⟨(p + d, ⟨10 * x.n + ((c : Int) - 48), x.digits + 1, x.minus⟩), ?_, ?_, rfl, trivial, rfl, good _ e (by dsimp only; omega) (by dsimp only; rw [Int.pow_succ]; omega) (by dsimp only; omega), by dsimp only; omega, trivial⟩
        · dsimp only
          rw [w32, w64 (x := (c : Int) - 48) (by omega), w64 (x := 10 * x.n) (by omega), w64 (by omega)]
        · dsimp only
          rw [w64 (by omega)]; rfl
      · simp only [NSt.step]; rw [if_neg hm, if_neg (by omega)]
      · have c2 : ¬ (c : Int) ≤ 57 := c2
        simp only [NSt.step]; rw [if_neg hm, if_neg (by omega)]
      · have c1 : ¬ (c : Int) ≥ 48 := c1
        simp only [NSt.step]; rw [if_neg hm, if_neg (by omega)]
    refine cndD (fun c1 => cndD (fun c2 => ?_) (fun c2 => ?_)) (fun c1 => ?_)
    · have e : x.step (p, c) = some ⟨x.n, x.digits, true⟩ := by
        simp only [NSt.step]
        rw [if_pos (by omega)]
      exact ⟨(p + d, ⟨x.n, x.digits, true⟩), rfl, rfl, rfl, by (first | exact rfl | exact trivial), rfl, good _ e h3 h4 h5, by dsimp only; omega, trivial⟩
    · rcases digit with q | q
      · exact q
      · omega
    · rcases digit with q | q
      · exact q
      · omega
  · have hp : s.length ≤ p := by have := blt_f hp; simpa using this
    rw [runesP_end hp] at h2
    have h2 : some x = nrun ⟨0, 0, false⟩ (runesP s 0) := h2
    refine Cv.cnd.mk (fun c => ⟨(), ?_, ?_, trivial⟩) (fun c => ⟨(), ?_, ?_, trivial⟩)
    · rw [numF, ← h2]
      dsimp only
      rw [if_pos c, w64 (by omega)]; omega
    · rw [numF, ← h2]
      dsimp only
      congr 1
      simp
    · rw [numF, ← h2]
      dsimp only
      rw [if_neg (by simp [c])]
    · rw [numF, ← h2]
      dsimp only
      congr 1
      simp
theorem num_ok : numC.ok Tryz.prog 23 := bynum gok0 vnum
theorem end27_ok : endC27.ok Tryz.prog 39 := byend27 (gokc count_ok gok0) fun s h => ⟨s, rfl, h, fun _ _ => ⟨(), rfl, trivial⟩⟩

/-! ### A line that is gone through -/
theorem fail_end (r : Rdr) (a b : Int) : (r.fail a b).end_ = r.end_ := by unfold Rdr.fail; split <;> rfl
theorem fail_rok {r : Rdr} (h : r.ok) (a b : Int) : (r.fail a b).ok := by unfold Rdr.fail; split <;> exact h
theorem next_rok {r : Rdr} (h : r.ok) : r.next.ok := by
  unfold Rdr.next
  split
  · rename_i hm
    obtain ⟨h1, h2, h3, h4, h5⟩ := h
    simp only [Rdr.more, Bool.and_eq_true, decide_eq_true_eq] at hm
    exact ⟨h1, h2, h3, by dsimp only; omega, h5⟩
  · exact fail_rok h _ _
theorem numR_rok {r : Rdr} (h : r.ok) : r.numR.ok := by
  unfold Rdr.numR
  split
  · exact next_rok h
  · exact fail_rok (next_rok h) _ _
theorem must_rok {r : Rdr} (h : r.ok) (w : List UInt8) : (r.must w).ok := by
  unfold Rdr.must
  split
  · exact next_rok h
  · exact fail_rok (next_rok h) _ _
theorem word_len {r : Rdr} (h : r.ok) : r.word.length ≤ 1048576 := by
  obtain ⟨h1, h2, h3, h4, h5⟩ := h
  unfold Rdr.word
  split
  · rw [List.getD_eq_getElem?_getD]
    cases hk : r.words[r.k]? with
    | none => simp
    | some w => exact h5 w (List.mem_of_getElem? hk)
  · simp
theorem vrfail (i : RfI) (h : rfailC.cnd i) : Vrfail i := by
  unfold Vrfail
  rw [beqI]
  refine cndD (fun c => ?_) (fun c => ?_)
  · have e : i.r.fail i.why i.place = { i.r with why := i.why, place := i.place } := by rw [Rdr.fail, if_pos c]
    rw [e]; (repeat' (first | exact rfl | exact trivial | assumption | apply And.intro | (refine fun (_ : Unit) (_ : True) => ?_) | (refine Exists.intro () ?_) | omega | (dsimp only; omega)))
  · have e : i.r.fail i.why i.place = i.r := by rw [Rdr.fail, if_neg c]
    rw [e]; (repeat' (first | exact rfl | exact trivial | assumption | apply And.intro | (refine fun (_ : Unit) (_ : True) => ?_) | (refine Exists.intro () ?_) | omega | (dsimp only; omega)))
theorem rfail_ok : rfailC.ok Tryz.prog 43 := byrfail gok0 vrfail
theorem vrmore (i : Rdr) (h : rmoreC.cnd i) : Vrmore i := by
  unfold Vrmore
  rw [beqI, tE_len]
  refine cndD (fun c => ⟨(), ?_, ?_⟩) (fun c => ⟨(), ?_, ?_⟩)
  · rw [Rdr.more, decide_eq_true c, Bool.true_and]
    congr 1
    simp only [eq_iff_iff]; omega
  · (repeat' (first | exact rfl | exact trivial | assumption | apply And.intro | (refine fun (_ : Unit) (_ : True) => ?_) | (refine Exists.intro () ?_) | omega | (dsimp only; omega)))
  · rw [Rdr.more, decide_eq_false c]; rfl
  · (repeat' (first | exact rfl | exact trivial | assumption | apply And.intro | (refine fun (_ : Unit) (_ : True) => ?_) | (refine Exists.intro () ?_) | omega | (dsimp only; omega)))
theorem rmore_ok : rmoreC.ok Tryz.prog 41 := byrmore gok0 vrmore
theorem vrnext (i : Rdr) (h : rnextC.cnd i) : Vrnext i := by
  have h0 : i.ok := h
  obtain ⟨h1, h2, h3, h4, h5⟩ := h0
  unfold Vrnext
  simp only [tE_len, iE_len]
  refine ⟨i, ?_⟩
  (repeat' (first | exact rfl | exact trivial | assumption | apply And.intro | (refine fun (_ : Unit) (_ : True) => ?_) | (refine Exists.intro () ?_) | omega | (dsimp only; omega)))
  refine Cv.cnd.mk (fun c => ⟨⟨i, 12, i.end_⟩, ?_⟩) (fun c => ?_)
  · have c : ¬ i.more = true := by simpa using c
    have e1 : i.word = [] := by rw [Rdr.word, if_neg c]
    have e2 : i.here = i.end_ := by rw [Rdr.here, if_neg c]
    have e3 : i.next = i.fail 12 i.end_ := by rw [Rdr.next, if_neg c]
    simp only [e1, e2, e3, fail_end]; (repeat' (first | exact rfl | exact trivial | assumption | apply And.intro | (refine fun (_ : Unit) (_ : True) => ?_) | (refine Exists.intro () ?_) | omega | (dsimp only; omega)))
  · have c : i.more = true := by simpa using c
    have hk : i.k < i.words.length := by
      simp only [Rdr.more, Bool.and_eq_true, decide_eq_true_eq] at c; omega
    have e3 : i.next = { i with k := i.k + 1 } := by rw [Rdr.next, if_pos c]
    have e4 : IntKind.i64.wrap (IntKind.i64.wrap ((i.k : Int) + 1) - 1) = i.k := by
      rw [w64 (x := (i.k : Int) + 1) (by omega), w64 (by omega)]; omega
    have e5 : IntKind.i64.wrap ((i.k : Int) + 1) = ((i.k + 1 : Nat) : Int) := by rw [w64 (by omega)]; rfl
    rw [e4, e5]
    obtain ⟨w, hw⟩ := getI (l := i.words) (i := i.k) hk
    obtain ⟨n, hn⟩ := getI (l := i.at_) (i := i.k) (by omega)
    have e1 : i.word = w := by rw [Rdr.word, if_pos c, List.getD_eq_getElem?_getD, hw]; rfl
    have e2 : i.here = n := by rw [Rdr.here, if_pos c, List.getD_eq_getElem?_getD, hn]; rfl
    refine ⟨⟨by omega, by omega⟩, sb w, elT hw, ⟨by omega, by omega⟩, n, elI hn, (), ?_⟩
    simp only [e1, e2, e3]; (repeat' (first | exact rfl | exact trivial | assumption | apply And.intro | (refine fun (_ : Unit) (_ : True) => ?_) | (refine Exists.intro () ?_) | omega | (dsimp only; omega)))
theorem rnext_ok : rnextC.ok Tryz.prog 42 := byrnext (gokc rmore_ok (gokc rfail_ok gok0)) vrnext
theorem vrnum (i : Rdr) (h : rnumC.cnd i) : Vrnum i := by
  have h0 : i.ok := h
  have hw := word_len h0
  obtain ⟨h1, h2, h3, h4, h5⟩ := h0
  unfold Vrnum
  refine ⟨i, ?_⟩
  (repeat' (first | exact rfl | exact trivial | assumption | apply And.intro | (refine fun (_ : Unit) (_ : True) => ?_) | (refine Exists.intro () ?_) | omega | (dsimp only; omega)))
  refine ⟨i.word, rfl, by omega, fun _ _ => Cv.cnd.mk (fun c => ⟨⟨i.next, 12, i.here⟩, ?_⟩) (fun c => ?_)⟩
  · have c : ¬ (numF i.word).2 = true := by simpa using c
    have e : i.numR = i.next.fail 12 i.here := by rw [Rdr.numR, if_neg c]
    simp only [e, Rdr.num]; (repeat' (first | exact rfl | exact trivial | assumption | apply And.intro | (refine fun (_ : Unit) (_ : True) => ?_) | (refine Exists.intro () ?_) | omega | (dsimp only; omega)))
  · have c : (numF i.word).2 = true := by simpa using c
    have e : i.numR = i.next := by rw [Rdr.numR, if_pos c]
    simp only [e, Rdr.num]; (repeat' (first | exact rfl | exact trivial | assumption | apply And.intro | (refine fun (_ : Unit) (_ : True) => ?_) | (refine Exists.intro () ?_) | omega | (dsimp only; omega)))
theorem rnum_ok : rnumC.ok Tryz.prog 58 := byrnum (gokc rnext_ok (gokc num_ok (gokc rfail_ok gok0))) vrnum
theorem eqB (a b : List UInt8) : ((sb a).toList == (sb b).toList) = decide (a = b) := by
  rw [sb_toList, sb_toList]
  by_cases h : a = b
  · subst h; simp
  · simp [h]
theorem vrmust (i : RmI) (h : rmustC.cnd i) : Vrmust i := by
  have h0 : i.r.ok := h
  have hw := word_len h0
  obtain ⟨h1, h2, h3, h4, h5⟩ := h0
  unfold Vrmust
  refine ⟨i.r, ?_⟩
  (repeat' (first | exact rfl | exact trivial | assumption | apply And.intro | (refine fun (_ : Unit) (_ : True) => ?_) | (refine Exists.intro () ?_) | omega | (dsimp only; omega)))
  refine ⟨i.r.word, rfl, by omega, fun _ _ => ?_⟩
  rw [eqB]
  refine Cv.cnd.mk (fun c => ⟨⟨i.r.next, 12, i.r.here⟩, ?_⟩) (fun c => ?_)
  · have c : ¬ foldF i.r.word = i.w := by simpa using c
    have e : i.r.must i.w = i.r.next.fail 12 i.r.here := by rw [Rdr.must, if_neg c]
    simp only [e]; (repeat' (first | exact rfl | exact trivial | assumption | apply And.intro | (refine fun (_ : Unit) (_ : True) => ?_) | (refine Exists.intro () ?_) | omega | (dsimp only; omega)))
  · have c : foldF i.r.word = i.w := by simpa using c
    have e : i.r.must i.w = i.r.next := by rw [Rdr.must, if_pos c]
    simp only [e]; (repeat' (first | exact rfl | exact trivial | assumption | apply And.intro | (refine fun (_ : Unit) (_ : True) => ?_) | (refine Exists.intro () ?_) | omega | (dsimp only; omega)))
theorem rmust_ok : rmustC.ok Tryz.prog 75 := byrmust (gokc rnext_ok (gokc fold_ok (gokc rfail_ok gok0))) vrmust

theorem like_seen (k : List UInt8) (l : List (List UInt8)) : ∀ p ∈ seenE l, like (Value.string (sb k)) p.1 = true := by
  intro p hp
  obtain ⟨x, _, rfl⟩ := List.mem_map.1 hp
  rfl
theorem vkeq_sb (a b : List UInt8) : vkeq (.string (sb a)) (.string (sb b)) = decide (a = b) := by
  show decide (sb a = sb b) = _
  by_cases h : a = b
  · subst h; simp
  · rw [decide_eq_false h, decide_eq_false (fun e => h (sb_inj e))]
theorem mget_seen (k : List UInt8) : ∀ l, mget (.string (sb k)) (seenE l) = if k ∈ l then some [D.v (.bool true)] else none
  | [] => rfl
  | a :: l => by
    have ih := mget_seen k l
    show (bif vkeq (.string (sb k)) (.string (sb a)) then _ else mget _ (seenE l)) = _
    rw [vkeq_sb, ih]
    by_cases h : k = a
    · subst h; simp
    · simp [h]
theorem mput_seen (k : List UInt8) : ∀ l, k ∉ l → mput (.string (sb k)) [D.v (.bool true)] (seenE l) = seenE (l ++ [k])
  | [], _ => rfl
  | a :: l, h => by
    have ih := mput_seen k l (fun e => h (List.mem_cons_of_mem _ e))
    show (bif vkeq (.string (sb k)) (.string (sb a)) then _ else _ :: mput _ _ (seenE l)) = _
    rw [vkeq_sb, ih, decide_eq_false (show ¬ k = a from fun e => h (by rw [e]; exact List.mem_cons_self))]
    rfl
theorem cLEAST : ByteArray.mk #[76, 69, 65, 83, 84] = sb wLEAST := rfl
theorem cNOW : ByteArray.mk #[78, 79, 87] = sb wNOW := rfl
theorem cWHOLE : ByteArray.mk #[87, 72, 79, 76, 69] = sb wWHOLE := rfl
theorem cLABEL : ByteArray.mk #[76, 65, 66, 69, 76] = sb wLABEL := rfl

theorem vropt (i : Opt) (h : roptC.cnd i) : Vropt i := by
  have h0 : i.r.ok := h
  have hw := word_len h0
  have hn0 : i.r.next.ok := next_rok h0
  have hw2 := word_len hn0
  obtain ⟨h1, h2, h3, h4, h5⟩ := h0
  obtain ⟨n1, n2, n3, n4, n5⟩ := hn0
  unfold Vropt
  simp only [cLEAST, cNOW, cWHOLE, cLABEL, eqB]
  refine ⟨i.r, ?_⟩
  (repeat' (first | exact rfl | exact trivial | assumption | apply And.intro | (refine fun (_ : Unit) (_ : True) => ?_) | (refine Exists.intro () ?_) | omega | (dsimp only; omega)))
  refine ⟨i.r.word, rfl, by omega, fun _ _ => ⟨[], fun k => k = kindW (foldF i.r.word), cndD (fun c => ⟨wNOW, ?_⟩) (fun c => ⟨foldF i.r.word, ?_⟩), fun k hk => ?_⟩⟩
  · have e : kindW (foldF i.r.word) = wNOW := by rw [kindW, if_pos c]
    rw [e]; (repeat' (first | exact rfl | exact trivial | assumption | apply And.intro | (refine fun (_ : Unit) (_ : True) => ?_) | (refine Exists.intro () ?_) | omega | (dsimp only; omega)))
  · have e : kindW (foldF i.r.word) = foldF i.r.word := by rw [kindW, if_neg c]
    rw [e]; (repeat' (first | exact rfl | exact trivial | assumption | apply And.intro | (refine fun (_ : Unit) (_ : True) => ?_) | (refine Exists.intro () ?_) | omega | (dsimp only; omega)))
  subst hk
  generalize hk : kindW (foldF i.r.word) = k
  refine ⟨like_seen k i.seen, decide (k ∈ i.seen), decide (k ∈ i.seen), ?_, ?_⟩
  · rw [mget_seen]
    by_cases hs : k ∈ i.seen
    · rw [if_pos hs, decide_eq_true hs]; exact .inl ⟨rfl, rfl⟩
    · rw [if_neg hs, decide_eq_false hs]; exact .inr ⟨rfl, rfl, rfl⟩
  refine cndD (fun c => ⟨⟨i.r.next, 25, i.r.here⟩, ?_⟩) (fun c => ?_)
  · have e : i.step = ⟨i.r.next.fail 25 i.r.here, i.c, i.seen⟩ := by rw [Opt.step, hk, if_pos c]
    simp only [e]; (repeat' (first | exact rfl | exact trivial | assumption | apply And.intro | (refine fun (_ : Unit) (_ : True) => ?_) | (refine Exists.intro () ?_) | omega | (dsimp only; omega)))
  have e0 : i.step = if foldF i.r.word = wLEAST then ⟨i.r.next.numR, { i.c with least := i.r.next.num }, i.seen ++ [k]⟩
      else if foldF i.r.word = wNOW then ⟨i.r.next, { i.c with time := 2 }, i.seen ++ [k]⟩
      else if foldF i.r.word = wWHOLE then ⟨i.r.next, { i.c with time := 3 }, i.seen ++ [k]⟩
      else if foldF i.r.word = wLABEL then ⟨if labOk i.r.next.word = true then i.r.next.next else i.r.next.next.fail 29 i.r.next.here, { i.c with label := i.r.next.word }, i.seen ++ [k]⟩
      else ⟨i.r.next.fail 12 i.r.here, i.c, i.seen ++ [k]⟩ := by rw [Opt.step, hk, if_neg c]
  rw [mput_seen k i.seen c]
  have ls := like_seen k i.seen
  refine cndD (fun d1 => ⟨i.r.next, ?_⟩) (fun d1 => cndD (fun d2 => ?_) (fun d2 => cndD (fun d3 => ?_) (fun d3 => cndD (fun d4 => ⟨i.r.next, ?_⟩) (fun d4 => ⟨⟨i.r.next, 12, i.r.here⟩, ?_⟩))))
  · have e : i.step = ⟨i.r.next.numR, { i.c with least := i.r.next.num }, i.seen ++ [k]⟩ := by rw [e0, if_pos d1]
    simp only [e]; (repeat' (first | exact rfl | exact trivial | assumption | apply And.intro | (refine fun (_ : Unit) (_ : True) => ?_) | (refine Exists.intro () ?_) | omega | (dsimp only; omega)))
  · have e : i.step = ⟨i.r.next, { i.c with time := 2 }, i.seen ++ [k]⟩ := by rw [e0, if_neg d1, if_pos d2]
    simp only [e]; (repeat' (first | exact rfl | exact trivial | assumption | apply And.intro | (refine fun (_ : Unit) (_ : True) => ?_) | (refine Exists.intro () ?_) | omega | (dsimp only; omega)))
  · have e : i.step = ⟨i.r.next, { i.c with time := 3 }, i.seen ++ [k]⟩ := by rw [e0, if_neg d1, if_neg d2, if_pos d3]
    simp only [e]; (repeat' (first | exact rfl | exact trivial | assumption | apply And.intro | (refine fun (_ : Unit) (_ : True) => ?_) | (refine Exists.intro () ?_) | omega | (dsimp only; omega)))
  · have e : i.step = ⟨if labOk i.r.next.word = true then i.r.next.next else i.r.next.next.fail 29 i.r.next.here, { i.c with label := i.r.next.word }, i.seen ++ [k]⟩ := by rw [e0, if_neg d1, if_neg d2, if_neg d3, if_pos d4]
    (repeat' (first | exact rfl | exact trivial | assumption | apply And.intro | (refine fun (_ : Unit) (_ : True) => ?_) | (refine Exists.intro () ?_) | omega | (dsimp only; omega)))
    refine ⟨i.r.next.word, rfl, by omega, fun _ _ => Cv.cnd.mk (fun f => ⟨⟨i.r.next.next, 29, i.r.next.here⟩, ?_⟩) (fun f => ?_)⟩
    · have f : ¬ labOk i.r.next.word = true := by simpa using f
      rw [if_neg f] at e
      simp only [e]; (repeat' (first | exact rfl | exact trivial | assumption | apply And.intro | (refine fun (_ : Unit) (_ : True) => ?_) | (refine Exists.intro () ?_) | omega | (dsimp only; omega)))
    · have f : labOk i.r.next.word = true := by simpa using f
      rw [if_pos f] at e
      simp only [e]; (repeat' (first | exact rfl | exact trivial | assumption | apply And.intro | (refine fun (_ : Unit) (_ : True) => ?_) | (refine Exists.intro () ?_) | omega | (dsimp only; omega)))
  · have e : i.step = ⟨i.r.next.fail 12 i.r.here, i.c, i.seen ++ [k]⟩ := by rw [e0, if_neg d1, if_neg d2, if_neg d3, if_neg d4]
    simp only [e]; (repeat' (first | exact rfl | exact trivial | assumption | apply And.intro | (refine fun (_ : Unit) (_ : True) => ?_) | (refine Exists.intro () ?_) | omega | (dsimp only; omega)))
theorem ropt_ok : roptC.ok Tryz.prog 76 := byropt (gokc rnext_ok (gokc fold_ok (gokc rfail_ok (gokc rnum_ok (gokc lab_ok gok0))))) vropt

theorem cEMPTY : ByteArray.mk #[] = sb [] := rfl
theorem vcord (c : Cmd) (h : cmdOrdC.cnd c) : Vcord c := by
  have h : c.label.length ≤ 140737488355328 := h
  unfold Vcord
  simp only [cEMPTY, eqB, bneI]
  have tail : ¬ (c.side ≠ 1 ∧ c.side ≠ 2) → cnd (decide (c.time < 1)) (∃ (o : Unit), c.orderE = 27 ∧ True) (cnd (decide (c.time > 3)) (∃ (o : Unit), c.orderE = 27 ∧ True) (cnd (decide (c.qty ≥ 1)) (cnd (!decide (c.qty ≤ 1000000)) (∃ (o : Unit), c.orderE = 24 ∧ True) (cnd (decide (c.least < 0)) (∃ (o : Unit), c.orderE = 28 ∧ True) (cnd (decide (c.least > c.qty)) (∃ (o : Unit), c.orderE = 28 ∧ True) (cnd (!decide (c.label = [])) (∃ (i : List UInt8), sb i = sb c.label ∧ i.length ≤ 140737488355328 ∧ ∀ (o : Unit), True → cnd (!labOk i) (∃ (o : Unit), c.orderE = 29 ∧ True) (cnd (decide (c.price ≥ -2000000)) (cnd (!decide (c.price ≤ 2000000)) (∃ (o : Unit), c.orderE = 23 ∧ True) (cnd (decide (c.inst < 0)) (∃ (o : Unit), c.orderE = 20 ∧ True) (cnd (decide (c.inst > 255)) (∃ (o : Unit), c.orderE = 20 ∧ True) (∃ (o : Unit), c.orderE = 0 ∧ True)))) (∃ (o : Unit), c.orderE = 23 ∧ True))) (cnd (decide (c.price ≥ -2000000)) (cnd (!decide (c.price ≤ 2000000)) (∃ (o : Unit), c.orderE = 23 ∧ True) (cnd (decide (c.inst < 0)) (∃ (o : Unit), c.orderE = 20 ∧ True) (cnd (decide (c.inst > 255)) (∃ (o : Unit), c.orderE = 20 ∧ True) (∃ (o : Unit), c.orderE = 0 ∧ True)))) (∃ (o : Unit), c.orderE = 23 ∧ True)))))) (∃ (o : Unit), c.orderE = 24 ∧ True))) := by
    intro hs
    have e1 : c.orderE = if c.time < 1 ∨ 3 < c.time then 27 else if quantB c.qty = false then 24 else if c.least < 0 ∨ c.qty < c.least then 28
      else if c.label ≠ [] ∧ labOk c.label = false then 29 else if price2 c.price = false then 23 else if c.inst < 0 ∨ 255 < c.inst then 20 else 0 := by rw [Cmd.orderE, if_neg hs]
    refine cndD (fun d1 => ⟨(), by rw [e1, if_pos (.inl d1)], trivial⟩) fun d1 => cndD (fun d2 => ⟨(), by rw [e1, if_pos (.inr d2)], trivial⟩) fun d2 => ?_
    rw [if_neg (by omega)] at e1
    have q (hq : quantB c.qty = false) : ∃ (o : Unit), c.orderE = 24 ∧ True := ⟨(), by rw [e1, if_pos hq], trivial⟩
    refine cndD (fun d3 => Cv.cnd.mk (fun d4 => q ?_) fun d4 => ?_) fun d3 => q ?_
    · have d4 : ¬ c.qty ≤ 1000000 := by simpa using d4
      simp [quantB, d4]
    · have d4 : c.qty ≤ 1000000 := by simpa using d4
      have hq : ¬ quantB c.qty = false := by simp [quantB, d4]; omega
      rw [if_neg hq] at e1
      refine cndD (fun d5 => ⟨(), by rw [e1, if_pos (.inl d5)], trivial⟩) fun d5 => cndD (fun d6 => ⟨(), by rw [e1, if_pos (.inr d6)], trivial⟩) fun d6 => ?_
      rw [if_neg (by omega)] at e1
      have last : ¬ (c.label ≠ [] ∧ labOk c.label = false) → cnd (decide (c.price ≥ -2000000)) (cnd (!decide (c.price ≤ 2000000)) (∃ (o : Unit), c.orderE = 23 ∧ True) (cnd (decide (c.inst < 0)) (∃ (o : Unit), c.orderE = 20 ∧ True) (cnd (decide (c.inst > 255)) (∃ (o : Unit), c.orderE = 20 ∧ True) (∃ (o : Unit), c.orderE = 0 ∧ True)))) (∃ (o : Unit), c.orderE = 23 ∧ True) := by
        intro hl
        rw [if_neg hl] at e1
        have pr (hq : price2 c.price = false) : ∃ (o : Unit), c.orderE = 23 ∧ True := ⟨(), by rw [e1, if_pos hq], trivial⟩
        refine cndD (fun g1 => Cv.cnd.mk (fun g2 => pr ?_) fun g2 => ?_) fun g1 => pr ?_
        · have g2 : ¬ c.price ≤ 2000000 := by simpa using g2
          simp [price2, g2]
        · have g2 : c.price ≤ 2000000 := by simpa using g2
          have hp : ¬ price2 c.price = false := by simp [price2, g2]; omega
          rw [if_neg hp] at e1
          refine cndD (fun g3 => ⟨(), by rw [e1, if_pos (.inl g3)], trivial⟩) fun g3 => cndD (fun g4 => ⟨(), by rw [e1, if_pos (.inr g4)], trivial⟩) fun g4 => ⟨(), by rw [e1, if_neg (by omega)], trivial⟩
        · simp [price2]; omega
      refine Cv.cnd.mk (fun d7 => ⟨c.label, rfl, h, fun _ _ => Cv.cnd.mk (fun d8 => ?_) fun d8 => last ?_⟩) fun d7 => last ?_
      · have d7 : ¬ c.label = [] := by simpa using d7
        have d8 : labOk c.label = false := by simpa using d8
        exact ⟨(), by rw [e1, if_pos ⟨d7, d8⟩], trivial⟩
      · have d8 : labOk c.label = true := by simpa using d8
        simp [d8]
      · have d7 : c.label = [] := by simpa using d7
        simp [d7]
    · simp [quantB]; omega
  refine cndD (fun c1 => cndD (fun c2 => ⟨(), by rw [Cmd.orderE, if_pos ⟨c1, c2⟩], trivial⟩) fun c2 => tail ?_) fun c1 => tail ?_
  · omega
  · omega
theorem cord_ok : cmdOrdC.ok Tryz.prog 44 := bycord (gokc lab_ok gok0) vcord
theorem vright (c : Cmd) (h : rightC.cnd c) : Vright c := by
  have h : c.label.length ≤ 140737488355328 := h
  unfold Vright
  simp only [beqI, bneI]
  refine cndD (fun c1 => ⟨(), by rw [Cmd.right, if_pos (.inl c1)], trivial⟩) fun c1 => cndD (fun c2 => ⟨(), by rw [Cmd.right, if_pos (.inr c2)], trivial⟩) fun c2 => ?_
  refine cndD (fun c3 => ⟨(), by rw [Cmd.right, if_neg (by omega), if_pos (.inl c3)], trivial⟩) fun c3 => cndD (fun c4 => ⟨(), by rw [Cmd.right, if_neg (by omega), if_pos (.inr c4)], trivial⟩) fun c4 => ?_
  have e0 : c.right = if c.kind = 1 then c.orderE else if c.kind ≠ 2 ∧ quantB c.qty = false then 24 else if c.kind = 4 ∧ price2 c.price = false then 23 else 0 := by rw [Cmd.right, if_neg (by omega), if_neg (by omega)]
  refine cndD (fun c5 => ⟨c, ?_⟩) fun c5 => ?_
  · rw [if_pos c5] at e0
    (repeat' (first | exact rfl | exact trivial | assumption | apply And.intro | (refine fun (_ : Unit) (_ : True) => ?_) | (refine Exists.intro () ?_) | omega | (dsimp only; omega)))
  rw [if_neg c5] at e0
  have last (hn : ¬ (c.kind ≠ 2 ∧ quantB c.qty = false)) : cnd (decide (c.kind = 4)) (cnd (decide (c.price ≥ -2000000)) (cnd (!decide (c.price ≤ 2000000)) (∃ (o : Unit), c.right = 23 ∧ True) (∃ (o : Unit), c.right = 0 ∧ True)) (∃ (o : Unit), c.right = 23 ∧ True)) (∃ (o : Unit), c.right = 0 ∧ True) := by
    rw [if_neg hn] at e0
    refine cndD (fun d1 => cndD (fun d2 => Cv.cnd.mk (fun d3 => ?_) fun d3 => ?_) fun d2 => ?_) fun d1 => ?_
    · have d3 : ¬ c.price ≤ 2000000 := by simpa using d3
      exact ⟨(), by rw [e0, if_pos ⟨d1, by simp [price2, d3]⟩], trivial⟩
    · have d3 : c.price ≤ 2000000 := by simpa using d3
      exact ⟨(), by rw [e0, if_neg (by simp [price2, d3]; omega)], trivial⟩
    · exact ⟨(), by rw [e0, if_pos ⟨d1, by simp [price2]; omega⟩], trivial⟩
    · exact ⟨(), by rw [e0, if_neg (by simp [d1])], trivial⟩
  refine cndD (fun d1 => cndD (fun d2 => Cv.cnd.mk (fun d3 => ?_) fun d3 => last ?_) fun d2 => ?_) fun d1 => last ?_
  · have d3 : ¬ c.qty ≤ 1000000 := by simpa using d3
    exact ⟨(), by rw [e0, if_pos ⟨d1, by simp [quantB, d3]⟩], trivial⟩
  · have d3 : c.qty ≤ 1000000 := by simpa using d3
    simp [quantB, d3]; omega
  · exact ⟨(), by rw [e0, if_pos ⟨d1, by simp [quantB]; omega⟩], trivial⟩
  · omega
theorem right_ok : rightC.ok Tryz.prog 25 := byright (gokc cord_ok gok0) vright

end Sx

namespace Sx
set_option linter.unusedVariables false
set_option maxRecDepth 100000
open Go Cv Go.Proofs

def wAT : List UInt8 := [65, 84]
def wID : List UInt8 := [73, 68]
def wCANCEL : List UInt8 := [67, 65, 78, 67, 69, 76]
def wCUT : List UInt8 := [67, 85, 84]
def wCHANGE : List UInt8 := [67, 72, 65, 78, 71, 69]
def wBUY : List UInt8 := [66, 85, 89]
def wSELL : List UInt8 := [83, 69, 76, 76]
/-- Behind the name of an instrument. -/
def Rdr.o1 (r : Rdr) : Rdr := if (r.p.find (foldF r.word)).2 = true then r.next else r.next.fail 20 r.here
def Rdr.o2 (r : Rdr) : Rdr := r.o1.numR.must wAT
def Rdr.o3 (r : Rdr) : Rdr := r.o2.numR.must wID
def Rdr.order0 (r : Rdr) (side : Int) : Opt := ⟨r.o3.numR, ⟨1, r.o3.num, (r.p.find (foldF r.word)).1, side, r.o2.num, r.o1.num, 0, 1, []⟩, []⟩
def Rdr.order (r : Rdr) (side : Int) : Opt := Opt.run r.words.length (r.order0 side)
/-- A line's rows behind a call that gives its lists new names. -/
def RdrU2 (r : Rdr) : Nat → AObj
  | 0 => .cells [sV r.p.code, .own 5, i64V r.p.tick, i64V r.p.low, i64V r.p.high, i64V r.p.wide, i64V r.p.rule, i64V r.p.top, i64V r.p.least, i64V r.p.part, .own 6, .own 7, .own 8, i64V r.end_, i64V r.k, i64V r.why, i64V r.place] tR
  | 5 => .fro 1 (iE r.p.months)
  | 6 => .fro 1 (iE r.p.settle)
  | 7 => .fro 1 (tE r.words)
  | 8 => .fro 1 (iE r.at_)
  | _ => .gone
@[reducible] def rdrRows2 (r : Rdr) : List AObj := [RdrU2 r 0, RdrU2 r 1, RdrU2 r 2, RdrU2 r 3, RdrU2 r 4, RdrU2 r 5, RdrU2 r 6, RdrU2 r 7, RdrU2 r 8]
structure RoI where
  r : Rdr
  side : Int
def rorderC : Con := con1 RoI (fun i => [.nm 0 0, i64V i.side]) (fun i => rdrRows (i.r)) (fun i => i.r.ok) (fun i => cmdV (i.r.order i.side).c) (fun i => rdrRows2 (i.r.order i.side).r)
def Rdr.cmd (r : Rdr) : Rdr × Cmd :=
  if r.words = [] then (r.fail 31 r.end_, cmd0)
  else if foldF r.word = wCANCEL then (r.next.numR, ⟨2, r.next.num, 0, 0, 0, 0, 0, 0, []⟩)
  else if foldF r.word = wCUT then (r.next.numR.numR, ⟨3, r.next.num, 0, 0, 0, r.next.numR.num, 0, 0, []⟩)
  else if foldF r.word = wCHANGE then (r.next.numR.numR.numR, ⟨4, r.next.num, 0, 0, r.next.numR.num, r.next.numR.numR.num, 0, 0, []⟩)
  else if foldF r.word = wBUY then ((r.next.order 1).r, (r.next.order 1).c)
  else if foldF r.word = wSELL then ((r.next.order 2).r, (r.next.order 2).c)
  else (r.next.fail 31 r.here, cmd0)
def rcmdC : Con := con1 Rdr (fun i => [.nm 0 0]) (fun i => rdrRows (i)) (fun i => i.ok) (fun i => cmdV i.cmd.2) (fun i => rdrRows2 i.cmd.1)
def rdr0 (p : Prd) (s : List UInt8) : Rdr := ⟨p, wordsL s, wordsA s, (runes s).length, 0, 0, 0⟩
/-- What is left behind a command is refused. -/
def Rdr.rest (r : Rdr) : Rdr := if r.more = true then r.next.fail 12 r.here else r
def parseF (p : Prd) (s : List UInt8) : Cmd × Int × Int :=
  if (rdr0 p s).cmd.1.rest.why ≠ 0 then (cmd0, (rdr0 p s).cmd.1.rest.why, (rdr0 p s).cmd.1.rest.place)
  else if (rdr0 p s).cmd.2.right ≠ 0 then (cmd0, (rdr0 p s).cmd.2.right, 0) else ((rdr0 p s).cmd.2, 0, 0)
def parseC : Con := con1 FndI (fun i => [prdV i.p, sV i.s]) (fun _ => []) (fun i => i.p.small ∧ i.s.length ≤ 1048576) (fun i => .tup [cmdV (parseF i.p i.s).1, i64V (parseF i.p i.s).2.1, i64V (parseF i.p i.s).2.2]) (fun _ => [])
structure HdI where
  s : List UInt8
  n : Int
def headF (s : List UInt8) (n : Int) : List UInt8 := if n < (s.length : Int) then s.take n.toNat else s
def headC : Con := con1 HdI (fun i => [sV i.s, i64V i.n]) (fun _ => []) (fun i => 0 ≤ i.n ∧ i.n ≤ 1000000 ∧ i.s.length ≤ 9223372036854775807) (fun i => sV (headF i.s i.n)) (fun _ => [])
def known27C : Con := con1 Unit (fun _ => []) (fun _ => []) (fun _ => True) (fun _ => boolV true) (fun _ => [])

def orderA (i : RoI) : List SAnn := [{ ι := Opt, slots := fun x => [(0, .nm 0 0), (5, .nm 5 0), (10, .mp 6)], rows := fun x => rdrRows x.r ++ [cmdR x.c, .map (seenE x.seen)] }]
def orderJ : List (Nat × SAnn) := [(18, { ι := Rdr, slots := fun r => [(0, .nm 0 0)], rows := fun r => rdrRows r, slots0 := fun r => [(0, .nm 0 0)], rows0 := fun r => rdrRows r })]
def parseJ : List (Nat × SAnn) := [(18, { ι := Rdr, slots := fun r => [(9, .nm 0 0)], rows := fun r => rdrRows r, slots0 := fun r => [(9, .nm 0 0)], rows0 := fun r => rdrRows r })]
structure WiI where
  n : Int
  lo : Int
  hi : Int
def within (n lo hi : Int) : Int := lo + n % (hi - lo + 1)
def withinC : Con := con1 WiI (fun i => [i64V i.n, i64V i.lo, i64V i.hi]) (fun _ => []) (fun i => i64r i.n ∧ -1000000 ≤ i.lo ∧ i.lo ≤ i.hi ∧ i.hi ≤ 1000000) (fun i => i64V (within i.n i.lo i.hi)) (fun _ => [])
def three (rule : Int) : Prd := ⟨[67, 76], [320, 321, 323], 5, 0, 1000, 200, rule, 4, 2, 40, [500, 505, 490]⟩
def threeC : Con := con1 Int (fun n => [i64V n]) (fun _ => []) (fun _ => True) (fun n => prdV (three n)) (fun _ => [])

end Sx

namespace Sx
set_option linter.unusedVariables false
set_option maxRecDepth 100000
open Go Cv Go.Proofs
def Vwithin (i : WiI) : Prop :=
  IntKind.i64 = IntKind.i64 ∧ IntKind.i64.wrap (IntKind.i64.wrap (i.hi - i.lo) + (1 : Int)) ≠ (0 : Int) ∧ cnd (decide (i.n.tmod (IntKind.i64.wrap (IntKind.i64.wrap (i.hi - i.lo) + (1 : Int))) < (0 : Int))) (∃ (o : Unit), within i.n i.lo i.hi = IntKind.i64.wrap (i.lo + IntKind.i64.wrap (IntKind.i64.wrap (IntKind.i64.wrap (i.n.tmod (IntKind.i64.wrap (IntKind.i64.wrap (i.hi - i.lo) + (1 : Int))) + i.hi) - i.lo) + (1 : Int))) ∧ True) (∃ (o : Unit), within i.n i.lo i.hi = IntKind.i64.wrap (i.lo + i.n.tmod (IntKind.i64.wrap (IntKind.i64.wrap (i.hi - i.lo) + (1 : Int)))) ∧ True)
theorem eqwithin (i : WiI) : Vwithin i = walk Tryz.prog ([]) 0 ([]) ([]) [] Tryz.f10 (Tryz.f10.body.getD .skip) (withinC.pat i) (withinC.pre i) (withinC.alts i) := by kernel_rfl

theorem bywithin (hG : GOk Tryz.prog ([])) (h : ∀ (i : WiI), withinC.cnd i → Vwithin i) : withinC.ok Tryz.prog 10 := ok_of_walk mixed ([]) hG 0 (fun (i : WiI) => []) (fun (i : WiI) => []) [] Tryz.func10 (by kernel_rfl) (by kernel_rfl) (by kernel_rfl) (fun _ => by kernel_rfl) (fun (i : WiI) hc => Eq.mp (eqwithin i) (h i hc))

def Vthree (n : Int) : Prop :=
  ∃ (o : Unit), sb [(67 : UInt8), (76 : UInt8)] = ByteArray.mk #[(67 : UInt8), (76 : UInt8)] ∧ iE [(320 : Int), (321 : Int), (323 : Int)] = [[D.v (.int .i64 320)], [D.v (.int .i64 321)], [D.v (.int .i64 323)]] ∧ (5 : Int) = (5 : Int) ∧ (0 : Int) = (0 : Int) ∧ (1000 : Int) = (1000 : Int) ∧ (200 : Int) = (200 : Int) ∧ n = n ∧ (4 : Int) = (4 : Int) ∧ (2 : Int) = (2 : Int) ∧ (40 : Int) = (40 : Int) ∧ iE [(500 : Int), (505 : Int), (490 : Int)] = [[D.v (.int .i64 500)], [D.v (.int .i64 505)], [D.v (.int .i64 490)]] ∧ True
theorem eqthree (n : Int) : Vthree n = walk Tryz.prog ([]) 0 ([]) ([]) [] Tryz.f29 (Tryz.f29.body.getD .skip) (threeC.pat n) (threeC.pre n) (threeC.alts n) := by kernel_rfl

theorem bythree (hG : GOk Tryz.prog ([])) (h : ∀ (n : Int), threeC.cnd n → Vthree n) : threeC.ok Tryz.prog 29 := ok_of_walk mixed ([]) hG 0 (fun (n : Int) => []) (fun (n : Int) => []) [] Tryz.func29 (by kernel_rfl) (by kernel_rfl) (by kernel_rfl) (fun _ => by kernel_rfl) (fun (n : Int) hc => Eq.mp (eqthree n) (h n hc))

def Vhead (i : HdI) : Prop :=
  cnd (decide ((↑(sb i.s).size : Int) > i.n)) (((0 : Int) ≤ i.n ∧ i.n ≤ (↑(sb i.s).size : Int)) ∧ ∃ (o : Unit), sb (headF i.s i.n) = (sb i.s).extract (0 : Nat) i.n.toNat ∧ True) (∃ (o : Unit), sb (headF i.s i.n) = sb i.s ∧ True)
theorem eqhead (i : HdI) : Vhead i = walk Tryz.prog ([]) 0 ([]) ([]) [] Tryz.f5 (Tryz.f5.body.getD .skip) (headC.pat i) (headC.pre i) (headC.alts i) := by kernel_rfl

theorem byhead (hG : GOk Tryz.prog ([])) (h : ∀ (i : HdI), headC.cnd i → Vhead i) : headC.ok Tryz.prog 5 := ok_of_walk mixed ([]) hG 0 (fun (i : HdI) => []) (fun (i : HdI) => []) [] Tryz.func5 (by kernel_rfl) (by kernel_rfl) (by kernel_rfl) (fun _ => by kernel_rfl) (fun (i : HdI) hc => Eq.mp (eqhead i) (h i hc))

@[reducible] def Vrordr0 (i : RoI) : AObj := Sx.AObj.cells [V.d (D.v (.int .i64 1)), V.d (D.v (.int .i64 0)), V.d (D.v (.int .i64 0)), V.d (D.v (.int .i64 i.side)), V.d (D.v (.int .i64 0)), V.d (D.v (.int .i64 0)), V.d (D.v (.int .i64 0)), V.d (D.v (.int .i64 1)), V.d (D.v (Value.string (ByteArray.mk #[])))] (28 : Nat)
@[reducible] def Vrordr1  : AObj := Sx.AObj.cells (Sx.V.agg [V.d (D.v (.int .i64 0)), V.d (D.v (.int .i64 0)), V.d (D.v (.int .i64 0)), V.d (D.v (.int .i64 0)), V.d (D.v (.int .i64 0)), V.d (D.v (.int .i64 0)), V.d (D.v (.int .i64 0)), V.d (D.v (.int .i64 0)), V.d (D.v (Value.string (ByteArray.mk #[])))]).cl (28 : Nat)
def Vrord (i : RoI) : Prop :=
  ∃ (i_1 : Rdr), sb i_1.p.code = sb i.r.p.code ∧ i_1.p.tick = i.r.p.tick ∧ i_1.p.low = i.r.p.low ∧ i_1.p.high = i.r.p.high ∧ i_1.p.wide = i.r.p.wide ∧ i_1.p.rule = i.r.p.rule ∧ i_1.p.top = i.r.p.top ∧ i_1.p.least = i.r.p.least ∧ i_1.p.part = i.r.p.part ∧ i_1.end_ = i.r.end_ ∧ (↑i_1.k : Int) = (↑i.r.k : Int) ∧ i_1.why = i.r.why ∧ i_1.place = i.r.place ∧ AObj.fro (1 : Nat) (iE i_1.p.months) = RdrU i.r (1 : Nat) ∧ AObj.fro (1 : Nat) (iE i_1.p.settle) = RdrU i.r (2 : Nat) ∧ AObj.fro (1 : Nat) (tE i_1.words) = RdrU i.r (3 : Nat) ∧ AObj.fro (1 : Nat) (iE i_1.at_) = RdrU i.r (4 : Nat) ∧ ((i_1.p.code.length ≤ (140737488355328 : Nat) ∧ i_1.p.months.length ≤ (140737488355328 : Nat) ∧ i_1.p.settle.length ≤ (140737488355328 : Nat)) ∧ i_1.at_.length = i_1.words.length ∧ i_1.words.length ≤ (1048576 : Nat) ∧ i_1.k ≤ i_1.words.length ∧ ∀ (w : List UInt8), w ∈ i_1.words → w.length ≤ (1048576 : Nat)) ∧ ∀ (o : Unit), True → ∃ (i_2 : List UInt8), sb i_2 = sb i_1.word ∧ i_2.length ≤ (1099511627776 : Nat) ∧ ∀ (o : Unit), True → (sb i_1.next.p.code = sb i_1.next.p.code ∧ True ∧ i_1.next.p.tick = i_1.next.p.tick ∧ i_1.next.p.low = i_1.next.p.low ∧ i_1.next.p.high = i_1.next.p.high ∧ i_1.next.p.wide = i_1.next.p.wide ∧ i_1.next.p.rule = i_1.next.p.rule ∧ i_1.next.p.top = i_1.next.p.top ∧ i_1.next.p.least = i_1.next.p.least ∧ i_1.next.p.part = i_1.next.p.part ∧ True ∧ True) ∧ ∃ (i_3 : FndI), sb i_3.p.code = sb i_1.next.p.code ∧ iE i_3.p.months = iE i_1.next.p.months ∧ i_3.p.tick = i_1.next.p.tick ∧ i_3.p.low = i_1.next.p.low ∧ i_3.p.high = i_1.next.p.high ∧ i_3.p.wide = i_1.next.p.wide ∧ i_3.p.rule = i_1.next.p.rule ∧ i_3.p.top = i_1.next.p.top ∧ i_3.p.least = i_1.next.p.least ∧ i_3.p.part = i_1.next.p.part ∧ iE i_3.p.settle = iE i_1.next.p.settle ∧ sb i_3.s = sb (foldF i_2) ∧ (i_3.p.code.length ≤ (140737488355328 : Nat) ∧ i_3.p.months.length ≤ (140737488355328 : Nat) ∧ i_3.p.settle.length ≤ (140737488355328 : Nat)) ∧ ∀ (o : Unit), True → ∃ (i0 : Rdr), sb i0.p.code = sb i_1.next.p.code ∧ i0.p.tick = i_1.next.p.tick ∧ i0.p.low = i_1.next.p.low ∧ i0.p.high = i_1.next.p.high ∧ i0.p.wide = i_1.next.p.wide ∧ i0.p.rule = i_1.next.p.rule ∧ i0.p.top = i_1.next.p.top ∧ i0.p.least = i_1.next.p.least ∧ i0.p.part = i_1.next.p.part ∧ i0.end_ = i_1.next.end_ ∧ (↑i0.k : Int) = (↑i_1.next.k : Int) ∧ i0.why = i_1.next.why ∧ i0.place = i_1.next.place ∧ AObj.fro (1 : Nat) (iE i0.p.months) = AObj.fro (1 : Nat) (iE i_1.next.p.months) ∧ AObj.fro (1 : Nat) (iE i0.p.settle) = AObj.fro (1 : Nat) (iE i_1.next.p.settle) ∧ AObj.fro (1 : Nat) (tE i0.words) = AObj.fro (1 : Nat) (tE i_1.next.words) ∧ AObj.fro (1 : Nat) (iE i0.at_) = AObj.fro (1 : Nat) (iE i_1.next.at_) ∧ ∃ (I : Rdr → Prop), cnd (!(i_3.p.find i_3.s).snd) (∃ (i_4 : RfI), i_4.why = (20 : Int) ∧ i_4.place = i_1.here ∧ sb i_4.r.p.code = sb i0.p.code ∧ i_4.r.p.tick = i0.p.tick ∧ i_4.r.p.low = i0.p.low ∧ i_4.r.p.high = i0.p.high ∧ i_4.r.p.wide = i0.p.wide ∧ i_4.r.p.rule = i0.p.rule ∧ i_4.r.p.top = i0.p.top ∧ i_4.r.p.least = i0.p.least ∧ i_4.r.p.part = i0.p.part ∧ i_4.r.end_ = i0.end_ ∧ (↑i_4.r.k : Int) = (↑i0.k : Int) ∧ i_4.r.why = i0.why ∧ i_4.r.place = i0.place ∧ AObj.fro (1 : Nat) (iE i_4.r.p.months) = AObj.fro (1 : Nat) (iE i0.p.months) ∧ AObj.fro (1 : Nat) (iE i_4.r.p.settle) = AObj.fro (1 : Nat) (iE i0.p.settle) ∧ AObj.fro (1 : Nat) (tE i_4.r.words) = AObj.fro (1 : Nat) (tE i0.words) ∧ AObj.fro (1 : Nat) (iE i_4.r.at_) = AObj.fro (1 : Nat) (iE i0.at_) ∧ True ∧ ∀ (o : Unit), True → ∃ (i' : Rdr), sb i'.p.code = sb (i_4.r.fail i_4.why i_4.place).p.code ∧ i'.p.tick = (i_4.r.fail i_4.why i_4.place).p.tick ∧ i'.p.low = (i_4.r.fail i_4.why i_4.place).p.low ∧ i'.p.high = (i_4.r.fail i_4.why i_4.place).p.high ∧ i'.p.wide = (i_4.r.fail i_4.why i_4.place).p.wide ∧ i'.p.rule = (i_4.r.fail i_4.why i_4.place).p.rule ∧ i'.p.top = (i_4.r.fail i_4.why i_4.place).p.top ∧ i'.p.least = (i_4.r.fail i_4.why i_4.place).p.least ∧ i'.p.part = (i_4.r.fail i_4.why i_4.place).p.part ∧ i'.end_ = (i_4.r.fail i_4.why i_4.place).end_ ∧ (↑i'.k : Int) = (↑(i_4.r.fail i_4.why i_4.place).k : Int) ∧ i'.why = (i_4.r.fail i_4.why i_4.place).why ∧ i'.place = (i_4.r.fail i_4.why i_4.place).place ∧ AObj.fro (1 : Nat) (iE i'.p.months) = AObj.fro (1 : Nat) (iE (i_4.r.fail i_4.why i_4.place).p.months) ∧ AObj.fro (1 : Nat) (iE i'.p.settle) = AObj.fro (1 : Nat) (iE (i_4.r.fail i_4.why i_4.place).p.settle) ∧ AObj.fro (1 : Nat) (tE i'.words) = AObj.fro (1 : Nat) (tE (i_4.r.fail i_4.why i_4.place).words) ∧ AObj.fro (1 : Nat) (iE i'.at_) = AObj.fro (1 : Nat) (iE (i_4.r.fail i_4.why i_4.place).at_) ∧ I i' ∧ AObj.fro (1 : Nat) (iE i_1.next.p.months) = AObj.fro (1 : Nat) (iE i_1.next.p.months) ∧ AObj.fro (1 : Nat) (iE i_1.next.p.settle) = AObj.fro (1 : Nat) (iE i_1.next.p.settle) ∧ AObj.fro (1 : Nat) (tE i_1.next.words) = AObj.fro (1 : Nat) (tE i_1.next.words) ∧ AObj.fro (1 : Nat) (iE i_1.next.at_) = AObj.fro (1 : Nat) (iE i_1.next.at_) ∧ Vrordr0 i = Vrordr0 i ∧ Vrordr1 = Vrordr1 ∧ RdrU i.r (1 : Nat) = RdrU i.r (1 : Nat) ∧ RdrU i.r (2 : Nat) = RdrU i.r (2 : Nat) ∧ RdrU i.r (3 : Nat) = RdrU i.r (3 : Nat) ∧ RdrU i.r (4 : Nat) = RdrU i.r (4 : Nat)) (∃ (i' : Rdr), sb i'.p.code = sb i0.p.code ∧ i'.p.tick = i0.p.tick ∧ i'.p.low = i0.p.low ∧ i'.p.high = i0.p.high ∧ i'.p.wide = i0.p.wide ∧ i'.p.rule = i0.p.rule ∧ i'.p.top = i0.p.top ∧ i'.p.least = i0.p.least ∧ i'.p.part = i0.p.part ∧ i'.end_ = i0.end_ ∧ (↑i'.k : Int) = (↑i0.k : Int) ∧ i'.why = i0.why ∧ i'.place = i0.place ∧ AObj.fro (1 : Nat) (iE i'.p.months) = AObj.fro (1 : Nat) (iE i0.p.months) ∧ AObj.fro (1 : Nat) (iE i'.p.settle) = AObj.fro (1 : Nat) (iE i0.p.settle) ∧ AObj.fro (1 : Nat) (tE i'.words) = AObj.fro (1 : Nat) (tE i0.words) ∧ AObj.fro (1 : Nat) (iE i'.at_) = AObj.fro (1 : Nat) (iE i0.at_) ∧ I i' ∧ AObj.fro (1 : Nat) (iE i_1.next.p.months) = AObj.fro (1 : Nat) (iE i_1.next.p.months) ∧ AObj.fro (1 : Nat) (iE i_1.next.p.settle) = AObj.fro (1 : Nat) (iE i_1.next.p.settle) ∧ AObj.fro (1 : Nat) (tE i_1.next.words) = AObj.fro (1 : Nat) (tE i_1.next.words) ∧ AObj.fro (1 : Nat) (iE i_1.next.at_) = AObj.fro (1 : Nat) (iE i_1.next.at_) ∧ Vrordr0 i = Vrordr0 i ∧ Vrordr1 = Vrordr1 ∧ RdrU i.r (1 : Nat) = RdrU i.r (1 : Nat) ∧ RdrU i.r (2 : Nat) = RdrU i.r (2 : Nat) ∧ RdrU i.r (3 : Nat) = RdrU i.r (3 : Nat) ∧ RdrU i.r (4 : Nat) = RdrU i.r (4 : Nat)) ∧ ∀ (i_4 : Rdr), I i_4 → ∃ (i_5 : Rdr), sb i_5.p.code = sb i_4.p.code ∧ i_5.p.tick = i_4.p.tick ∧ i_5.p.low = i_4.p.low ∧ i_5.p.high = i_4.p.high ∧ i_5.p.wide = i_4.p.wide ∧ i_5.p.rule = i_4.p.rule ∧ i_5.p.top = i_4.p.top ∧ i_5.p.least = i_4.p.least ∧ i_5.p.part = i_4.p.part ∧ i_5.end_ = i_4.end_ ∧ (↑i_5.k : Int) = (↑i_4.k : Int) ∧ i_5.why = i_4.why ∧ i_5.place = i_4.place ∧ AObj.fro (1 : Nat) (iE i_5.p.months) = AObj.fro (1 : Nat) (iE i_4.p.months) ∧ AObj.fro (1 : Nat) (iE i_5.p.settle) = AObj.fro (1 : Nat) (iE i_4.p.settle) ∧ AObj.fro (1 : Nat) (tE i_5.words) = AObj.fro (1 : Nat) (tE i_4.words) ∧ AObj.fro (1 : Nat) (iE i_5.at_) = AObj.fro (1 : Nat) (iE i_4.at_) ∧ ((i_5.p.code.length ≤ (140737488355328 : Nat) ∧ i_5.p.months.length ≤ (140737488355328 : Nat) ∧ i_5.p.settle.length ≤ (140737488355328 : Nat)) ∧ i_5.at_.length = i_5.words.length ∧ i_5.words.length ≤ (1048576 : Nat) ∧ i_5.k ≤ i_5.words.length ∧ ∀ (w : List UInt8), w ∈ i_5.words → w.length ≤ (1048576 : Nat)) ∧ ∀ (o : Unit), True → ∃ (i_6 : RmI), sb i_6.w = ByteArray.mk #[(65 : UInt8), (84 : UInt8)] ∧ sb i_6.r.p.code = sb i_5.numR.p.code ∧ i_6.r.p.tick = i_5.numR.p.tick ∧ i_6.r.p.low = i_5.numR.p.low ∧ i_6.r.p.high = i_5.numR.p.high ∧ i_6.r.p.wide = i_5.numR.p.wide ∧ i_6.r.p.rule = i_5.numR.p.rule ∧ i_6.r.p.top = i_5.numR.p.top ∧ i_6.r.p.least = i_5.numR.p.least ∧ i_6.r.p.part = i_5.numR.p.part ∧ i_6.r.end_ = i_5.numR.end_ ∧ (↑i_6.r.k : Int) = (↑i_5.numR.k : Int) ∧ i_6.r.why = i_5.numR.why ∧ i_6.r.place = i_5.numR.place ∧ AObj.fro (1 : Nat) (iE i_6.r.p.months) = AObj.fro (1 : Nat) (iE i_5.numR.p.months) ∧ AObj.fro (1 : Nat) (iE i_6.r.p.settle) = AObj.fro (1 : Nat) (iE i_5.numR.p.settle) ∧ AObj.fro (1 : Nat) (tE i_6.r.words) = AObj.fro (1 : Nat) (tE i_5.numR.words) ∧ AObj.fro (1 : Nat) (iE i_6.r.at_) = AObj.fro (1 : Nat) (iE i_5.numR.at_) ∧ ((i_6.r.p.code.length ≤ (140737488355328 : Nat) ∧ i_6.r.p.months.length ≤ (140737488355328 : Nat) ∧ i_6.r.p.settle.length ≤ (140737488355328 : Nat)) ∧ i_6.r.at_.length = i_6.r.words.length ∧ i_6.r.words.length ≤ (1048576 : Nat) ∧ i_6.r.k ≤ i_6.r.words.length ∧ ∀ (w : List UInt8), w ∈ i_6.r.words → w.length ≤ (1048576 : Nat)) ∧ ∀ (o : Unit), True → ∃ (i_7 : Rdr), sb i_7.p.code = sb (i_6.r.must i_6.w).p.code ∧ i_7.p.tick = (i_6.r.must i_6.w).p.tick ∧ i_7.p.low = (i_6.r.must i_6.w).p.low ∧ i_7.p.high = (i_6.r.must i_6.w).p.high ∧ i_7.p.wide = (i_6.r.must i_6.w).p.wide ∧ i_7.p.rule = (i_6.r.must i_6.w).p.rule ∧ i_7.p.top = (i_6.r.must i_6.w).p.top ∧ i_7.p.least = (i_6.r.must i_6.w).p.least ∧ i_7.p.part = (i_6.r.must i_6.w).p.part ∧ i_7.end_ = (i_6.r.must i_6.w).end_ ∧ (↑i_7.k : Int) = (↑(i_6.r.must i_6.w).k : Int) ∧ i_7.why = (i_6.r.must i_6.w).why ∧ i_7.place = (i_6.r.must i_6.w).place ∧ AObj.fro (1 : Nat) (iE i_7.p.months) = AObj.fro (1 : Nat) (iE (i_6.r.must i_6.w).p.months) ∧ AObj.fro (1 : Nat) (iE i_7.p.settle) = AObj.fro (1 : Nat) (iE (i_6.r.must i_6.w).p.settle) ∧ AObj.fro (1 : Nat) (tE i_7.words) = AObj.fro (1 : Nat) (tE (i_6.r.must i_6.w).words) ∧ AObj.fro (1 : Nat) (iE i_7.at_) = AObj.fro (1 : Nat) (iE (i_6.r.must i_6.w).at_) ∧ ((i_7.p.code.length ≤ (140737488355328 : Nat) ∧ i_7.p.months.length ≤ (140737488355328 : Nat) ∧ i_7.p.settle.length ≤ (140737488355328 : Nat)) ∧ i_7.at_.length = i_7.words.length ∧ i_7.words.length ≤ (1048576 : Nat) ∧ i_7.k ≤ i_7.words.length ∧ ∀ (w : List UInt8), w ∈ i_7.words → w.length ≤ (1048576 : Nat)) ∧ ∀ (o : Unit), True → ∃ (i_8 : RmI), sb i_8.w = ByteArray.mk #[(73 : UInt8), (68 : UInt8)] ∧ sb i_8.r.p.code = sb i_7.numR.p.code ∧ i_8.r.p.tick = i_7.numR.p.tick ∧ i_8.r.p.low = i_7.numR.p.low ∧ i_8.r.p.high = i_7.numR.p.high ∧ i_8.r.p.wide = i_7.numR.p.wide ∧ i_8.r.p.rule = i_7.numR.p.rule ∧ i_8.r.p.top = i_7.numR.p.top ∧ i_8.r.p.least = i_7.numR.p.least ∧ i_8.r.p.part = i_7.numR.p.part ∧ i_8.r.end_ = i_7.numR.end_ ∧ (↑i_8.r.k : Int) = (↑i_7.numR.k : Int) ∧ i_8.r.why = i_7.numR.why ∧ i_8.r.place = i_7.numR.place ∧ AObj.fro (1 : Nat) (iE i_8.r.p.months) = AObj.fro (1 : Nat) (iE i_7.numR.p.months) ∧ AObj.fro (1 : Nat) (iE i_8.r.p.settle) = AObj.fro (1 : Nat) (iE i_7.numR.p.settle) ∧ AObj.fro (1 : Nat) (tE i_8.r.words) = AObj.fro (1 : Nat) (tE i_7.numR.words) ∧ AObj.fro (1 : Nat) (iE i_8.r.at_) = AObj.fro (1 : Nat) (iE i_7.numR.at_) ∧ ((i_8.r.p.code.length ≤ (140737488355328 : Nat) ∧ i_8.r.p.months.length ≤ (140737488355328 : Nat) ∧ i_8.r.p.settle.length ≤ (140737488355328 : Nat)) ∧ i_8.r.at_.length = i_8.r.words.length ∧ i_8.r.words.length ≤ (1048576 : Nat) ∧ i_8.r.k ≤ i_8.r.words.length ∧ ∀ (w : List UInt8), w ∈ i_8.r.words → w.length ≤ (1048576 : Nat)) ∧ ∀ (o : Unit), True → ∃ (i_9 : Rdr), sb i_9.p.code = sb (i_8.r.must i_8.w).p.code ∧ i_9.p.tick = (i_8.r.must i_8.w).p.tick ∧ i_9.p.low = (i_8.r.must i_8.w).p.low ∧ i_9.p.high = (i_8.r.must i_8.w).p.high ∧ i_9.p.wide = (i_8.r.must i_8.w).p.wide ∧ i_9.p.rule = (i_8.r.must i_8.w).p.rule ∧ i_9.p.top = (i_8.r.must i_8.w).p.top ∧ i_9.p.least = (i_8.r.must i_8.w).p.least ∧ i_9.p.part = (i_8.r.must i_8.w).p.part ∧ i_9.end_ = (i_8.r.must i_8.w).end_ ∧ (↑i_9.k : Int) = (↑(i_8.r.must i_8.w).k : Int) ∧ i_9.why = (i_8.r.must i_8.w).why ∧ i_9.place = (i_8.r.must i_8.w).place ∧ AObj.fro (1 : Nat) (iE i_9.p.months) = AObj.fro (1 : Nat) (iE (i_8.r.must i_8.w).p.months) ∧ AObj.fro (1 : Nat) (iE i_9.p.settle) = AObj.fro (1 : Nat) (iE (i_8.r.must i_8.w).p.settle) ∧ AObj.fro (1 : Nat) (tE i_9.words) = AObj.fro (1 : Nat) (tE (i_8.r.must i_8.w).words) ∧ AObj.fro (1 : Nat) (iE i_9.at_) = AObj.fro (1 : Nat) (iE (i_8.r.must i_8.w).at_) ∧ ((i_9.p.code.length ≤ (140737488355328 : Nat) ∧ i_9.p.months.length ≤ (140737488355328 : Nat) ∧ i_9.p.settle.length ≤ (140737488355328 : Nat)) ∧ i_9.at_.length = i_9.words.length ∧ i_9.words.length ≤ (1048576 : Nat) ∧ i_9.k ≤ i_9.words.length ∧ ∀ (w : List UInt8), w ∈ i_9.words → w.length ≤ (1048576 : Nat)) ∧ ∀ (o : Unit), True → ∃ (i0 : Opt), sb i0.r.p.code = sb i_9.numR.p.code ∧ i0.r.p.tick = i_9.numR.p.tick ∧ i0.r.p.low = i_9.numR.p.low ∧ i0.r.p.high = i_9.numR.p.high ∧ i0.r.p.wide = i_9.numR.p.wide ∧ i0.r.p.rule = i_9.numR.p.rule ∧ i0.r.p.top = i_9.numR.p.top ∧ i0.r.p.least = i_9.numR.p.least ∧ i0.r.p.part = i_9.numR.p.part ∧ i0.r.end_ = i_9.numR.end_ ∧ (↑i0.r.k : Int) = (↑i_9.numR.k : Int) ∧ i0.r.why = i_9.numR.why ∧ i0.r.place = i_9.numR.place ∧ AObj.fro (1 : Nat) (iE i0.r.p.months) = AObj.fro (1 : Nat) (iE i_9.numR.p.months) ∧ AObj.fro (1 : Nat) (iE i0.r.p.settle) = AObj.fro (1 : Nat) (iE i_9.numR.p.settle) ∧ AObj.fro (1 : Nat) (tE i0.r.words) = AObj.fro (1 : Nat) (tE i_9.numR.words) ∧ AObj.fro (1 : Nat) (iE i0.r.at_) = AObj.fro (1 : Nat) (iE i_9.numR.at_) ∧ i0.c.kind = (1 : Int) ∧ i0.c.id = i_9.num ∧ i0.c.inst = (i_3.p.find i_3.s).fst ∧ i0.c.side = i.side ∧ i0.c.price = i_7.num ∧ i0.c.qty = i_5.num ∧ i0.c.least = (0 : Int) ∧ i0.c.time = (1 : Int) ∧ sb i0.c.label = ByteArray.mk #[] ∧ seenE i0.seen = [] ∧ ∃ (I : Opt → Prop), ∃ (μ : Opt → Nat), I i0 ∧ ∀ (i_10 : Opt), I i_10 → ∃ (i_11 : Rdr), sb i_11.p.code = sb i_10.r.p.code ∧ i_11.p.tick = i_10.r.p.tick ∧ i_11.p.low = i_10.r.p.low ∧ i_11.p.high = i_10.r.p.high ∧ i_11.p.wide = i_10.r.p.wide ∧ i_11.p.rule = i_10.r.p.rule ∧ i_11.p.top = i_10.r.p.top ∧ i_11.p.least = i_10.r.p.least ∧ i_11.p.part = i_10.r.p.part ∧ i_11.end_ = i_10.r.end_ ∧ (↑i_11.k : Int) = (↑i_10.r.k : Int) ∧ i_11.why = i_10.r.why ∧ i_11.place = i_10.r.place ∧ AObj.fro (1 : Nat) (iE i_11.p.months) = AObj.fro (1 : Nat) (iE i_10.r.p.months) ∧ AObj.fro (1 : Nat) (iE i_11.p.settle) = AObj.fro (1 : Nat) (iE i_10.r.p.settle) ∧ AObj.fro (1 : Nat) (tE i_11.words) = AObj.fro (1 : Nat) (tE i_10.r.words) ∧ AObj.fro (1 : Nat) (iE i_11.at_) = AObj.fro (1 : Nat) (iE i_10.r.at_) ∧ ((i_11.p.code.length ≤ (140737488355328 : Nat) ∧ i_11.p.months.length ≤ (140737488355328 : Nat) ∧ i_11.p.settle.length ≤ (140737488355328 : Nat)) ∧ i_11.at_.length = i_11.words.length ∧ i_11.words.length ≤ (1048576 : Nat) ∧ i_11.k ≤ i_11.words.length ∧ ∀ (w : List UInt8), w ∈ i_11.words → w.length ≤ (1048576 : Nat)) ∧ ∀ (o : Unit), True → cnd i_11.more (∃ (i_12 : Opt), sb i_12.r.p.code = sb i_11.p.code ∧ i_12.r.p.tick = i_11.p.tick ∧ i_12.r.p.low = i_11.p.low ∧ i_12.r.p.high = i_11.p.high ∧ i_12.r.p.wide = i_11.p.wide ∧ i_12.r.p.rule = i_11.p.rule ∧ i_12.r.p.top = i_11.p.top ∧ i_12.r.p.least = i_11.p.least ∧ i_12.r.p.part = i_11.p.part ∧ i_12.r.end_ = i_11.end_ ∧ (↑i_12.r.k : Int) = (↑i_11.k : Int) ∧ i_12.r.why = i_11.why ∧ i_12.r.place = i_11.place ∧ AObj.fro (1 : Nat) (iE i_12.r.p.months) = AObj.fro (1 : Nat) (iE i_11.p.months) ∧ AObj.fro (1 : Nat) (iE i_12.r.p.settle) = AObj.fro (1 : Nat) (iE i_11.p.settle) ∧ AObj.fro (1 : Nat) (tE i_12.r.words) = AObj.fro (1 : Nat) (tE i_11.words) ∧ AObj.fro (1 : Nat) (iE i_12.r.at_) = AObj.fro (1 : Nat) (iE i_11.at_) ∧ i_12.c.kind = i_10.c.kind ∧ i_12.c.id = i_10.c.id ∧ i_12.c.inst = i_10.c.inst ∧ i_12.c.side = i_10.c.side ∧ i_12.c.price = i_10.c.price ∧ i_12.c.qty = i_10.c.qty ∧ i_12.c.least = i_10.c.least ∧ i_12.c.time = i_10.c.time ∧ sb i_12.c.label = sb i_10.c.label ∧ seenE i_12.seen = seenE i_10.seen ∧ ((i_12.r.p.code.length ≤ (140737488355328 : Nat) ∧ i_12.r.p.months.length ≤ (140737488355328 : Nat) ∧ i_12.r.p.settle.length ≤ (140737488355328 : Nat)) ∧ i_12.r.at_.length = i_12.r.words.length ∧ i_12.r.words.length ≤ (1048576 : Nat) ∧ i_12.r.k ≤ i_12.r.words.length ∧ ∀ (w : List UInt8), w ∈ i_12.r.words → w.length ≤ (1048576 : Nat)) ∧ ∀ (o : Unit), True → ∃ (i' : Opt), sb i'.r.p.code = sb i_12.step.r.p.code ∧ i'.r.p.tick = i_12.step.r.p.tick ∧ i'.r.p.low = i_12.step.r.p.low ∧ i'.r.p.high = i_12.step.r.p.high ∧ i'.r.p.wide = i_12.step.r.p.wide ∧ i'.r.p.rule = i_12.step.r.p.rule ∧ i'.r.p.top = i_12.step.r.p.top ∧ i'.r.p.least = i_12.step.r.p.least ∧ i'.r.p.part = i_12.step.r.p.part ∧ i'.r.end_ = i_12.step.r.end_ ∧ (↑i'.r.k : Int) = (↑i_12.step.r.k : Int) ∧ i'.r.why = i_12.step.r.why ∧ i'.r.place = i_12.step.r.place ∧ AObj.fro (1 : Nat) (iE i'.r.p.months) = AObj.fro (1 : Nat) (iE i_12.step.r.p.months) ∧ AObj.fro (1 : Nat) (iE i'.r.p.settle) = AObj.fro (1 : Nat) (iE i_12.step.r.p.settle) ∧ AObj.fro (1 : Nat) (tE i'.r.words) = AObj.fro (1 : Nat) (tE i_12.step.r.words) ∧ AObj.fro (1 : Nat) (iE i'.r.at_) = AObj.fro (1 : Nat) (iE i_12.step.r.at_) ∧ i'.c.kind = i_12.step.c.kind ∧ i'.c.id = i_12.step.c.id ∧ i'.c.inst = i_12.step.c.inst ∧ i'.c.side = i_12.step.c.side ∧ i'.c.price = i_12.step.c.price ∧ i'.c.qty = i_12.step.c.qty ∧ i'.c.least = i_12.step.c.least ∧ i'.c.time = i_12.step.c.time ∧ sb i'.c.label = sb i_12.step.c.label ∧ seenE i'.seen = seenE i_12.step.seen ∧ I i' ∧ μ i' < μ i_10 ∧ AObj.fro (1 : Nat) (iE i_9.numR.p.months) = AObj.fro (1 : Nat) (iE i_9.numR.p.months) ∧ AObj.fro (1 : Nat) (iE i_9.numR.p.settle) = AObj.fro (1 : Nat) (iE i_9.numR.p.settle) ∧ AObj.fro (1 : Nat) (tE i_9.numR.words) = AObj.fro (1 : Nat) (tE i_9.numR.words) ∧ AObj.fro (1 : Nat) (iE i_9.numR.at_) = AObj.fro (1 : Nat) (iE i_9.numR.at_) ∧ AObj.fro (1 : Nat) (iE (i_8.r.must i_8.w).p.months) = AObj.fro (1 : Nat) (iE (i_8.r.must i_8.w).p.months) ∧ AObj.fro (1 : Nat) (iE (i_8.r.must i_8.w).p.settle) = AObj.fro (1 : Nat) (iE (i_8.r.must i_8.w).p.settle) ∧ AObj.fro (1 : Nat) (tE (i_8.r.must i_8.w).words) = AObj.fro (1 : Nat) (tE (i_8.r.must i_8.w).words) ∧ AObj.fro (1 : Nat) (iE (i_8.r.must i_8.w).at_) = AObj.fro (1 : Nat) (iE (i_8.r.must i_8.w).at_) ∧ AObj.fro (1 : Nat) (iE i_7.numR.p.months) = AObj.fro (1 : Nat) (iE i_7.numR.p.months) ∧ AObj.fro (1 : Nat) (iE i_7.numR.p.settle) = AObj.fro (1 : Nat) (iE i_7.numR.p.settle) ∧ AObj.fro (1 : Nat) (tE i_7.numR.words) = AObj.fro (1 : Nat) (tE i_7.numR.words) ∧ AObj.fro (1 : Nat) (iE i_7.numR.at_) = AObj.fro (1 : Nat) (iE i_7.numR.at_) ∧ AObj.fro (1 : Nat) (iE (i_6.r.must i_6.w).p.months) = AObj.fro (1 : Nat) (iE (i_6.r.must i_6.w).p.months) ∧ AObj.fro (1 : Nat) (iE (i_6.r.must i_6.w).p.settle) = AObj.fro (1 : Nat) (iE (i_6.r.must i_6.w).p.settle) ∧ AObj.fro (1 : Nat) (tE (i_6.r.must i_6.w).words) = AObj.fro (1 : Nat) (tE (i_6.r.must i_6.w).words) ∧ AObj.fro (1 : Nat) (iE (i_6.r.must i_6.w).at_) = AObj.fro (1 : Nat) (iE (i_6.r.must i_6.w).at_) ∧ AObj.fro (1 : Nat) (iE i_5.numR.p.months) = AObj.fro (1 : Nat) (iE i_5.numR.p.months) ∧ AObj.fro (1 : Nat) (iE i_5.numR.p.settle) = AObj.fro (1 : Nat) (iE i_5.numR.p.settle) ∧ AObj.fro (1 : Nat) (tE i_5.numR.words) = AObj.fro (1 : Nat) (tE i_5.numR.words) ∧ AObj.fro (1 : Nat) (iE i_5.numR.at_) = AObj.fro (1 : Nat) (iE i_5.numR.at_) ∧ AObj.fro (1 : Nat) (iE i_4.p.months) = AObj.fro (1 : Nat) (iE i_4.p.months) ∧ AObj.fro (1 : Nat) (iE i_4.p.settle) = AObj.fro (1 : Nat) (iE i_4.p.settle) ∧ AObj.fro (1 : Nat) (tE i_4.words) = AObj.fro (1 : Nat) (tE i_4.words) ∧ AObj.fro (1 : Nat) (iE i_4.at_) = AObj.fro (1 : Nat) (iE i_4.at_) ∧ AObj.fro (1 : Nat) (iE i_1.next.p.months) = AObj.fro (1 : Nat) (iE i_1.next.p.months) ∧ AObj.fro (1 : Nat) (iE i_1.next.p.settle) = AObj.fro (1 : Nat) (iE i_1.next.p.settle) ∧ AObj.fro (1 : Nat) (tE i_1.next.words) = AObj.fro (1 : Nat) (tE i_1.next.words) ∧ AObj.fro (1 : Nat) (iE i_1.next.at_) = AObj.fro (1 : Nat) (iE i_1.next.at_) ∧ Vrordr1 = Vrordr1 ∧ RdrU i.r (1 : Nat) = RdrU i.r (1 : Nat) ∧ RdrU i.r (2 : Nat) = RdrU i.r (2 : Nat) ∧ RdrU i.r (3 : Nat) = RdrU i.r (3 : Nat) ∧ RdrU i.r (4 : Nat) = RdrU i.r (4 : Nat)) (∃ (o : Unit), (i.r.order i.side).c.kind = i_10.c.kind ∧ (i.r.order i.side).c.id = i_10.c.id ∧ (i.r.order i.side).c.inst = i_10.c.inst ∧ (i.r.order i.side).c.side = i_10.c.side ∧ (i.r.order i.side).c.price = i_10.c.price ∧ (i.r.order i.side).c.qty = i_10.c.qty ∧ (i.r.order i.side).c.least = i_10.c.least ∧ (i.r.order i.side).c.time = i_10.c.time ∧ sb (i.r.order i.side).c.label = sb i_10.c.label ∧ sb (i.r.order i.side).r.p.code = sb i_11.p.code ∧ (i.r.order i.side).r.p.tick = i_11.p.tick ∧ (i.r.order i.side).r.p.low = i_11.p.low ∧ (i.r.order i.side).r.p.high = i_11.p.high ∧ (i.r.order i.side).r.p.wide = i_11.p.wide ∧ (i.r.order i.side).r.p.rule = i_11.p.rule ∧ (i.r.order i.side).r.p.top = i_11.p.top ∧ (i.r.order i.side).r.p.least = i_11.p.least ∧ (i.r.order i.side).r.p.part = i_11.p.part ∧ (i.r.order i.side).r.end_ = i_11.end_ ∧ (↑(i.r.order i.side).r.k : Int) = (↑i_11.k : Int) ∧ (i.r.order i.side).r.why = i_11.why ∧ (i.r.order i.side).r.place = i_11.place ∧ AObj.fro (1 : Nat) (iE (i.r.order i.side).r.p.months) = AObj.fro (1 : Nat) (iE i_11.p.months) ∧ AObj.fro (1 : Nat) (iE (i.r.order i.side).r.p.settle) = AObj.fro (1 : Nat) (iE i_11.p.settle) ∧ AObj.fro (1 : Nat) (tE (i.r.order i.side).r.words) = AObj.fro (1 : Nat) (tE i_11.words) ∧ AObj.fro (1 : Nat) (iE (i.r.order i.side).r.at_) = AObj.fro (1 : Nat) (iE i_11.at_) ∧ True)
theorem eqrord (i : RoI) : Vrord i = walk Tryz.prog ([(42, rnextC), (57, foldC), (74, findC), (43, rfailC), (58, rnumC), (75, rmustC), (41, rmoreC), (76, roptC)]) 0 (orderJ) (orderA i) [] Tryz.f59 (Tryz.f59.body.getD .skip) (rorderC.pat i) (rorderC.pre i) (rorderC.alts i) := by kernel_rfl

theorem byrord (hG : GOk Tryz.prog ([(42, rnextC), (57, foldC), (74, findC), (43, rfailC), (58, rnumC), (75, rmustC), (41, rmoreC), (76, roptC)])) (h : ∀ (i : RoI), rorderC.cnd i → Vrord i) : rorderC.ok Tryz.prog 59 := ok_of_walk mixed ([(42, rnextC), (57, foldC), (74, findC), (43, rfailC), (58, rnumC), (75, rmustC), (41, rmoreC), (76, roptC)]) hG 0 (fun (i : RoI) => orderJ) (fun (i : RoI) => orderA i) [] Tryz.func59 (by kernel_rfl) (by kernel_rfl) (by kernel_rfl) (fun _ => by kernel_rfl) (fun (i : RoI) hc => Eq.mp (eqrord i) (h i hc))

def Vrcmd (i : Rdr) : Prop :=
  cnd ((↑(tE i.words).length : Int) == (0 : Int)) (∃ (i_1 : RfI), i_1.why = (31 : Int) ∧ i_1.place = i.end_ ∧ sb i_1.r.p.code = sb i.p.code ∧ i_1.r.p.tick = i.p.tick ∧ i_1.r.p.low = i.p.low ∧ i_1.r.p.high = i.p.high ∧ i_1.r.p.wide = i.p.wide ∧ i_1.r.p.rule = i.p.rule ∧ i_1.r.p.top = i.p.top ∧ i_1.r.p.least = i.p.least ∧ i_1.r.p.part = i.p.part ∧ i_1.r.end_ = i.end_ ∧ (↑i_1.r.k : Int) = (↑i.k : Int) ∧ i_1.r.why = i.why ∧ i_1.r.place = i.place ∧ AObj.fro (1 : Nat) (iE i_1.r.p.months) = RdrU i (1 : Nat) ∧ AObj.fro (1 : Nat) (iE i_1.r.p.settle) = RdrU i (2 : Nat) ∧ AObj.fro (1 : Nat) (tE i_1.r.words) = RdrU i (3 : Nat) ∧ AObj.fro (1 : Nat) (iE i_1.r.at_) = RdrU i (4 : Nat) ∧ True ∧ ∀ (o : Unit), True → ∃ (o : Unit), i.cmd.snd.kind = (0 : Int) ∧ i.cmd.snd.id = (0 : Int) ∧ i.cmd.snd.inst = (0 : Int) ∧ i.cmd.snd.side = (0 : Int) ∧ i.cmd.snd.price = (0 : Int) ∧ i.cmd.snd.qty = (0 : Int) ∧ i.cmd.snd.least = (0 : Int) ∧ i.cmd.snd.time = (0 : Int) ∧ sb i.cmd.snd.label = ByteArray.mk #[] ∧ sb i.cmd.fst.p.code = sb (i_1.r.fail i_1.why i_1.place).p.code ∧ i.cmd.fst.p.tick = (i_1.r.fail i_1.why i_1.place).p.tick ∧ i.cmd.fst.p.low = (i_1.r.fail i_1.why i_1.place).p.low ∧ i.cmd.fst.p.high = (i_1.r.fail i_1.why i_1.place).p.high ∧ i.cmd.fst.p.wide = (i_1.r.fail i_1.why i_1.place).p.wide ∧ i.cmd.fst.p.rule = (i_1.r.fail i_1.why i_1.place).p.rule ∧ i.cmd.fst.p.top = (i_1.r.fail i_1.why i_1.place).p.top ∧ i.cmd.fst.p.least = (i_1.r.fail i_1.why i_1.place).p.least ∧ i.cmd.fst.p.part = (i_1.r.fail i_1.why i_1.place).p.part ∧ i.cmd.fst.end_ = (i_1.r.fail i_1.why i_1.place).end_ ∧ (↑i.cmd.fst.k : Int) = (↑(i_1.r.fail i_1.why i_1.place).k : Int) ∧ i.cmd.fst.why = (i_1.r.fail i_1.why i_1.place).why ∧ i.cmd.fst.place = (i_1.r.fail i_1.why i_1.place).place ∧ AObj.fro (1 : Nat) (iE i.cmd.fst.p.months) = AObj.fro (1 : Nat) (iE (i_1.r.fail i_1.why i_1.place).p.months) ∧ AObj.fro (1 : Nat) (iE i.cmd.fst.p.settle) = AObj.fro (1 : Nat) (iE (i_1.r.fail i_1.why i_1.place).p.settle) ∧ AObj.fro (1 : Nat) (tE i.cmd.fst.words) = AObj.fro (1 : Nat) (tE (i_1.r.fail i_1.why i_1.place).words) ∧ AObj.fro (1 : Nat) (iE i.cmd.fst.at_) = AObj.fro (1 : Nat) (iE (i_1.r.fail i_1.why i_1.place).at_) ∧ True) (∃ (i_1 : Rdr), sb i_1.p.code = sb i.p.code ∧ i_1.p.tick = i.p.tick ∧ i_1.p.low = i.p.low ∧ i_1.p.high = i.p.high ∧ i_1.p.wide = i.p.wide ∧ i_1.p.rule = i.p.rule ∧ i_1.p.top = i.p.top ∧ i_1.p.least = i.p.least ∧ i_1.p.part = i.p.part ∧ i_1.end_ = i.end_ ∧ (↑i_1.k : Int) = (↑i.k : Int) ∧ i_1.why = i.why ∧ i_1.place = i.place ∧ AObj.fro (1 : Nat) (iE i_1.p.months) = RdrU i (1 : Nat) ∧ AObj.fro (1 : Nat) (iE i_1.p.settle) = RdrU i (2 : Nat) ∧ AObj.fro (1 : Nat) (tE i_1.words) = RdrU i (3 : Nat) ∧ AObj.fro (1 : Nat) (iE i_1.at_) = RdrU i (4 : Nat) ∧ ((i_1.p.code.length ≤ (140737488355328 : Nat) ∧ i_1.p.months.length ≤ (140737488355328 : Nat) ∧ i_1.p.settle.length ≤ (140737488355328 : Nat)) ∧ i_1.at_.length = i_1.words.length ∧ i_1.words.length ≤ (1048576 : Nat) ∧ i_1.k ≤ i_1.words.length ∧ ∀ (w : List UInt8), w ∈ i_1.words → w.length ≤ (1048576 : Nat)) ∧ ∀ (o : Unit), True → ∃ (i_2 : List UInt8), sb i_2 = sb i_1.word ∧ i_2.length ≤ (1099511627776 : Nat) ∧ ∀ (o : Unit), True → cnd ((sb (foldF i_2)).toList == (ByteArray.mk #[(67 : UInt8), (65 : UInt8), (78 : UInt8), (67 : UInt8), (69 : UInt8), (76 : UInt8)]).toList) (∃ (i_3 : Rdr), sb i_3.p.code = sb i_1.next.p.code ∧ i_3.p.tick = i_1.next.p.tick ∧ i_3.p.low = i_1.next.p.low ∧ i_3.p.high = i_1.next.p.high ∧ i_3.p.wide = i_1.next.p.wide ∧ i_3.p.rule = i_1.next.p.rule ∧ i_3.p.top = i_1.next.p.top ∧ i_3.p.least = i_1.next.p.least ∧ i_3.p.part = i_1.next.p.part ∧ i_3.end_ = i_1.next.end_ ∧ (↑i_3.k : Int) = (↑i_1.next.k : Int) ∧ i_3.why = i_1.next.why ∧ i_3.place = i_1.next.place ∧ AObj.fro (1 : Nat) (iE i_3.p.months) = AObj.fro (1 : Nat) (iE i_1.next.p.months) ∧ AObj.fro (1 : Nat) (iE i_3.p.settle) = AObj.fro (1 : Nat) (iE i_1.next.p.settle) ∧ AObj.fro (1 : Nat) (tE i_3.words) = AObj.fro (1 : Nat) (tE i_1.next.words) ∧ AObj.fro (1 : Nat) (iE i_3.at_) = AObj.fro (1 : Nat) (iE i_1.next.at_) ∧ ((i_3.p.code.length ≤ (140737488355328 : Nat) ∧ i_3.p.months.length ≤ (140737488355328 : Nat) ∧ i_3.p.settle.length ≤ (140737488355328 : Nat)) ∧ i_3.at_.length = i_3.words.length ∧ i_3.words.length ≤ (1048576 : Nat) ∧ i_3.k ≤ i_3.words.length ∧ ∀ (w : List UInt8), w ∈ i_3.words → w.length ≤ (1048576 : Nat)) ∧ ∀ (o : Unit), True → ∃ (o : Unit), i.cmd.snd.kind = (2 : Int) ∧ i.cmd.snd.id = i_3.num ∧ i.cmd.snd.inst = (0 : Int) ∧ i.cmd.snd.side = (0 : Int) ∧ i.cmd.snd.price = (0 : Int) ∧ i.cmd.snd.qty = (0 : Int) ∧ i.cmd.snd.least = (0 : Int) ∧ i.cmd.snd.time = (0 : Int) ∧ sb i.cmd.snd.label = ByteArray.mk #[] ∧ sb i.cmd.fst.p.code = sb i_3.numR.p.code ∧ i.cmd.fst.p.tick = i_3.numR.p.tick ∧ i.cmd.fst.p.low = i_3.numR.p.low ∧ i.cmd.fst.p.high = i_3.numR.p.high ∧ i.cmd.fst.p.wide = i_3.numR.p.wide ∧ i.cmd.fst.p.rule = i_3.numR.p.rule ∧ i.cmd.fst.p.top = i_3.numR.p.top ∧ i.cmd.fst.p.least = i_3.numR.p.least ∧ i.cmd.fst.p.part = i_3.numR.p.part ∧ i.cmd.fst.end_ = i_3.numR.end_ ∧ (↑i.cmd.fst.k : Int) = (↑i_3.numR.k : Int) ∧ i.cmd.fst.why = i_3.numR.why ∧ i.cmd.fst.place = i_3.numR.place ∧ AObj.fro (1 : Nat) (iE i.cmd.fst.p.months) = AObj.fro (1 : Nat) (iE i_3.numR.p.months) ∧ AObj.fro (1 : Nat) (iE i.cmd.fst.p.settle) = AObj.fro (1 : Nat) (iE i_3.numR.p.settle) ∧ AObj.fro (1 : Nat) (tE i.cmd.fst.words) = AObj.fro (1 : Nat) (tE i_3.numR.words) ∧ AObj.fro (1 : Nat) (iE i.cmd.fst.at_) = AObj.fro (1 : Nat) (iE i_3.numR.at_) ∧ True) (cnd ((sb (foldF i_2)).toList == (ByteArray.mk #[(67 : UInt8), (85 : UInt8), (84 : UInt8)]).toList) (∃ (i_3 : Rdr), sb i_3.p.code = sb i_1.next.p.code ∧ i_3.p.tick = i_1.next.p.tick ∧ i_3.p.low = i_1.next.p.low ∧ i_3.p.high = i_1.next.p.high ∧ i_3.p.wide = i_1.next.p.wide ∧ i_3.p.rule = i_1.next.p.rule ∧ i_3.p.top = i_1.next.p.top ∧ i_3.p.least = i_1.next.p.least ∧ i_3.p.part = i_1.next.p.part ∧ i_3.end_ = i_1.next.end_ ∧ (↑i_3.k : Int) = (↑i_1.next.k : Int) ∧ i_3.why = i_1.next.why ∧ i_3.place = i_1.next.place ∧ AObj.fro (1 : Nat) (iE i_3.p.months) = AObj.fro (1 : Nat) (iE i_1.next.p.months) ∧ AObj.fro (1 : Nat) (iE i_3.p.settle) = AObj.fro (1 : Nat) (iE i_1.next.p.settle) ∧ AObj.fro (1 : Nat) (tE i_3.words) = AObj.fro (1 : Nat) (tE i_1.next.words) ∧ AObj.fro (1 : Nat) (iE i_3.at_) = AObj.fro (1 : Nat) (iE i_1.next.at_) ∧ ((i_3.p.code.length ≤ (140737488355328 : Nat) ∧ i_3.p.months.length ≤ (140737488355328 : Nat) ∧ i_3.p.settle.length ≤ (140737488355328 : Nat)) ∧ i_3.at_.length = i_3.words.length ∧ i_3.words.length ≤ (1048576 : Nat) ∧ i_3.k ≤ i_3.words.length ∧ ∀ (w : List UInt8), w ∈ i_3.words → w.length ≤ (1048576 : Nat)) ∧ ∀ (o : Unit), True → ∃ (i_4 : Rdr), sb i_4.p.code = sb i_3.numR.p.code ∧ i_4.p.tick = i_3.numR.p.tick ∧ i_4.p.low = i_3.numR.p.low ∧ i_4.p.high = i_3.numR.p.high ∧ i_4.p.wide = i_3.numR.p.wide ∧ i_4.p.rule = i_3.numR.p.rule ∧ i_4.p.top = i_3.numR.p.top ∧ i_4.p.least = i_3.numR.p.least ∧ i_4.p.part = i_3.numR.p.part ∧ i_4.end_ = i_3.numR.end_ ∧ (↑i_4.k : Int) = (↑i_3.numR.k : Int) ∧ i_4.why = i_3.numR.why ∧ i_4.place = i_3.numR.place ∧ AObj.fro (1 : Nat) (iE i_4.p.months) = AObj.fro (1 : Nat) (iE i_3.numR.p.months) ∧ AObj.fro (1 : Nat) (iE i_4.p.settle) = AObj.fro (1 : Nat) (iE i_3.numR.p.settle) ∧ AObj.fro (1 : Nat) (tE i_4.words) = AObj.fro (1 : Nat) (tE i_3.numR.words) ∧ AObj.fro (1 : Nat) (iE i_4.at_) = AObj.fro (1 : Nat) (iE i_3.numR.at_) ∧ ((i_4.p.code.length ≤ (140737488355328 : Nat) ∧ i_4.p.months.length ≤ (140737488355328 : Nat) ∧ i_4.p.settle.length ≤ (140737488355328 : Nat)) ∧ i_4.at_.length = i_4.words.length ∧ i_4.words.length ≤ (1048576 : Nat) ∧ i_4.k ≤ i_4.words.length ∧ ∀ (w : List UInt8), w ∈ i_4.words → w.length ≤ (1048576 : Nat)) ∧ ∀ (o : Unit), True → ∃ (o : Unit), i.cmd.snd.kind = (3 : Int) ∧ i.cmd.snd.id = i_3.num ∧ i.cmd.snd.inst = (0 : Int) ∧ i.cmd.snd.side = (0 : Int) ∧ i.cmd.snd.price = (0 : Int) ∧ i.cmd.snd.qty = i_4.num ∧ i.cmd.snd.least = (0 : Int) ∧ i.cmd.snd.time = (0 : Int) ∧ sb i.cmd.snd.label = ByteArray.mk #[] ∧ sb i.cmd.fst.p.code = sb i_4.numR.p.code ∧ i.cmd.fst.p.tick = i_4.numR.p.tick ∧ i.cmd.fst.p.low = i_4.numR.p.low ∧ i.cmd.fst.p.high = i_4.numR.p.high ∧ i.cmd.fst.p.wide = i_4.numR.p.wide ∧ i.cmd.fst.p.rule = i_4.numR.p.rule ∧ i.cmd.fst.p.top = i_4.numR.p.top ∧ i.cmd.fst.p.least = i_4.numR.p.least ∧ i.cmd.fst.p.part = i_4.numR.p.part ∧ i.cmd.fst.end_ = i_4.numR.end_ ∧ (↑i.cmd.fst.k : Int) = (↑i_4.numR.k : Int) ∧ i.cmd.fst.why = i_4.numR.why ∧ i.cmd.fst.place = i_4.numR.place ∧ AObj.fro (1 : Nat) (iE i.cmd.fst.p.months) = AObj.fro (1 : Nat) (iE i_4.numR.p.months) ∧ AObj.fro (1 : Nat) (iE i.cmd.fst.p.settle) = AObj.fro (1 : Nat) (iE i_4.numR.p.settle) ∧ AObj.fro (1 : Nat) (tE i.cmd.fst.words) = AObj.fro (1 : Nat) (tE i_4.numR.words) ∧ AObj.fro (1 : Nat) (iE i.cmd.fst.at_) = AObj.fro (1 : Nat) (iE i_4.numR.at_) ∧ True) (cnd ((sb (foldF i_2)).toList == (ByteArray.mk #[(67 : UInt8), (72 : UInt8), (65 : UInt8), (78 : UInt8), (71 : UInt8), (69 : UInt8)]).toList) (∃ (i_3 : Rdr), sb i_3.p.code = sb i_1.next.p.code ∧ i_3.p.tick = i_1.next.p.tick ∧ i_3.p.low = i_1.next.p.low ∧ i_3.p.high = i_1.next.p.high ∧ i_3.p.wide = i_1.next.p.wide ∧ i_3.p.rule = i_1.next.p.rule ∧ i_3.p.top = i_1.next.p.top ∧ i_3.p.least = i_1.next.p.least ∧ i_3.p.part = i_1.next.p.part ∧ i_3.end_ = i_1.next.end_ ∧ (↑i_3.k : Int) = (↑i_1.next.k : Int) ∧ i_3.why = i_1.next.why ∧ i_3.place = i_1.next.place ∧ AObj.fro (1 : Nat) (iE i_3.p.months) = AObj.fro (1 : Nat) (iE i_1.next.p.months) ∧ AObj.fro (1 : Nat) (iE i_3.p.settle) = AObj.fro (1 : Nat) (iE i_1.next.p.settle) ∧ AObj.fro (1 : Nat) (tE i_3.words) = AObj.fro (1 : Nat) (tE i_1.next.words) ∧ AObj.fro (1 : Nat) (iE i_3.at_) = AObj.fro (1 : Nat) (iE i_1.next.at_) ∧ ((i_3.p.code.length ≤ (140737488355328 : Nat) ∧ i_3.p.months.length ≤ (140737488355328 : Nat) ∧ i_3.p.settle.length ≤ (140737488355328 : Nat)) ∧ i_3.at_.length = i_3.words.length ∧ i_3.words.length ≤ (1048576 : Nat) ∧ i_3.k ≤ i_3.words.length ∧ ∀ (w : List UInt8), w ∈ i_3.words → w.length ≤ (1048576 : Nat)) ∧ ∀ (o : Unit), True → ∃ (i_4 : Rdr), sb i_4.p.code = sb i_3.numR.p.code ∧ i_4.p.tick = i_3.numR.p.tick ∧ i_4.p.low = i_3.numR.p.low ∧ i_4.p.high = i_3.numR.p.high ∧ i_4.p.wide = i_3.numR.p.wide ∧ i_4.p.rule = i_3.numR.p.rule ∧ i_4.p.top = i_3.numR.p.top ∧ i_4.p.least = i_3.numR.p.least ∧ i_4.p.part = i_3.numR.p.part ∧ i_4.end_ = i_3.numR.end_ ∧ (↑i_4.k : Int) = (↑i_3.numR.k : Int) ∧ i_4.why = i_3.numR.why ∧ i_4.place = i_3.numR.place ∧ AObj.fro (1 : Nat) (iE i_4.p.months) = AObj.fro (1 : Nat) (iE i_3.numR.p.months) ∧ AObj.fro (1 : Nat) (iE i_4.p.settle) = AObj.fro (1 : Nat) (iE i_3.numR.p.settle) ∧ AObj.fro (1 : Nat) (tE i_4.words) = AObj.fro (1 : Nat) (tE i_3.numR.words) ∧ AObj.fro (1 : Nat) (iE i_4.at_) = AObj.fro (1 : Nat) (iE i_3.numR.at_) ∧ ((i_4.p.code.length ≤ (140737488355328 : Nat) ∧ i_4.p.months.length ≤ (140737488355328 : Nat) ∧ i_4.p.settle.length ≤ (140737488355328 : Nat)) ∧ i_4.at_.length = i_4.words.length ∧ i_4.words.length ≤ (1048576 : Nat) ∧ i_4.k ≤ i_4.words.length ∧ ∀ (w : List UInt8), w ∈ i_4.words → w.length ≤ (1048576 : Nat)) ∧ ∀ (o : Unit), True → ∃ (i_5 : Rdr), sb i_5.p.code = sb i_4.numR.p.code ∧ i_5.p.tick = i_4.numR.p.tick ∧ i_5.p.low = i_4.numR.p.low ∧ i_5.p.high = i_4.numR.p.high ∧ i_5.p.wide = i_4.numR.p.wide ∧ i_5.p.rule = i_4.numR.p.rule ∧ i_5.p.top = i_4.numR.p.top ∧ i_5.p.least = i_4.numR.p.least ∧ i_5.p.part = i_4.numR.p.part ∧ i_5.end_ = i_4.numR.end_ ∧ (↑i_5.k : Int) = (↑i_4.numR.k : Int) ∧ i_5.why = i_4.numR.why ∧ i_5.place = i_4.numR.place ∧ AObj.fro (1 : Nat) (iE i_5.p.months) = AObj.fro (1 : Nat) (iE i_4.numR.p.months) ∧ AObj.fro (1 : Nat) (iE i_5.p.settle) = AObj.fro (1 : Nat) (iE i_4.numR.p.settle) ∧ AObj.fro (1 : Nat) (tE i_5.words) = AObj.fro (1 : Nat) (tE i_4.numR.words) ∧ AObj.fro (1 : Nat) (iE i_5.at_) = AObj.fro (1 : Nat) (iE i_4.numR.at_) ∧ ((i_5.p.code.length ≤ (140737488355328 : Nat) ∧ i_5.p.months.length ≤ (140737488355328 : Nat) ∧ i_5.p.settle.length ≤ (140737488355328 : Nat)) ∧ i_5.at_.length = i_5.words.length ∧ i_5.words.length ≤ (1048576 : Nat) ∧ i_5.k ≤ i_5.words.length ∧ ∀ (w : List UInt8), w ∈ i_5.words → w.length ≤ (1048576 : Nat)) ∧ ∀ (o : Unit), True → ∃ (o : Unit), i.cmd.snd.kind = (4 : Int) ∧ i.cmd.snd.id = i_3.num ∧ i.cmd.snd.inst = (0 : Int) ∧ i.cmd.snd.side = (0 : Int) ∧ i.cmd.snd.price = i_4.num ∧ i.cmd.snd.qty = i_5.num ∧ i.cmd.snd.least = (0 : Int) ∧ i.cmd.snd.time = (0 : Int) ∧ sb i.cmd.snd.label = ByteArray.mk #[] ∧ sb i.cmd.fst.p.code = sb i_5.numR.p.code ∧ i.cmd.fst.p.tick = i_5.numR.p.tick ∧ i.cmd.fst.p.low = i_5.numR.p.low ∧ i.cmd.fst.p.high = i_5.numR.p.high ∧ i.cmd.fst.p.wide = i_5.numR.p.wide ∧ i.cmd.fst.p.rule = i_5.numR.p.rule ∧ i.cmd.fst.p.top = i_5.numR.p.top ∧ i.cmd.fst.p.least = i_5.numR.p.least ∧ i.cmd.fst.p.part = i_5.numR.p.part ∧ i.cmd.fst.end_ = i_5.numR.end_ ∧ (↑i.cmd.fst.k : Int) = (↑i_5.numR.k : Int) ∧ i.cmd.fst.why = i_5.numR.why ∧ i.cmd.fst.place = i_5.numR.place ∧ AObj.fro (1 : Nat) (iE i.cmd.fst.p.months) = AObj.fro (1 : Nat) (iE i_5.numR.p.months) ∧ AObj.fro (1 : Nat) (iE i.cmd.fst.p.settle) = AObj.fro (1 : Nat) (iE i_5.numR.p.settle) ∧ AObj.fro (1 : Nat) (tE i.cmd.fst.words) = AObj.fro (1 : Nat) (tE i_5.numR.words) ∧ AObj.fro (1 : Nat) (iE i.cmd.fst.at_) = AObj.fro (1 : Nat) (iE i_5.numR.at_) ∧ True) (cnd ((sb (foldF i_2)).toList == (ByteArray.mk #[(66 : UInt8), (85 : UInt8), (89 : UInt8)]).toList) (∃ (i_3 : RoI), i_3.side = (1 : Int) ∧ sb i_3.r.p.code = sb i_1.next.p.code ∧ i_3.r.p.tick = i_1.next.p.tick ∧ i_3.r.p.low = i_1.next.p.low ∧ i_3.r.p.high = i_1.next.p.high ∧ i_3.r.p.wide = i_1.next.p.wide ∧ i_3.r.p.rule = i_1.next.p.rule ∧ i_3.r.p.top = i_1.next.p.top ∧ i_3.r.p.least = i_1.next.p.least ∧ i_3.r.p.part = i_1.next.p.part ∧ i_3.r.end_ = i_1.next.end_ ∧ (↑i_3.r.k : Int) = (↑i_1.next.k : Int) ∧ i_3.r.why = i_1.next.why ∧ i_3.r.place = i_1.next.place ∧ AObj.fro (1 : Nat) (iE i_3.r.p.months) = AObj.fro (1 : Nat) (iE i_1.next.p.months) ∧ AObj.fro (1 : Nat) (iE i_3.r.p.settle) = AObj.fro (1 : Nat) (iE i_1.next.p.settle) ∧ AObj.fro (1 : Nat) (tE i_3.r.words) = AObj.fro (1 : Nat) (tE i_1.next.words) ∧ AObj.fro (1 : Nat) (iE i_3.r.at_) = AObj.fro (1 : Nat) (iE i_1.next.at_) ∧ ((i_3.r.p.code.length ≤ (140737488355328 : Nat) ∧ i_3.r.p.months.length ≤ (140737488355328 : Nat) ∧ i_3.r.p.settle.length ≤ (140737488355328 : Nat)) ∧ i_3.r.at_.length = i_3.r.words.length ∧ i_3.r.words.length ≤ (1048576 : Nat) ∧ i_3.r.k ≤ i_3.r.words.length ∧ ∀ (w : List UInt8), w ∈ i_3.r.words → w.length ≤ (1048576 : Nat)) ∧ ∀ (o : Unit), True → ∃ (o : Unit), i.cmd.snd.kind = (i_3.r.order i_3.side).c.kind ∧ i.cmd.snd.id = (i_3.r.order i_3.side).c.id ∧ i.cmd.snd.inst = (i_3.r.order i_3.side).c.inst ∧ i.cmd.snd.side = (i_3.r.order i_3.side).c.side ∧ i.cmd.snd.price = (i_3.r.order i_3.side).c.price ∧ i.cmd.snd.qty = (i_3.r.order i_3.side).c.qty ∧ i.cmd.snd.least = (i_3.r.order i_3.side).c.least ∧ i.cmd.snd.time = (i_3.r.order i_3.side).c.time ∧ sb i.cmd.snd.label = sb (i_3.r.order i_3.side).c.label ∧ sb i.cmd.fst.p.code = sb (i_3.r.order i_3.side).r.p.code ∧ i.cmd.fst.p.tick = (i_3.r.order i_3.side).r.p.tick ∧ i.cmd.fst.p.low = (i_3.r.order i_3.side).r.p.low ∧ i.cmd.fst.p.high = (i_3.r.order i_3.side).r.p.high ∧ i.cmd.fst.p.wide = (i_3.r.order i_3.side).r.p.wide ∧ i.cmd.fst.p.rule = (i_3.r.order i_3.side).r.p.rule ∧ i.cmd.fst.p.top = (i_3.r.order i_3.side).r.p.top ∧ i.cmd.fst.p.least = (i_3.r.order i_3.side).r.p.least ∧ i.cmd.fst.p.part = (i_3.r.order i_3.side).r.p.part ∧ i.cmd.fst.end_ = (i_3.r.order i_3.side).r.end_ ∧ (↑i.cmd.fst.k : Int) = (↑(i_3.r.order i_3.side).r.k : Int) ∧ i.cmd.fst.why = (i_3.r.order i_3.side).r.why ∧ i.cmd.fst.place = (i_3.r.order i_3.side).r.place ∧ AObj.fro (1 : Nat) (iE i.cmd.fst.p.months) = AObj.fro (1 : Nat) (iE (i_3.r.order i_3.side).r.p.months) ∧ AObj.fro (1 : Nat) (iE i.cmd.fst.p.settle) = AObj.fro (1 : Nat) (iE (i_3.r.order i_3.side).r.p.settle) ∧ AObj.fro (1 : Nat) (tE i.cmd.fst.words) = AObj.fro (1 : Nat) (tE (i_3.r.order i_3.side).r.words) ∧ AObj.fro (1 : Nat) (iE i.cmd.fst.at_) = AObj.fro (1 : Nat) (iE (i_3.r.order i_3.side).r.at_) ∧ True) (cnd ((sb (foldF i_2)).toList == (ByteArray.mk #[(83 : UInt8), (69 : UInt8), (76 : UInt8), (76 : UInt8)]).toList) (∃ (i_3 : RoI), i_3.side = (2 : Int) ∧ sb i_3.r.p.code = sb i_1.next.p.code ∧ i_3.r.p.tick = i_1.next.p.tick ∧ i_3.r.p.low = i_1.next.p.low ∧ i_3.r.p.high = i_1.next.p.high ∧ i_3.r.p.wide = i_1.next.p.wide ∧ i_3.r.p.rule = i_1.next.p.rule ∧ i_3.r.p.top = i_1.next.p.top ∧ i_3.r.p.least = i_1.next.p.least ∧ i_3.r.p.part = i_1.next.p.part ∧ i_3.r.end_ = i_1.next.end_ ∧ (↑i_3.r.k : Int) = (↑i_1.next.k : Int) ∧ i_3.r.why = i_1.next.why ∧ i_3.r.place = i_1.next.place ∧ AObj.fro (1 : Nat) (iE i_3.r.p.months) = AObj.fro (1 : Nat) (iE i_1.next.p.months) ∧ AObj.fro (1 : Nat) (iE i_3.r.p.settle) = AObj.fro (1 : Nat) (iE i_1.next.p.settle) ∧ AObj.fro (1 : Nat) (tE i_3.r.words) = AObj.fro (1 : Nat) (tE i_1.next.words) ∧ AObj.fro (1 : Nat) (iE i_3.r.at_) = AObj.fro (1 : Nat) (iE i_1.next.at_) ∧ ((i_3.r.p.code.length ≤ (140737488355328 : Nat) ∧ i_3.r.p.months.length ≤ (140737488355328 : Nat) ∧ i_3.r.p.settle.length ≤ (140737488355328 : Nat)) ∧ i_3.r.at_.length = i_3.r.words.length ∧ i_3.r.words.length ≤ (1048576 : Nat) ∧ i_3.r.k ≤ i_3.r.words.length ∧ ∀ (w : List UInt8), w ∈ i_3.r.words → w.length ≤ (1048576 : Nat)) ∧ ∀ (o : Unit), True → ∃ (o : Unit), i.cmd.snd.kind = (i_3.r.order i_3.side).c.kind ∧ i.cmd.snd.id = (i_3.r.order i_3.side).c.id ∧ i.cmd.snd.inst = (i_3.r.order i_3.side).c.inst ∧ i.cmd.snd.side = (i_3.r.order i_3.side).c.side ∧ i.cmd.snd.price = (i_3.r.order i_3.side).c.price ∧ i.cmd.snd.qty = (i_3.r.order i_3.side).c.qty ∧ i.cmd.snd.least = (i_3.r.order i_3.side).c.least ∧ i.cmd.snd.time = (i_3.r.order i_3.side).c.time ∧ sb i.cmd.snd.label = sb (i_3.r.order i_3.side).c.label ∧ sb i.cmd.fst.p.code = sb (i_3.r.order i_3.side).r.p.code ∧ i.cmd.fst.p.tick = (i_3.r.order i_3.side).r.p.tick ∧ i.cmd.fst.p.low = (i_3.r.order i_3.side).r.p.low ∧ i.cmd.fst.p.high = (i_3.r.order i_3.side).r.p.high ∧ i.cmd.fst.p.wide = (i_3.r.order i_3.side).r.p.wide ∧ i.cmd.fst.p.rule = (i_3.r.order i_3.side).r.p.rule ∧ i.cmd.fst.p.top = (i_3.r.order i_3.side).r.p.top ∧ i.cmd.fst.p.least = (i_3.r.order i_3.side).r.p.least ∧ i.cmd.fst.p.part = (i_3.r.order i_3.side).r.p.part ∧ i.cmd.fst.end_ = (i_3.r.order i_3.side).r.end_ ∧ (↑i.cmd.fst.k : Int) = (↑(i_3.r.order i_3.side).r.k : Int) ∧ i.cmd.fst.why = (i_3.r.order i_3.side).r.why ∧ i.cmd.fst.place = (i_3.r.order i_3.side).r.place ∧ AObj.fro (1 : Nat) (iE i.cmd.fst.p.months) = AObj.fro (1 : Nat) (iE (i_3.r.order i_3.side).r.p.months) ∧ AObj.fro (1 : Nat) (iE i.cmd.fst.p.settle) = AObj.fro (1 : Nat) (iE (i_3.r.order i_3.side).r.p.settle) ∧ AObj.fro (1 : Nat) (tE i.cmd.fst.words) = AObj.fro (1 : Nat) (tE (i_3.r.order i_3.side).r.words) ∧ AObj.fro (1 : Nat) (iE i.cmd.fst.at_) = AObj.fro (1 : Nat) (iE (i_3.r.order i_3.side).r.at_) ∧ True) (∃ (i_3 : RfI), i_3.why = (31 : Int) ∧ i_3.place = i_1.here ∧ sb i_3.r.p.code = sb i_1.next.p.code ∧ i_3.r.p.tick = i_1.next.p.tick ∧ i_3.r.p.low = i_1.next.p.low ∧ i_3.r.p.high = i_1.next.p.high ∧ i_3.r.p.wide = i_1.next.p.wide ∧ i_3.r.p.rule = i_1.next.p.rule ∧ i_3.r.p.top = i_1.next.p.top ∧ i_3.r.p.least = i_1.next.p.least ∧ i_3.r.p.part = i_1.next.p.part ∧ i_3.r.end_ = i_1.next.end_ ∧ (↑i_3.r.k : Int) = (↑i_1.next.k : Int) ∧ i_3.r.why = i_1.next.why ∧ i_3.r.place = i_1.next.place ∧ AObj.fro (1 : Nat) (iE i_3.r.p.months) = AObj.fro (1 : Nat) (iE i_1.next.p.months) ∧ AObj.fro (1 : Nat) (iE i_3.r.p.settle) = AObj.fro (1 : Nat) (iE i_1.next.p.settle) ∧ AObj.fro (1 : Nat) (tE i_3.r.words) = AObj.fro (1 : Nat) (tE i_1.next.words) ∧ AObj.fro (1 : Nat) (iE i_3.r.at_) = AObj.fro (1 : Nat) (iE i_1.next.at_) ∧ True ∧ ∀ (o : Unit), True → ∃ (o : Unit), i.cmd.snd.kind = (0 : Int) ∧ i.cmd.snd.id = (0 : Int) ∧ i.cmd.snd.inst = (0 : Int) ∧ i.cmd.snd.side = (0 : Int) ∧ i.cmd.snd.price = (0 : Int) ∧ i.cmd.snd.qty = (0 : Int) ∧ i.cmd.snd.least = (0 : Int) ∧ i.cmd.snd.time = (0 : Int) ∧ sb i.cmd.snd.label = ByteArray.mk #[] ∧ sb i.cmd.fst.p.code = sb (i_3.r.fail i_3.why i_3.place).p.code ∧ i.cmd.fst.p.tick = (i_3.r.fail i_3.why i_3.place).p.tick ∧ i.cmd.fst.p.low = (i_3.r.fail i_3.why i_3.place).p.low ∧ i.cmd.fst.p.high = (i_3.r.fail i_3.why i_3.place).p.high ∧ i.cmd.fst.p.wide = (i_3.r.fail i_3.why i_3.place).p.wide ∧ i.cmd.fst.p.rule = (i_3.r.fail i_3.why i_3.place).p.rule ∧ i.cmd.fst.p.top = (i_3.r.fail i_3.why i_3.place).p.top ∧ i.cmd.fst.p.least = (i_3.r.fail i_3.why i_3.place).p.least ∧ i.cmd.fst.p.part = (i_3.r.fail i_3.why i_3.place).p.part ∧ i.cmd.fst.end_ = (i_3.r.fail i_3.why i_3.place).end_ ∧ (↑i.cmd.fst.k : Int) = (↑(i_3.r.fail i_3.why i_3.place).k : Int) ∧ i.cmd.fst.why = (i_3.r.fail i_3.why i_3.place).why ∧ i.cmd.fst.place = (i_3.r.fail i_3.why i_3.place).place ∧ AObj.fro (1 : Nat) (iE i.cmd.fst.p.months) = AObj.fro (1 : Nat) (iE (i_3.r.fail i_3.why i_3.place).p.months) ∧ AObj.fro (1 : Nat) (iE i.cmd.fst.p.settle) = AObj.fro (1 : Nat) (iE (i_3.r.fail i_3.why i_3.place).p.settle) ∧ AObj.fro (1 : Nat) (tE i.cmd.fst.words) = AObj.fro (1 : Nat) (tE (i_3.r.fail i_3.why i_3.place).words) ∧ AObj.fro (1 : Nat) (iE i.cmd.fst.at_) = AObj.fro (1 : Nat) (iE (i_3.r.fail i_3.why i_3.place).at_) ∧ True))))))
theorem eqrcmd (i : Rdr) : Vrcmd i = walk Tryz.prog ([(42, rnextC), (57, foldC), (43, rfailC), (58, rnumC), (59, rorderC)]) 0 ([]) ([]) [] Tryz.f40 (Tryz.f40.body.getD .skip) (rcmdC.pat i) (rcmdC.pre i) (rcmdC.alts i) := by kernel_rfl

theorem byrcmd (hG : GOk Tryz.prog ([(42, rnextC), (57, foldC), (43, rfailC), (58, rnumC), (59, rorderC)])) (h : ∀ (i : Rdr), rcmdC.cnd i → Vrcmd i) : rcmdC.ok Tryz.prog 40 := ok_of_walk mixed ([(42, rnextC), (57, foldC), (43, rfailC), (58, rnumC), (59, rorderC)]) hG 0 (fun (i : Rdr) => []) (fun (i : Rdr) => []) [] Tryz.func40 (by kernel_rfl) (by kernel_rfl) (by kernel_rfl) (fun _ => by kernel_rfl) (fun (i : Rdr) hc => Eq.mp (eqrcmd i) (h i hc))

@[reducible] def Vparser0 (i_3 : Rdr) : AObj := Sx.AObj.cells [V.d (D.v (.int .i64 i_3.cmd.snd.kind)), V.d (D.v (.int .i64 i_3.cmd.snd.id)), V.d (D.v (.int .i64 i_3.cmd.snd.inst)), V.d (D.v (.int .i64 i_3.cmd.snd.side)), V.d (D.v (.int .i64 i_3.cmd.snd.price)), V.d (D.v (.int .i64 i_3.cmd.snd.qty)), V.d (D.v (.int .i64 i_3.cmd.snd.least)), V.d (D.v (.int .i64 i_3.cmd.snd.time)), V.d (D.v (Value.string (sb i_3.cmd.snd.label)))] (28 : Nat)
@[reducible] def Vparser1  : AObj := Sx.AObj.cells (Sx.V.agg [V.d (D.v (.int .i64 0)), V.d (D.v (.int .i64 0)), V.d (D.v (.int .i64 0)), V.d (D.v (.int .i64 0)), V.d (D.v (.int .i64 0)), V.d (D.v (.int .i64 0)), V.d (D.v (.int .i64 0)), V.d (D.v (.int .i64 0)), V.d (D.v (Value.string (ByteArray.mk #[])))]).cl (28 : Nat)
@[reducible] def Vparser2 (i : FndI) : AObj := Sx.AObj.cells [V.d (D.v (Value.string (sb i.p.code))), V.own (0 : Nat), V.d (D.v (.int .i64 i.p.tick)), V.d (D.v (.int .i64 i.p.low)), V.d (D.v (.int .i64 i.p.high)), V.d (D.v (.int .i64 i.p.wide)), V.d (D.v (.int .i64 i.p.rule)), V.d (D.v (.int .i64 i.p.top)), V.d (D.v (.int .i64 i.p.least)), V.d (D.v (.int .i64 i.p.part)), V.own ((0 : Nat) + (1 : Nat))] (25 : Nat)
def Vparse (i : FndI) : Prop :=
  ∃ (i_1 : List UInt8), sb i_1 = sb i.s ∧ i_1.length ≤ (1048576 : Nat) ∧ ∀ (o : Unit), True → ∃ (i_2 : List UInt8), sb i_2 = sb i.s ∧ i_2.length ≤ (140737488355328 : Nat) ∧ ∀ (o : Unit), True → (sb i.p.code = sb i.p.code ∧ True ∧ i.p.tick = i.p.tick ∧ i.p.low = i.p.low ∧ i.p.high = i.p.high ∧ i.p.wide = i.p.wide ∧ i.p.rule = i.p.rule ∧ i.p.top = i.p.top ∧ i.p.least = i.p.least ∧ i.p.part = i.p.part ∧ True ∧ True) ∧ ∃ (i_3 : Rdr), sb i_3.p.code = sb i.p.code ∧ i_3.p.tick = i.p.tick ∧ i_3.p.low = i.p.low ∧ i_3.p.high = i.p.high ∧ i_3.p.wide = i.p.wide ∧ i_3.p.rule = i.p.rule ∧ i_3.p.top = i.p.top ∧ i_3.p.least = i.p.least ∧ i_3.p.part = i.p.part ∧ i_3.end_ = (↑(runes i_2).length : Int) ∧ (↑i_3.k : Int) = (0 : Int) ∧ i_3.why = (0 : Int) ∧ i_3.place = (0 : Int) ∧ AObj.fro (1 : Nat) (iE i_3.p.months) = AObj.fro (1 : Nat) (iE i.p.months) ∧ AObj.fro (1 : Nat) (iE i_3.p.settle) = AObj.fro (1 : Nat) (iE i.p.settle) ∧ AObj.fro (1 : Nat) (tE i_3.words) = AObj.fro (1 : Nat) (tE (wordsL i_1)) ∧ AObj.fro (1 : Nat) (iE i_3.at_) = AObj.fro (1 : Nat) (iE (wordsA i_1)) ∧ ((i_3.p.code.length ≤ (140737488355328 : Nat) ∧ i_3.p.months.length ≤ (140737488355328 : Nat) ∧ i_3.p.settle.length ≤ (140737488355328 : Nat)) ∧ i_3.at_.length = i_3.words.length ∧ i_3.words.length ≤ (1048576 : Nat) ∧ i_3.k ≤ i_3.words.length ∧ ∀ (w : List UInt8), w ∈ i_3.words → w.length ≤ (1048576 : Nat)) ∧ ∀ (o : Unit), True → ∃ (i0 : Rdr), sb i0.p.code = sb i_3.cmd.fst.p.code ∧ i0.p.tick = i_3.cmd.fst.p.tick ∧ i0.p.low = i_3.cmd.fst.p.low ∧ i0.p.high = i_3.cmd.fst.p.high ∧ i0.p.wide = i_3.cmd.fst.p.wide ∧ i0.p.rule = i_3.cmd.fst.p.rule ∧ i0.p.top = i_3.cmd.fst.p.top ∧ i0.p.least = i_3.cmd.fst.p.least ∧ i0.p.part = i_3.cmd.fst.p.part ∧ i0.end_ = i_3.cmd.fst.end_ ∧ (↑i0.k : Int) = (↑i_3.cmd.fst.k : Int) ∧ i0.why = i_3.cmd.fst.why ∧ i0.place = i_3.cmd.fst.place ∧ AObj.fro (1 : Nat) (iE i0.p.months) = AObj.fro (1 : Nat) (iE i_3.cmd.fst.p.months) ∧ AObj.fro (1 : Nat) (iE i0.p.settle) = AObj.fro (1 : Nat) (iE i_3.cmd.fst.p.settle) ∧ AObj.fro (1 : Nat) (tE i0.words) = AObj.fro (1 : Nat) (tE i_3.cmd.fst.words) ∧ AObj.fro (1 : Nat) (iE i0.at_) = AObj.fro (1 : Nat) (iE i_3.cmd.fst.at_) ∧ ∃ (I : Rdr → Prop), (∃ (i_4 : Rdr), sb i_4.p.code = sb i0.p.code ∧ i_4.p.tick = i0.p.tick ∧ i_4.p.low = i0.p.low ∧ i_4.p.high = i0.p.high ∧ i_4.p.wide = i0.p.wide ∧ i_4.p.rule = i0.p.rule ∧ i_4.p.top = i0.p.top ∧ i_4.p.least = i0.p.least ∧ i_4.p.part = i0.p.part ∧ i_4.end_ = i0.end_ ∧ (↑i_4.k : Int) = (↑i0.k : Int) ∧ i_4.why = i0.why ∧ i_4.place = i0.place ∧ AObj.fro (1 : Nat) (iE i_4.p.months) = AObj.fro (1 : Nat) (iE i0.p.months) ∧ AObj.fro (1 : Nat) (iE i_4.p.settle) = AObj.fro (1 : Nat) (iE i0.p.settle) ∧ AObj.fro (1 : Nat) (tE i_4.words) = AObj.fro (1 : Nat) (tE i0.words) ∧ AObj.fro (1 : Nat) (iE i_4.at_) = AObj.fro (1 : Nat) (iE i0.at_) ∧ ((i_4.p.code.length ≤ (140737488355328 : Nat) ∧ i_4.p.months.length ≤ (140737488355328 : Nat) ∧ i_4.p.settle.length ≤ (140737488355328 : Nat)) ∧ i_4.at_.length = i_4.words.length ∧ i_4.words.length ≤ (1048576 : Nat) ∧ i_4.k ≤ i_4.words.length ∧ ∀ (w : List UInt8), w ∈ i_4.words → w.length ≤ (1048576 : Nat)) ∧ ∀ (o : Unit), True → cnd i_4.more (∃ (i_5 : Rdr), sb i_5.p.code = sb i_4.p.code ∧ i_5.p.tick = i_4.p.tick ∧ i_5.p.low = i_4.p.low ∧ i_5.p.high = i_4.p.high ∧ i_5.p.wide = i_4.p.wide ∧ i_5.p.rule = i_4.p.rule ∧ i_5.p.top = i_4.p.top ∧ i_5.p.least = i_4.p.least ∧ i_5.p.part = i_4.p.part ∧ i_5.end_ = i_4.end_ ∧ (↑i_5.k : Int) = (↑i_4.k : Int) ∧ i_5.why = i_4.why ∧ i_5.place = i_4.place ∧ AObj.fro (1 : Nat) (iE i_5.p.months) = AObj.fro (1 : Nat) (iE i_4.p.months) ∧ AObj.fro (1 : Nat) (iE i_5.p.settle) = AObj.fro (1 : Nat) (iE i_4.p.settle) ∧ AObj.fro (1 : Nat) (tE i_5.words) = AObj.fro (1 : Nat) (tE i_4.words) ∧ AObj.fro (1 : Nat) (iE i_5.at_) = AObj.fro (1 : Nat) (iE i_4.at_) ∧ ((i_5.p.code.length ≤ (140737488355328 : Nat) ∧ i_5.p.months.length ≤ (140737488355328 : Nat) ∧ i_5.p.settle.length ≤ (140737488355328 : Nat)) ∧ i_5.at_.length = i_5.words.length ∧ i_5.words.length ≤ (1048576 : Nat) ∧ i_5.k ≤ i_5.words.length ∧ ∀ (w : List UInt8), w ∈ i_5.words → w.length ≤ (1048576 : Nat)) ∧ ∀ (o : Unit), True → ∃ (i_6 : RfI), i_6.why = (12 : Int) ∧ i_6.place = i_5.here ∧ sb i_6.r.p.code = sb i_5.next.p.code ∧ i_6.r.p.tick = i_5.next.p.tick ∧ i_6.r.p.low = i_5.next.p.low ∧ i_6.r.p.high = i_5.next.p.high ∧ i_6.r.p.wide = i_5.next.p.wide ∧ i_6.r.p.rule = i_5.next.p.rule ∧ i_6.r.p.top = i_5.next.p.top ∧ i_6.r.p.least = i_5.next.p.least ∧ i_6.r.p.part = i_5.next.p.part ∧ i_6.r.end_ = i_5.next.end_ ∧ (↑i_6.r.k : Int) = (↑i_5.next.k : Int) ∧ i_6.r.why = i_5.next.why ∧ i_6.r.place = i_5.next.place ∧ AObj.fro (1 : Nat) (iE i_6.r.p.months) = AObj.fro (1 : Nat) (iE i_5.next.p.months) ∧ AObj.fro (1 : Nat) (iE i_6.r.p.settle) = AObj.fro (1 : Nat) (iE i_5.next.p.settle) ∧ AObj.fro (1 : Nat) (tE i_6.r.words) = AObj.fro (1 : Nat) (tE i_5.next.words) ∧ AObj.fro (1 : Nat) (iE i_6.r.at_) = AObj.fro (1 : Nat) (iE i_5.next.at_) ∧ True ∧ ∀ (o : Unit), True → ∃ (i' : Rdr), sb i'.p.code = sb (i_6.r.fail i_6.why i_6.place).p.code ∧ i'.p.tick = (i_6.r.fail i_6.why i_6.place).p.tick ∧ i'.p.low = (i_6.r.fail i_6.why i_6.place).p.low ∧ i'.p.high = (i_6.r.fail i_6.why i_6.place).p.high ∧ i'.p.wide = (i_6.r.fail i_6.why i_6.place).p.wide ∧ i'.p.rule = (i_6.r.fail i_6.why i_6.place).p.rule ∧ i'.p.top = (i_6.r.fail i_6.why i_6.place).p.top ∧ i'.p.least = (i_6.r.fail i_6.why i_6.place).p.least ∧ i'.p.part = (i_6.r.fail i_6.why i_6.place).p.part ∧ i'.end_ = (i_6.r.fail i_6.why i_6.place).end_ ∧ (↑i'.k : Int) = (↑(i_6.r.fail i_6.why i_6.place).k : Int) ∧ i'.why = (i_6.r.fail i_6.why i_6.place).why ∧ i'.place = (i_6.r.fail i_6.why i_6.place).place ∧ AObj.fro (1 : Nat) (iE i'.p.months) = AObj.fro (1 : Nat) (iE (i_6.r.fail i_6.why i_6.place).p.months) ∧ AObj.fro (1 : Nat) (iE i'.p.settle) = AObj.fro (1 : Nat) (iE (i_6.r.fail i_6.why i_6.place).p.settle) ∧ AObj.fro (1 : Nat) (tE i'.words) = AObj.fro (1 : Nat) (tE (i_6.r.fail i_6.why i_6.place).words) ∧ AObj.fro (1 : Nat) (iE i'.at_) = AObj.fro (1 : Nat) (iE (i_6.r.fail i_6.why i_6.place).at_) ∧ I i' ∧ Vparser0 i_3 = Vparser0 i_3 ∧ AObj.fro (1 : Nat) (iE i_3.cmd.fst.p.months) = AObj.fro (1 : Nat) (iE i_3.cmd.fst.p.months) ∧ AObj.fro (1 : Nat) (iE i_3.cmd.fst.p.settle) = AObj.fro (1 : Nat) (iE i_3.cmd.fst.p.settle) ∧ AObj.fro (1 : Nat) (tE i_3.cmd.fst.words) = AObj.fro (1 : Nat) (tE i_3.cmd.fst.words) ∧ AObj.fro (1 : Nat) (iE i_3.cmd.fst.at_) = AObj.fro (1 : Nat) (iE i_3.cmd.fst.at_) ∧ AObj.fro (1 : Nat) (iE (wordsA i_1)) = AObj.fro (1 : Nat) (iE (wordsA i_1)) ∧ AObj.fro (1 : Nat) (tE (wordsL i_1)) = AObj.fro (1 : Nat) (tE (wordsL i_1)) ∧ Vparser1 = Vparser1 ∧ Vparser2 i = Vparser2 i ∧ AObj.fro (1 : Nat) (iE i.p.settle) = AObj.fro (1 : Nat) (iE i.p.settle) ∧ AObj.fro (1 : Nat) (iE i.p.months) = AObj.fro (1 : Nat) (iE i.p.months)) (∃ (i' : Rdr), sb i'.p.code = sb i_4.p.code ∧ i'.p.tick = i_4.p.tick ∧ i'.p.low = i_4.p.low ∧ i'.p.high = i_4.p.high ∧ i'.p.wide = i_4.p.wide ∧ i'.p.rule = i_4.p.rule ∧ i'.p.top = i_4.p.top ∧ i'.p.least = i_4.p.least ∧ i'.p.part = i_4.p.part ∧ i'.end_ = i_4.end_ ∧ (↑i'.k : Int) = (↑i_4.k : Int) ∧ i'.why = i_4.why ∧ i'.place = i_4.place ∧ AObj.fro (1 : Nat) (iE i'.p.months) = AObj.fro (1 : Nat) (iE i_4.p.months) ∧ AObj.fro (1 : Nat) (iE i'.p.settle) = AObj.fro (1 : Nat) (iE i_4.p.settle) ∧ AObj.fro (1 : Nat) (tE i'.words) = AObj.fro (1 : Nat) (tE i_4.words) ∧ AObj.fro (1 : Nat) (iE i'.at_) = AObj.fro (1 : Nat) (iE i_4.at_) ∧ I i' ∧ Vparser0 i_3 = Vparser0 i_3 ∧ AObj.fro (1 : Nat) (iE i_3.cmd.fst.p.months) = AObj.fro (1 : Nat) (iE i_3.cmd.fst.p.months) ∧ AObj.fro (1 : Nat) (iE i_3.cmd.fst.p.settle) = AObj.fro (1 : Nat) (iE i_3.cmd.fst.p.settle) ∧ AObj.fro (1 : Nat) (tE i_3.cmd.fst.words) = AObj.fro (1 : Nat) (tE i_3.cmd.fst.words) ∧ AObj.fro (1 : Nat) (iE i_3.cmd.fst.at_) = AObj.fro (1 : Nat) (iE i_3.cmd.fst.at_) ∧ AObj.fro (1 : Nat) (iE (wordsA i_1)) = AObj.fro (1 : Nat) (iE (wordsA i_1)) ∧ AObj.fro (1 : Nat) (tE (wordsL i_1)) = AObj.fro (1 : Nat) (tE (wordsL i_1)) ∧ Vparser1 = Vparser1 ∧ Vparser2 i = Vparser2 i ∧ AObj.fro (1 : Nat) (iE i.p.settle) = AObj.fro (1 : Nat) (iE i.p.settle) ∧ AObj.fro (1 : Nat) (iE i.p.months) = AObj.fro (1 : Nat) (iE i.p.months))) ∧ ∀ (i_4 : Rdr), I i_4 → cnd (i_4.why != (0 : Int)) (i_4.place = i_4.place ∧ i_4.why = i_4.why ∧ ∃ (o : Unit), (parseF i.p i.s).fst.kind = (0 : Int) ∧ (parseF i.p i.s).fst.id = (0 : Int) ∧ (parseF i.p i.s).fst.inst = (0 : Int) ∧ (parseF i.p i.s).fst.side = (0 : Int) ∧ (parseF i.p i.s).fst.price = (0 : Int) ∧ (parseF i.p i.s).fst.qty = (0 : Int) ∧ (parseF i.p i.s).fst.least = (0 : Int) ∧ (parseF i.p i.s).fst.time = (0 : Int) ∧ sb (parseF i.p i.s).fst.label = ByteArray.mk #[] ∧ (parseF i.p i.s).snd.fst = i_4.why ∧ (parseF i.p i.s).snd.snd = i_4.place ∧ True) (∃ (i_5 : Cmd), i_5.kind = i_3.cmd.snd.kind ∧ i_5.id = i_3.cmd.snd.id ∧ i_5.inst = i_3.cmd.snd.inst ∧ i_5.side = i_3.cmd.snd.side ∧ i_5.price = i_3.cmd.snd.price ∧ i_5.qty = i_3.cmd.snd.qty ∧ i_5.least = i_3.cmd.snd.least ∧ i_5.time = i_3.cmd.snd.time ∧ sb i_5.label = sb i_3.cmd.snd.label ∧ i_5.label.length ≤ (140737488355328 : Nat) ∧ ∀ (o : Unit), True → cnd (i_5.right != (0 : Int)) (∃ (o : Unit), (parseF i.p i.s).fst.kind = (0 : Int) ∧ (parseF i.p i.s).fst.id = (0 : Int) ∧ (parseF i.p i.s).fst.inst = (0 : Int) ∧ (parseF i.p i.s).fst.side = (0 : Int) ∧ (parseF i.p i.s).fst.price = (0 : Int) ∧ (parseF i.p i.s).fst.qty = (0 : Int) ∧ (parseF i.p i.s).fst.least = (0 : Int) ∧ (parseF i.p i.s).fst.time = (0 : Int) ∧ sb (parseF i.p i.s).fst.label = ByteArray.mk #[] ∧ (parseF i.p i.s).snd.fst = i_5.right ∧ (parseF i.p i.s).snd.snd = (0 : Int) ∧ True) (∃ (o : Unit), (parseF i.p i.s).fst.kind = i_3.cmd.snd.kind ∧ (parseF i.p i.s).fst.id = i_3.cmd.snd.id ∧ (parseF i.p i.s).fst.inst = i_3.cmd.snd.inst ∧ (parseF i.p i.s).fst.side = i_3.cmd.snd.side ∧ (parseF i.p i.s).fst.price = i_3.cmd.snd.price ∧ (parseF i.p i.s).fst.qty = i_3.cmd.snd.qty ∧ (parseF i.p i.s).fst.least = i_3.cmd.snd.least ∧ (parseF i.p i.s).fst.time = i_3.cmd.snd.time ∧ sb (parseF i.p i.s).fst.label = sb i_3.cmd.snd.label ∧ (parseF i.p i.s).snd.fst = (0 : Int) ∧ (parseF i.p i.s).snd.snd = (0 : Int) ∧ True))
theorem eqparse (i : FndI) : Vparse i = walk Tryz.prog ([(20, wordsC), (39, endC27), (40, rcmdC), (42, rnextC), (43, rfailC), (41, rmoreC), (25, rightC)]) 0 (parseJ) ([]) [] Tryz.f19 (Tryz.f19.body.getD .skip) (parseC.pat i) (parseC.pre i) (parseC.alts i) := by kernel_rfl

theorem byparse (hG : GOk Tryz.prog ([(20, wordsC), (39, endC27), (40, rcmdC), (42, rnextC), (43, rfailC), (41, rmoreC), (25, rightC)])) (h : ∀ (i : FndI), parseC.cnd i → Vparse i) : parseC.ok Tryz.prog 19 := ok_of_walk mixed ([(20, wordsC), (39, endC27), (40, rcmdC), (42, rnextC), (43, rfailC), (41, rmoreC), (25, rightC)]) hG 0 (fun (i : FndI) => parseJ) (fun (i : FndI) => []) [] Tryz.func19 (by kernel_rfl) (by kernel_rfl) (by kernel_rfl) (fun _ => by kernel_rfl) (fun (i : FndI) hc => Eq.mp (eqparse i) (h i hc))

def Vknown27 (u : Unit) : Prop :=
  ∃ (i : Int), i = (1 : Int) ∧ True ∧ ∀ (o : Unit), True → ∃ (i_1 : FndI), sb i_1.p.code = sb [(67 : UInt8), (76 : UInt8)] ∧ iE i_1.p.months = iE [(320 : Int), (321 : Int), (323 : Int)] ∧ i_1.p.tick = (5 : Int) ∧ i_1.p.low = (0 : Int) ∧ i_1.p.high = (1000 : Int) ∧ i_1.p.wide = (200 : Int) ∧ i_1.p.rule = i ∧ i_1.p.top = (4 : Int) ∧ i_1.p.least = (2 : Int) ∧ i_1.p.part = (40 : Int) ∧ iE i_1.p.settle = iE [(500 : Int), (505 : Int), (490 : Int)] ∧ sb i_1.s = ByteArray.mk #[(98 : UInt8), (117 : UInt8), (121 : UInt8), (32 : UInt8), (99 : UInt8), (108 : UInt8), (122 : UInt8), (50 : UInt8), (54 : UInt8), (32 : UInt8), (53 : UInt8), (32 : UInt8), (97 : UInt8), (116 : UInt8), (32 : UInt8), (49 : UInt8), (48 : UInt8), (48 : UInt8), (32 : UInt8), (105 : UInt8), (100 : UInt8), (32 : UInt8), (55 : UInt8)] ∧ ((i_1.p.code.length ≤ (140737488355328 : Nat) ∧ i_1.p.months.length ≤ (140737488355328 : Nat) ∧ i_1.p.settle.length ≤ (140737488355328 : Nat)) ∧ i_1.s.length ≤ (1048576 : Nat)) ∧ ∀ (o : Unit), True → ∃ (i_2 : FndI), sb i_2.p.code = sb [(67 : UInt8), (76 : UInt8)] ∧ iE i_2.p.months = iE [(320 : Int), (321 : Int), (323 : Int)] ∧ i_2.p.tick = (5 : Int) ∧ i_2.p.low = (0 : Int) ∧ i_2.p.high = (1000 : Int) ∧ i_2.p.wide = (200 : Int) ∧ i_2.p.rule = i ∧ i_2.p.top = (4 : Int) ∧ i_2.p.least = (2 : Int) ∧ i_2.p.part = (40 : Int) ∧ iE i_2.p.settle = iE [(500 : Int), (505 : Int), (490 : Int)] ∧ sb i_2.s = ByteArray.mk #[(115 : UInt8), (101 : UInt8), (108 : UInt8), (108 : UInt8), (32 : UInt8), (120 : UInt8)] ∧ ((i_2.p.code.length ≤ (140737488355328 : Nat) ∧ i_2.p.months.length ≤ (140737488355328 : Nat) ∧ i_2.p.settle.length ≤ (140737488355328 : Nat)) ∧ i_2.s.length ≤ (1048576 : Nat)) ∧ ∀ (o : Unit), True → cnd ((parseF i_1.p i_1.s).snd.fst == (0 : Int)) (cnd ((parseF i_1.p i_1.s).fst.kind == (1 : Int) && ((parseF i_1.p i_1.s).fst.id == (7 : Int) && ((parseF i_1.p i_1.s).fst.inst == (2 : Int) && ((parseF i_1.p i_1.s).fst.side == (1 : Int) && ((parseF i_1.p i_1.s).fst.price == (100 : Int) && ((parseF i_1.p i_1.s).fst.qty == (5 : Int) && ((parseF i_1.p i_1.s).fst.least == (0 : Int) && ((parseF i_1.p i_1.s).fst.time == (1 : Int) && (sb (parseF i_1.p i_1.s).fst.label == ByteArray.mk #[] && true))))))))) (cnd ((parseF i_2.p i_2.s).snd.fst == (20 : Int)) (∃ (o : Unit), true = ((parseF i_2.p i_2.s).snd.snd == (5 : Int)) ∧ True) (∃ (o : Unit), true = false ∧ True)) (∃ (o : Unit), true = false ∧ True)) (∃ (o : Unit), true = false ∧ True)
theorem eqknown27 (u : Unit) : Vknown27 u = walk Tryz.prog ([(29, threeC), (19, parseC)]) 0 ([]) ([]) [] Tryz.f11 (Tryz.f11.body.getD .skip) (known27C.pat u) (known27C.pre u) (known27C.alts u) := by kernel_rfl

theorem byknown27 (hG : GOk Tryz.prog ([(29, threeC), (19, parseC)])) (h : ∀ (u : Unit), known27C.cnd u → Vknown27 u) : known27C.ok Tryz.prog 11 := ok_of_walk mixed ([(29, threeC), (19, parseC)]) hG 0 (fun (u : Unit) => []) (fun (u : Unit) => []) [] Tryz.func11 (by kernel_rfl) (by kernel_rfl) (by kernel_rfl) (fun _ => by kernel_rfl) (fun (u : Unit) hc => Eq.mp (eqknown27 u) (h u hc))

end Sx

namespace Sx
set_option linter.unusedVariables false
set_option linter.unusedSimpArgs false
set_option maxRecDepth 100000
open Go Cv Go.Proofs

theorem three_ok : threeC.ok Tryz.prog 29 := bythree gok0 fun n _ => by
  unfold Vthree; (repeat' (first | exact rfl | exact trivial | assumption | apply And.intro | (refine fun (_ : Unit) (_ : True) => ?_) | (refine Exists.intro () ?_) | omega | (dsimp only; omega)))
theorem vwithin (i : WiI) (h : withinC.cnd i) : Vwithin i := by
  obtain ⟨⟨a1, a2⟩, a3, a4, a5⟩ : i64r i.n ∧ -1000000 ≤ i.lo ∧ i.lo ≤ i.hi ∧ i.hi ≤ 1000000 := h
  unfold Vwithin
  rw [w64 (x := i.hi - i.lo) (by omega), w64 (x := i.hi - i.lo + 1) (by omega)]
  obtain ⟨d, hd⟩ : ∃ d : Int, i.hi - i.lo + 1 = d := ⟨_, rfl⟩
  rw [hd]
  have h1 : i.n.tmod d = if 0 ≤ i.n then i.n % d else -((-i.n) % d) := by
    split
    · rename_i h; rw [Int.tmod_eq_emod_of_nonneg h]
    · rename_i h
      have : i.n = -(-i.n) := by omega
      conv => lhs; rw [this]
      rw [Int.neg_tmod, Int.tmod_eq_emod_of_nonneg (by omega)]
  have hb1 := Int.emod_nonneg i.n (show d ≠ 0 by omega)
  have hb2 := Int.emod_lt_of_pos i.n (show 0 < d by omega)
  have hb3 := Int.emod_nonneg (-i.n) (show d ≠ 0 by omega)
  have hb4 := Int.emod_lt_of_pos (-i.n) (show 0 < d by omega)
  have key : i.n.tmod d < 0 → i.n % d = i.n.tmod d + d := fun hneg => by
    have := Int.emod_eq_of_lt (a := i.n.tmod d + d) (b := d) (by rw [h1] at hneg ⊢; split at hneg <;> split <;> omega) (by omega)
    rw [← this, Int.add_emod_right]
    have e := Int.tmod_add_mul_tdiv i.n d
    conv => lhs; rw [← e]
    rw [Int.add_mul_emod_self_left]
  have key2 : ¬ i.n.tmod d < 0 → i.n % d = i.n.tmod d := fun hneg => by
    have hlt : i.n.tmod d < d := by rw [h1]; split <;> omega
    have := Int.emod_eq_of_lt (a := i.n.tmod d) (b := d) (by omega) hlt
    rw [← this]
    have e := Int.tmod_add_mul_tdiv i.n d
    conv => lhs; rw [← e]
    rw [Int.add_mul_emod_self_left]
  refine ⟨rfl, by omega, cndD (fun c => ⟨(), ?_, trivial⟩) (fun c => ⟨(), ?_, trivial⟩)⟩
  · have k := key c
    rw [within, hd, k]
    rw [w64 (x := i.n.tmod d + i.hi) (by omega), w64 (x := i.n.tmod d + i.hi - i.lo) (by omega), w64 (x := i.n.tmod d + i.hi - i.lo + 1) (by omega), w64 (by omega)]
    omega
  · have k := key2 c
    rw [within, hd, k, w64 (by omega)]
theorem within_ok : withinC.ok Tryz.prog 10 := bywithin gok0 vwithin
theorem vhead (i : HdI) (h : headC.cnd i) : Vhead i := by
  obtain ⟨h1, h2, h3⟩ : 0 ≤ i.n ∧ i.n ≤ 1000000 ∧ i.s.length ≤ 9223372036854775807 := h
  unfold Vhead
  rw [sb_size]
  refine cndD (fun c => ⟨⟨h1, by omega⟩, (), ?_, trivial⟩) (fun c => ⟨(), ?_, trivial⟩)
  · rw [headF, if_pos (by omega), sb_cut, List.drop_zero]
  · rw [headF, if_neg (by omega)]
theorem head_ok : headC.ok Tryz.prog 5 := byhead gok0 vhead

/-! ### What a line keeps -/
@[simp] theorem fail_p (r : Rdr) (a b : Int) : (r.fail a b).p = r.p := by unfold Rdr.fail; split <;> rfl
@[simp] theorem fail_words (r : Rdr) (a b : Int) : (r.fail a b).words = r.words := by unfold Rdr.fail; split <;> rfl
@[simp] theorem fail_at (r : Rdr) (a b : Int) : (r.fail a b).at_ = r.at_ := by unfold Rdr.fail; split <;> rfl
@[simp] theorem fail_k (r : Rdr) (a b : Int) : (r.fail a b).k = r.k := by unfold Rdr.fail; split <;> rfl
@[simp] theorem next_p (r : Rdr) : r.next.p = r.p := by unfold Rdr.next; split <;> simp
@[simp] theorem next_words (r : Rdr) : r.next.words = r.words := by unfold Rdr.next; split <;> simp
@[simp] theorem next_at (r : Rdr) : r.next.at_ = r.at_ := by unfold Rdr.next; split <;> simp
theorem next_k (r : Rdr) : r.k ≤ r.next.k := by unfold Rdr.next; split <;> simp
theorem next_k1 {r : Rdr} (h : r.more = true) : r.next.k = r.k + 1 := by rw [Rdr.next, if_pos h]
@[simp] theorem numR_p (r : Rdr) : r.numR.p = r.p := by unfold Rdr.numR; split <;> simp
@[simp] theorem numR_words (r : Rdr) : r.numR.words = r.words := by unfold Rdr.numR; split <;> simp
@[simp] theorem numR_at (r : Rdr) : r.numR.at_ = r.at_ := by unfold Rdr.numR; split <;> simp
theorem numR_k (r : Rdr) : r.k ≤ r.numR.k := by
  have := next_k r
  unfold Rdr.numR; split <;> simpa
@[simp] theorem must_p (r : Rdr) (w : List UInt8) : (r.must w).p = r.p := by unfold Rdr.must; split <;> simp
@[simp] theorem must_words (r : Rdr) (w : List UInt8) : (r.must w).words = r.words := by unfold Rdr.must; split <;> simp

theorem step_rok {x : Opt} (h : x.r.ok) : x.step.r.ok := by
  have hn := next_rok h
  unfold Opt.step
  split
  · exact fail_rok hn _ _
  split
  · exact numR_rok hn
  split
  · exact hn
  split
  · exact hn
  split
  · dsimp only
    split
    · exact next_rok hn
    · exact fail_rok (next_rok hn) _ _
  · exact fail_rok hn _ _
theorem step_words (x : Opt) : x.step.r.words = x.r.words := by
  unfold Opt.step
  split
  · simp
  split
  · simp
  split
  · simp
  split
  · simp
  split
  · dsimp only
    split <;> simp
  · simp
theorem step_k {x : Opt} (h : x.r.more = true) : x.r.k + 1 ≤ x.step.r.k := by
  have hn := next_k1 h
  unfold Opt.step
  split
  · simp [hn]
  split
  · have := numR_k x.r.next
    dsimp only; omega
  split
  · dsimp only; omega
  split
  · dsimp only; omega
  split
  · have := next_k x.r.next
    dsimp only
    split
    · omega
    · simp; omega
  · simp [hn]
theorem step_lab {x : Opt} (h : x.r.ok) (hl : x.c.label.length ≤ 1048576) : x.step.c.label.length ≤ 1048576 := by
  have hn := next_rok h
  unfold Opt.step
  split
  · exact hl
  split
  · exact hl
  split
  · exact hl
  split
  · exact hl
  split
  · exact word_len hn
  · exact hl
theorem run_stop {x : Opt} (h : x.r.more = false) : ∀ m, Opt.run m x = x
  | 0 => rfl
  | m + 1 => by rw [Opt.run, if_neg (by simp [h])]

theorem cAT : ByteArray.mk #[65, 84] = sb wAT := rfl
theorem cID : ByteArray.mk #[73, 68] = sb wID := rfl

structure OInv (L : Nat) (y : Opt) (x : Opt) : Prop where
  ok : x.r.ok
  len : x.r.words.length = L
  run : ∃ m, L ≤ m + x.r.k ∧ Opt.run m x = y
theorem o1_rok {r : Rdr} (h : r.ok) : r.o1.ok := by
  unfold Rdr.o1; split
  · exact next_rok h
  · exact fail_rok (next_rok h) _ _
theorem o2_rok {r : Rdr} (h : r.ok) : r.o2.ok := must_rok (numR_rok (o1_rok h)) _
theorem o3_rok {r : Rdr} (h : r.ok) : r.o3.ok := must_rok (numR_rok (o2_rok h)) _
theorem o1_words (r : Rdr) : r.o1.words = r.words := by unfold Rdr.o1; split <;> simp
theorem o2_words (r : Rdr) : r.o2.words = r.words := by unfold Rdr.o2; simp [o1_words]
theorem o3_words (r : Rdr) : r.o3.words = r.words := by unfold Rdr.o3; simp [o2_words]
theorem vrord (i : RoI) (h : rorderC.cnd i) : Vrord i := by
  have h0 : i.r.ok := h
  have hw := word_len h0
  unfold Vrord
  simp only [cAT, cID]
  refine ⟨i.r, rfl, rfl, rfl, rfl, rfl, rfl, rfl, rfl, rfl, rfl, rfl, rfl, rfl, rfl, rfl, rfl, rfl, h0, fun _ _ => ⟨i.r.word, rfl, by omega, fun _ _ => ⟨by (repeat' (first | exact rfl | exact trivial | assumption | apply And.intro | (refine fun (_ : Unit) (_ : True) => ?_) | (refine Exists.intro () ?_) | fail)), ⟨i.r.next.p, foldF i.r.word⟩, rfl, rfl, rfl, rfl, rfl, rfl, rfl, rfl, rfl, rfl, rfl, rfl, (next_rok h0).1, fun _ _ => ⟨i.r.next, ?_⟩⟩⟩⟩
  refine ⟨rfl, rfl, rfl, rfl, rfl, rfl, rfl, rfl, rfl, rfl, rfl, rfl, rfl, rfl, rfl, rfl, rfl, fun r => r = i.r.o1, Cv.cnd.mk (fun c => ⟨⟨i.r.next, 20, i.r.here⟩, ?_⟩) (fun c => ⟨i.r.next, ?_⟩), fun r hr => ?_⟩
  · have c : ¬ (i.r.p.find (foldF i.r.word)).2 = true := by rw [next_p] at c; simpa using c
    have e : i.r.next.fail 20 i.r.here = i.r.o1 := by rw [Rdr.o1, if_neg c]
    clear h0 hw
    (repeat' (first | exact rfl | exact trivial | assumption | apply And.intro | (refine fun (_ : Unit) (_ : True) => ?_) | (refine Exists.intro () ?_) | fail))
    refine ⟨i.r.o1, ?_⟩
    simp only [e]
    (repeat' (first | exact rfl | exact trivial | assumption | apply And.intro | (refine fun (_ : Unit) (_ : True) => ?_) | (refine Exists.intro () ?_) | fail))
  · have c : (i.r.p.find (foldF i.r.word)).2 = true := by rw [next_p] at c; simpa using c
    have e : i.r.next = i.r.o1 := by rw [Rdr.o1, if_pos c]
    clear h0 hw
    rw [e]
    (repeat' (first | exact rfl | exact trivial | assumption | apply And.intro | (refine fun (_ : Unit) (_ : True) => ?_) | (refine Exists.intro () ?_) | fail))
  have ha : r.ok := by rw [hr]; exact o1_rok h0
  have hw2 : r.words.length = i.r.words.length := by rw [hr, o1_words]
  have ho : ∀ x : Opt, x = ⟨((r.numR.must wAT).numR.must wID).numR, ⟨1, ((r.numR.must wAT).numR.must wID).num, (i.r.next.p.find (foldF i.r.word)).1, i.side, (r.numR.must wAT).num, r.num, 0, 1, []⟩, []⟩ → Opt.run i.r.words.length x = i.r.order i.side := by
    rintro x rfl
    rw [next_p, hr]; rfl
  clear hr hw
  refine ⟨r, rfl, rfl, rfl, rfl, rfl, rfl, rfl, rfl, rfl, rfl, rfl, rfl, rfl, rfl, rfl, rfl, rfl, ha, fun _ _ => ⟨⟨r.numR, wAT⟩, rfl, rfl, rfl, rfl, rfl, rfl, rfl, rfl, rfl, rfl, rfl, rfl, rfl, rfl, rfl, rfl, rfl, rfl, numR_rok ha, fun _ _ => ?_⟩⟩
  have hb : (r.numR.must wAT).ok := must_rok (numR_rok ha) wAT
  have hbw : (r.numR.must wAT).words.length = i.r.words.length := by simp only [numR_words, must_words]; exact hw2
  dsimp only
  generalize hq : r.num = q at ho ⊢
  generalize r.numR.must wAT = b at hb hbw ho ⊢
  refine ⟨b, rfl, rfl, rfl, rfl, rfl, rfl, rfl, rfl, rfl, rfl, rfl, rfl, rfl, rfl, rfl, rfl, rfl, hb, fun _ _ => ⟨⟨b.numR, wID⟩, rfl, rfl, rfl, rfl, rfl, rfl, rfl, rfl, rfl, rfl, rfl, rfl, rfl, rfl, rfl, rfl, rfl, rfl, numR_rok hb, fun _ _ => ?_⟩⟩
  have hc : (b.numR.must wID).ok := must_rok (numR_rok hb) wID
  have hcw : (b.numR.must wID).words.length = i.r.words.length := by simp only [numR_words, must_words]; exact hbw
  dsimp only
  generalize b.num = q2 at ho ⊢
  generalize b.numR.must wID = c at hc hcw ho ⊢
  refine ⟨c, rfl, rfl, rfl, rfl, rfl, rfl, rfl, rfl, rfl, rfl, rfl, rfl, rfl, rfl, rfl, rfl, rfl, hc, fun _ _ => ?_⟩
  have hd := numR_rok hc
  have hdw : c.numR.words.length = i.r.words.length := by simp only [numR_words]; exact hcw
  generalize c.num = q3 at ho ⊢
  generalize c.numR = d at hd hdw ho ⊢
  generalize (i.r.next.p.find (foldF i.r.word)).1 = q4 at ho ⊢
  refine ⟨⟨d, ⟨1, q3, q4, i.side, q2, q, 0, 1, []⟩, []⟩, rfl, rfl, rfl, rfl, rfl, rfl, rfl, rfl, rfl, rfl, rfl, rfl, rfl, rfl, rfl, rfl, rfl, rfl, rfl, rfl, rfl, rfl, rfl, rfl, rfl, rfl, rfl, fun x => OInv i.r.words.length (i.r.order i.side) x, fun x => x.r.words.length - x.r.k, ⟨hd, hdw, i.r.words.length, by omega, ho _ rfl⟩, ?_⟩
  clear ho hb hbw hc hcw hd hdw ha hw2
  rintro x ⟨k1, k2, m, k3, k4⟩
  refine ⟨x.r, rfl, rfl, rfl, rfl, rfl, rfl, rfl, rfl, rfl, rfl, rfl, rfl, rfl, rfl, rfl, rfl, rfl, k1, fun _ _ => Cv.cnd.mk (fun c => ⟨x, rfl, rfl, rfl, rfl, rfl, rfl, rfl, rfl, rfl, rfl, rfl, rfl, rfl, rfl, rfl, rfl, rfl, rfl, rfl, rfl, rfl, rfl, rfl, rfl, rfl, rfl, rfl, k1, fun _ _ => ⟨x.step, rfl, rfl, rfl, rfl, rfl, rfl, rfl, rfl, rfl, rfl, rfl, rfl, rfl, rfl, rfl, rfl, rfl, rfl, rfl, rfl, rfl, rfl, rfl, rfl, rfl, rfl, rfl, ?_, ?_, ?_⟩⟩) (fun c => ?_)⟩
  · have s1 := step_k c
    have s2 := step_words x
    have hk : x.r.k < x.r.words.length := by
      simp only [Rdr.more, Bool.and_eq_true, decide_eq_true_eq] at c; omega
    obtain ⟨m', rfl⟩ : ∃ m', m = m' + 1 := ⟨m - 1, by omega⟩
    rw [Opt.run, if_pos c] at k4
    exact ⟨step_rok k1, by rw [s2]; exact k2, m', by omega, k4⟩
  · have s1 := step_k c
    have s2 := step_words x
    have hk : x.r.k < x.r.words.length := by
      simp only [Rdr.more, Bool.and_eq_true, decide_eq_true_eq] at c; omega
    show x.step.r.words.length - x.step.r.k < x.r.words.length - x.r.k
    rw [s2]; omega
  · clear h0 k1 k2 k3 k4 c
    (repeat' (first | exact rfl | exact trivial | assumption | apply And.intro | (refine fun (_ : Unit) (_ : True) => ?_) | (refine Exists.intro () ?_) | fail))
  · rw [run_stop c] at k4
    rw [← k4]
    clear h0 k1 k2 k3 k4 c
    (repeat' (first | exact rfl | exact trivial | assumption | apply And.intro | (refine fun (_ : Unit) (_ : True) => ?_) | (refine Exists.intro () ?_) | fail))
theorem rord_ok : rorderC.ok Tryz.prog 59 := byrord (gokc rnext_ok (gokc fold_ok (gokc pfind_ok (gokc rfail_ok (gokc rnum_ok (gokc rmust_ok (gokc rmore_ok (gokc ropt_ok gok0)))))))) vrord

theorem isW {w v : List UInt8} {b : ByteArray} (hb : b = sb v) (h : ((sb w).toList == b.toList) = true) : w = v := by
  subst hb; rw [eqB] at h; simpa using h
theorem isnW {w v : List UInt8} {b : ByteArray} (hb : b = sb v) (h : ((sb w).toList == b.toList) = false) : ¬ w = v := by
  subst hb; rw [eqB] at h; simpa using h
theorem vrcmd (i : Rdr) (h : rcmdC.cnd i) : Vrcmd i := by
  have h0 : i.ok := h
  have hw := word_len h0
  have hn := next_rok h0
  unfold Vrcmd
  refine Cv.cnd.mk (fun c => ⟨⟨i, 31, i.end_⟩, rfl, rfl, rfl, rfl, rfl, rfl, rfl, rfl, rfl, rfl, rfl, rfl, rfl, rfl, rfl, rfl, rfl, rfl, rfl, trivial, fun _ _ => ⟨(), ?_⟩⟩) (fun c => ⟨i, rfl, rfl, rfl, rfl, rfl, rfl, rfl, rfl, rfl, rfl, rfl, rfl, rfl, rfl, rfl, rfl, rfl, h0, fun _ _ => ⟨i.word, rfl, by omega, fun _ _ => ?_⟩⟩)
  · have c : i.words = [] := by
      rw [beqI, tE_len] at c
      have : (i.words.length : Int) = 0 := by simpa using c
      exact List.eq_nil_of_length_eq_zero (by omega)
    have e : i.cmd = (i.fail 31 i.end_, cmd0) := by rw [Rdr.cmd, if_pos c]
    rw [e]
    clear h0 hw hn h c e
    dsimp only
    (repeat' (first | exact rfl | exact trivial | assumption | apply And.intro | (refine fun (_ : Unit) (_ : True) => ?_) | (refine Exists.intro () ?_) | fail))
  have c : ¬ i.words = [] := by
    rw [beqI, tE_len] at c
    intro e
    rw [e] at c
    simp at c
  have hcmd : i.cmd = if foldF i.word = wCANCEL then (i.next.numR, ⟨2, i.next.num, 0, 0, 0, 0, 0, 0, []⟩)
    else if foldF i.word = wCUT then (i.next.numR.numR, ⟨3, i.next.num, 0, 0, 0, i.next.numR.num, 0, 0, []⟩)
    else if foldF i.word = wCHANGE then (i.next.numR.numR.numR, ⟨4, i.next.num, 0, 0, i.next.numR.num, i.next.numR.numR.num, 0, 0, []⟩)
    else if foldF i.word = wBUY then ((i.next.order 1).r, (i.next.order 1).c)
    else if foldF i.word = wSELL then ((i.next.order 2).r, (i.next.order 2).c)
    else (i.next.fail 31 i.here, cmd0) := by rw [Rdr.cmd, if_neg c]
  generalize foldF i.word = w at hcmd ⊢
  generalize i.next = n at hcmd hn ⊢
  generalize i.here = pl at hcmd ⊢
  generalize i.cmd = C at hcmd ⊢
  clear h0 hw h c
  have n1 := numR_rok hn
  have n2 := numR_rok n1
  refine Cv.cnd.mk (fun d1 => ⟨n, rfl, rfl, rfl, rfl, rfl, rfl, rfl, rfl, rfl, rfl, rfl, rfl, rfl, rfl, rfl, rfl, rfl, hn, fun _ _ => ⟨(), ?_⟩⟩) fun d1 => Cv.cnd.mk (fun d2 => ⟨n, rfl, rfl, rfl, rfl, rfl, rfl, rfl, rfl, rfl, rfl, rfl, rfl, rfl, rfl, rfl, rfl, rfl, hn, fun _ _ => ⟨n.numR, rfl, rfl, rfl, rfl, rfl, rfl, rfl, rfl, rfl, rfl, rfl, rfl, rfl, rfl, rfl, rfl, rfl, n1, fun _ _ => ⟨(), ?_⟩⟩⟩) fun d2 => Cv.cnd.mk (fun d3 => ⟨n, rfl, rfl, rfl, rfl, rfl, rfl, rfl, rfl, rfl, rfl, rfl, rfl, rfl, rfl, rfl, rfl, rfl, hn, fun _ _ => ⟨n.numR, rfl, rfl, rfl, rfl, rfl, rfl, rfl, rfl, rfl, rfl, rfl, rfl, rfl, rfl, rfl, rfl, rfl, n1, fun _ _ => ⟨n.numR.numR, rfl, rfl, rfl, rfl, rfl, rfl, rfl, rfl, rfl, rfl, rfl, rfl, rfl, rfl, rfl, rfl, rfl, n2, fun _ _ => ⟨(), ?_⟩⟩⟩⟩) fun d3 => Cv.cnd.mk (fun d4 => ⟨⟨n, 1⟩, rfl, rfl, rfl, rfl, rfl, rfl, rfl, rfl, rfl, rfl, rfl, rfl, rfl, rfl, rfl, rfl, rfl, rfl, hn, fun _ _ => ⟨(), ?_⟩⟩) fun d4 => Cv.cnd.mk (fun d5 => ⟨⟨n, 2⟩, rfl, rfl, rfl, rfl, rfl, rfl, rfl, rfl, rfl, rfl, rfl, rfl, rfl, rfl, rfl, rfl, rfl, rfl, hn, fun _ _ => ⟨(), ?_⟩⟩) fun d5 => ⟨⟨n, 31, pl⟩, rfl, rfl, rfl, rfl, rfl, rfl, rfl, rfl, rfl, rfl, rfl, rfl, rfl, rfl, rfl, rfl, rfl, rfl, rfl, trivial, fun _ _ => ⟨(), ?_⟩⟩
  all_goals clear n1 n2 hn
  · have d1 := isW (v := wCANCEL) rfl d1
    rw [if_pos d1] at hcmd
    subst hcmd
    dsimp only
    (repeat' (first | exact rfl | exact trivial | assumption | apply And.intro | (refine fun (_ : Unit) (_ : True) => ?_) | (refine Exists.intro () ?_) | fail))
  · have d1 := isnW (v := wCANCEL) rfl d1
    have d2 := isW (v := wCUT) rfl d2
    rw [if_neg d1, if_pos d2] at hcmd
    subst hcmd
    dsimp only
    (repeat' (first | exact rfl | exact trivial | assumption | apply And.intro | (refine fun (_ : Unit) (_ : True) => ?_) | (refine Exists.intro () ?_) | fail))
  · have d1 := isnW (v := wCANCEL) rfl d1
    have d2 := isnW (v := wCUT) rfl d2
    have d3 := isW (v := wCHANGE) rfl d3
    rw [if_neg d1, if_neg d2, if_pos d3] at hcmd
    subst hcmd
    dsimp only
    (repeat' (first | exact rfl | exact trivial | assumption | apply And.intro | (refine fun (_ : Unit) (_ : True) => ?_) | (refine Exists.intro () ?_) | fail))
  · have d1 := isnW (v := wCANCEL) rfl d1
    have d2 := isnW (v := wCUT) rfl d2
    have d3 := isnW (v := wCHANGE) rfl d3
    have d4 := isW (v := wBUY) rfl d4
    rw [if_neg d1, if_neg d2, if_neg d3, if_pos d4] at hcmd
    subst hcmd
    dsimp only
    (repeat' (first | exact rfl | exact trivial | assumption | apply And.intro | (refine fun (_ : Unit) (_ : True) => ?_) | (refine Exists.intro () ?_) | fail))
  · have d1 := isnW (v := wCANCEL) rfl d1
    have d2 := isnW (v := wCUT) rfl d2
    have d3 := isnW (v := wCHANGE) rfl d3
    have d4 := isnW (v := wBUY) rfl d4
    have d5 := isW (v := wSELL) rfl d5
    rw [if_neg d1, if_neg d2, if_neg d3, if_neg d4, if_pos d5] at hcmd
    subst hcmd
    dsimp only
    (repeat' (first | exact rfl | exact trivial | assumption | apply And.intro | (refine fun (_ : Unit) (_ : True) => ?_) | (refine Exists.intro () ?_) | fail))
  · have d1 := isnW (v := wCANCEL) rfl d1
    have d2 := isnW (v := wCUT) rfl d2
    have d3 := isnW (v := wCHANGE) rfl d3
    have d4 := isnW (v := wBUY) rfl d4
    have d5 := isnW (v := wSELL) rfl d5
    rw [if_neg d1, if_neg d2, if_neg d3, if_neg d4, if_neg d5] at hcmd
    subst hcmd
    dsimp only
    (repeat' (first | exact rfl | exact trivial | assumption | apply And.intro | (refine fun (_ : Unit) (_ : True) => ?_) | (refine Exists.intro () ?_) | fail))
theorem rcmd_ok : rcmdC.ok Tryz.prog 40 := byrcmd (gokc rnext_ok (gokc fold_ok (gokc rfail_ok (gokc rnum_ok (gokc rord_ok gok0))))) vrcmd

/-! ### A line as a command -/
structure WOk (s : List UInt8) (x : WSt) : Prop where
  at_ : x.at_.length = x.words.length + (if 0 ≤ x.from_ then 1 else 0)
  w : ∀ w ∈ x.words, w.length ≤ s.length
theorem wok_step {s : List UInt8} {x : WSt} (h : WOk s x) (r : Nat × Nat) : WOk s (WSt.step s x r) := by
  obtain ⟨h1, h2⟩ := h
  unfold WSt.step
  split
  · split
    · rename_i hf
      rw [if_pos hf] at h1
      refine ⟨by simp [h1], fun w hw => ?_⟩
      rcases List.mem_append.1 hw with hw | hw
      · exact h2 w hw
      · rw [List.mem_singleton.1 hw, List.length_drop, List.length_take]; omega
    · exact ⟨h1, h2⟩
  · split
    · rename_i hf
      rw [if_neg (by omega)] at h1
      exact ⟨by simp [h1], h2⟩
    · exact ⟨h1, h2⟩
theorem wok_fold {s : List UInt8} : ∀ {l : List (Nat × Nat)} {x : WSt}, WOk s x → WOk s (l.foldl (WSt.step s) x)
  | [], x, h => h
  | r :: l, x, h => wok_fold (l := l) (wok_step h r)
theorem at_fold {s : List UInt8} : ∀ {l : List (Nat × Nat)} {x : WSt}, (l.foldl (WSt.step s) x).at_.length ≤ x.at_.length + l.length
  | [], x => by simp
  | r :: l, x => by
    have ih := at_fold (s := s) (l := l) (x := WSt.step s x r)
    have h1 : (WSt.step s x r).at_.length ≤ x.at_.length + 1 := by
      unfold WSt.step
      split
      · split <;> simp
      · split <;> simp
    simp only [List.foldl_cons, List.length_cons]
    omega
theorem words_at (s : List UInt8) : (wordsA s).length = (wordsL s).length := by
  have h := wok_fold (s := s) (l := runesP s 0) (x := ⟨[], [], -1, 0⟩) ⟨rfl, by simp⟩
  have h1 : (wordsSt s).at_.length = (wordsSt s).words.length + (if 0 ≤ (wordsSt s).from_ then 1 else 0) := h.at_
  unfold wordsA wordsL
  rw [h1]
  split <;> simp
theorem words_mem (s : List UInt8) : ∀ w ∈ wordsL s, w.length ≤ s.length := by
  have h := wok_fold (s := s) (l := runesP s 0) (x := ⟨[], [], -1, 0⟩) ⟨rfl, by simp⟩
  have h2 : ∀ w ∈ (wordsSt s).words, w.length ≤ s.length := h.w
  intro w hw
  unfold wordsL at hw
  split at hw
  · rcases List.mem_append.1 hw with hw | hw
    · exact h2 w hw
    · rw [List.mem_singleton.1 hw, List.length_drop]; omega
  · exact h2 w hw
theorem words_len (s : List UInt8) : (wordsL s).length ≤ s.length := by
  rw [← words_at]
  have h : (wordsSt s).at_.length ≤ 0 + (runesP s 0).length := at_fold (s := s) (l := runesP s 0) (x := ⟨[], [], -1, 0⟩)
  have := runesP_len s s.length 0 (by omega)
  unfold wordsA
  omega
theorem rdr0_ok {p : Prd} {s : List UInt8} (hp : p.small) (hs : s.length ≤ 1048576) : (rdr0 p s).ok :=
  ⟨hp, words_at s, by show (wordsL s).length ≤ _; have := words_len s; omega, Nat.zero_le _, fun w hw => by have := words_mem s w hw; omega⟩
theorem orun_rok : ∀ (m : Nat) {x : Opt}, x.r.ok → (Opt.run m x).r.ok
  | 0, x, h => h
  | m + 1, x, h => by
    rw [Opt.run]
    split
    · exact orun_rok m (step_rok h)
    · exact h
theorem orun_lab : ∀ (m : Nat) {x : Opt}, x.r.ok → x.c.label.length ≤ 1048576 → (Opt.run m x).c.label.length ≤ 1048576
  | 0, x, h, hl => hl
  | m + 1, x, h, hl => by
    rw [Opt.run]
    split
    · exact orun_lab m (step_rok h) (step_lab h hl)
    · exact hl
theorem order0_rok {r : Rdr} (h : r.ok) (side : Int) : (r.order0 side).r.ok := by
  have e : (r.order0 side).r = r.o3.numR := by dsimp only [Rdr.order0]
  rw [e]
  exact numR_rok (o3_rok h)
theorem order_rok {r : Rdr} (h : r.ok) (side : Int) : (r.order side).r.ok := by
  rw [Rdr.order]
  exact orun_rok _ (order0_rok h side)
theorem order_lab {r : Rdr} (h : r.ok) (side : Int) : (r.order side).c.label.length ≤ 1048576 := by
  have hl : (r.order0 side).c.label.length ≤ 1048576 := Nat.zero_le _
  rw [Rdr.order]
  exact orun_lab _ (order0_rok h side) hl
theorem cmd_rok {r : Rdr} (h : r.ok) : r.cmd.1.ok ∧ r.cmd.2.label.length ≤ 1048576 := by
  have hn := next_rok h
  have hz : ([] : List UInt8).length ≤ 1048576 := by simp
  unfold Rdr.cmd
  split
  · exact ⟨fail_rok h _ _, hz⟩
  split
  · exact ⟨numR_rok hn, hz⟩
  split
  · exact ⟨numR_rok (numR_rok hn), hz⟩
  split
  · exact ⟨numR_rok (numR_rok (numR_rok hn)), hz⟩
  split
  · exact ⟨order_rok hn 1, order_lab hn 1⟩
  split
  · exact ⟨order_rok hn 2, order_lab hn 2⟩
  · exact ⟨fail_rok hn _ _, hz⟩
theorem vparse (i : FndI) (h : parseC.cnd i) : Vparse i := by
  obtain ⟨h1, h2⟩ : i.p.small ∧ i.s.length ≤ 1048576 := h
  have hr := rdr0_ok h1 h2
  obtain ⟨hc, hl⟩ := cmd_rok hr
  unfold Vparse
  refine ⟨i.s, rfl, h2, fun _ _ => ⟨i.s, rfl, by omega, fun _ _ => ⟨by (repeat' (first | exact rfl | exact trivial | assumption | apply And.intro | (refine fun (_ : Unit) (_ : True) => ?_) | (refine Exists.intro () ?_) | fail)), rdr0 i.p i.s, rfl, rfl, rfl, rfl, rfl, rfl, rfl, rfl, rfl, rfl, rfl, rfl, rfl, rfl, rfl, rfl, rfl, hr, fun _ _ => ?_⟩⟩⟩
  have hp : parseF i.p i.s = if (rdr0 i.p i.s).cmd.1.rest.why ≠ 0 then (cmd0, (rdr0 i.p i.s).cmd.1.rest.why, (rdr0 i.p i.s).cmd.1.rest.place)
    else if (rdr0 i.p i.s).cmd.2.right ≠ 0 then (cmd0, (rdr0 i.p i.s).cmd.2.right, 0) else ((rdr0 i.p i.s).cmd.2, 0, 0) := rfl
  generalize parseF i.p i.s = F at hp ⊢
  generalize (rdr0 i.p i.s).cmd = C at hp hc hl ⊢
  obtain ⟨r, c⟩ := C
  dsimp only at hp hc hl
  clear hr h1 h2
  have hcn := next_rok hc
  refine ⟨r, rfl, rfl, rfl, rfl, rfl, rfl, rfl, rfl, rfl, rfl, rfl, rfl, rfl, rfl, rfl, rfl, rfl, fun x => x = r.rest, ⟨r, rfl, rfl, rfl, rfl, rfl, rfl, rfl, rfl, rfl, rfl, rfl, rfl, rfl, rfl, rfl, rfl, rfl, hc, fun _ _ => Cv.cnd.mk (fun d => ⟨r, rfl, rfl, rfl, rfl, rfl, rfl, rfl, rfl, rfl, rfl, rfl, rfl, rfl, rfl, rfl, rfl, rfl, hc, fun _ _ => ⟨⟨r.next, 12, r.here⟩, rfl, rfl, rfl, rfl, rfl, rfl, rfl, rfl, rfl, rfl, rfl, rfl, rfl, rfl, rfl, rfl, rfl, rfl, rfl, trivial, fun _ _ => ⟨r.rest, ?_⟩⟩⟩) (fun d => ⟨r, ?_⟩)⟩, fun x hx => ?_⟩
  · have e : r.rest = r.next.fail 12 r.here := by rw [Rdr.rest, if_pos d]
    clear hp hc hl hcn d
    rw [e]
    dsimp only
    generalize r.next.fail 12 r.here = q
    (repeat' (first | exact rfl | exact trivial | assumption | apply And.intro | (refine fun (_ : Unit) (_ : True) => ?_) | (refine Exists.intro () ?_) | fail))
  · have e : r.rest = r := by rw [Rdr.rest, if_neg (by simp [d])]
    clear hp hc hl hcn d
    rw [e]
    (repeat' (first | exact rfl | exact trivial | assumption | apply And.intro | (refine fun (_ : Unit) (_ : True) => ?_) | (refine Exists.intro () ?_) | fail))
  subst hx
  generalize r.rest = q at hp ⊢
  clear hc hcn
  refine Cv.cnd.mk (fun d => ?_) fun d => ⟨c, rfl, rfl, rfl, rfl, rfl, rfl, rfl, rfl, rfl, by omega, fun _ _ => Cv.cnd.mk (fun e => ⟨(), ?_⟩) (fun e => ⟨(), ?_⟩)⟩
  · have d : q.why ≠ 0 := by simpa using d
    rw [if_pos d] at hp
    subst hp
    clear hl d
    dsimp only
    (repeat' (first | exact rfl | exact trivial | assumption | apply And.intro | (refine fun (_ : Unit) (_ : True) => ?_) | (refine Exists.intro () ?_) | fail))
  · have d : ¬ q.why ≠ 0 := by simpa using d
    have e : c.right ≠ 0 := by simpa using e
    rw [if_neg d, if_pos e] at hp
    subst hp
    clear hl d e
    dsimp only
    (repeat' (first | exact rfl | exact trivial | assumption | apply And.intro | (refine fun (_ : Unit) (_ : True) => ?_) | (refine Exists.intro () ?_) | fail))
  · have d : ¬ q.why ≠ 0 := by simpa using d
    have e : ¬ c.right ≠ 0 := by simpa using e
    rw [if_neg d, if_neg e] at hp
    subst hp
    clear hl d e
    dsimp only
    (repeat' (first | exact rfl | exact trivial | assumption | apply And.intro | (refine fun (_ : Unit) (_ : True) => ?_) | (refine Exists.intro () ?_) | fail))
theorem parse_ok : parseC.ok Tryz.prog 19 := byparse (gokc words_ok (gokc end27_ok (gokc rcmd_ok (gokc rnext_ok (gokc rfail_ok (gokc rmore_ok (gokc right_ok gok0))))))) vparse

def line1 : List UInt8 := [98, 117, 121, 32, 99, 108, 122, 50, 54, 32, 53, 32, 97, 116, 32, 49, 48, 48, 32, 105, 100, 32, 55]
def line2 : List UInt8 := [115, 101, 108, 108, 32, 120]
theorem known1 : parseF (three 1) line1 = (⟨1, 7, 2, 1, 100, 5, 0, 1, []⟩, 0, 0) := by kernel_rfl
theorem known2 : (parseF (three 1) line2).2 = (20, 5) := by kernel_rfl
theorem vknown27 (u : Unit) (h : known27C.cnd u) : Vknown27 u := by
  unfold Vknown27
  refine ⟨1, rfl, trivial, fun _ _ => ⟨⟨three 1, line1⟩, rfl, rfl, rfl, rfl, rfl, rfl, rfl, rfl, rfl, rfl, rfl, rfl, ⟨⟨by decide, by decide, by decide⟩, by decide⟩, fun _ _ => ⟨⟨three 1, line2⟩, rfl, rfl, rfl, rfl, rfl, rfl, rfl, rfl, rfl, rfl, rfl, rfl, ⟨⟨by decide, by decide, by decide⟩, by decide⟩, fun _ _ => ?_⟩⟩⟩
  dsimp only
  rw [known1, known2]
  dsimp only
  exact ⟨(), rfl, trivial⟩
theorem known27_ok : known27C.ok Tryz.prog 11 := byknown27 (gokc three_ok (gokc parse_ok gok0)) vknown27

end Sx

namespace Sx
set_option linter.unusedVariables false
set_option maxRecDepth 100000
open Go Cv Go.Proofs

structure CwI where
  s : List UInt8
  n : Int
end Sx

namespace Sx
set_option linter.unusedVariables false
set_option maxRecDepth 100000
open Go Cv Go.Proofs
end Sx

namespace Sx
set_option linter.unusedVariables false
set_option linter.unusedSimpArgs false
set_option maxRecDepth 100000
open Go Cv Go.Proofs

/-! ### A rune's bytes -/
def gB (l : List UInt8) (k : Nat) : Nat := (l.getD k 0).toNat
theorem sb_getN (l : List UInt8) (k : Nat) : ((sb l).get! k).toNat = gB l k := by
  simp only [sb, ByteArray.get!, gB, List.getElem!_toArray, List.getElem!_eq_getElem?_getD, List.getD_eq_getElem?_getD]
  rfl
theorem dec1_N (l : List UInt8) : dec1 l = Go.Lib.decodeN l.length (gB l 0) (gB l 1) (gB l 2) (gB l 3) := by
  rw [dec1, Go.Lib.decode_at]
  simp only [sb_getN, sb_size, Nat.sub_zero, Nat.zero_add]
set_option maxHeartbeats 2000000 in
set_option maxHeartbeats 2000000 in
theorem dec_cont {l : List UInt8} {j : Nat} (h1 : 1 ≤ j) (h2 : j < (dec1 l).2) : gB l j / 64 = 2 ∧ 192 ≤ gB l 0 := by
  rw [dec1_N] at h2
  have hj : j = 1 ∨ j = 2 ∨ j = 3 := by
    have : (Go.Lib.decodeN l.length (gB l 0) (gB l 1) (gB l 2) (gB l 3)).2 ≤ 4 := by
      simp only [Go.Lib.decodeN]
      repeat' split
      all_goals simp
    omega
  generalize l.length = n at h2
  generalize hb0 : gB l 0 = b0 at h2 ⊢
  simp only [Go.Lib.decodeN] at h2
  rcases hj with rfl | rfl | rfl
  all_goals
    revert h2
    repeat' split
    all_goals intro h2
    all_goals simp_all
    all_goals omega
theorem dec_32 {l : List UInt8} (hl : l ≠ []) : ((dec1 l).1 = 32 ↔ gB l 0 = 32) ∧ (gB l 0 < 128 → (dec1 l).2 = 1 ∧ (dec1 l).1 = gB l 0) ∧ (128 ≤ gB l 0 → 128 ≤ (dec1 l).1) := by
  rw [dec1_N]
  generalize l.length = n
  generalize hb0 : gB l 0 = b0
  simp only [Go.Lib.decodeN]
  repeat' split
  all_goals simp_all
  all_goals omega

/-! ### Pieces -/
def chunksF : Nat → List UInt8 → List (List UInt8)
  | 0, _ => []
  | k + 1, l => match l with
    | [] => []
    | _ => l.take (dec1 l).2 :: chunksF k (l.drop (dec1 l).2)
def chunks (l : List UInt8) : List (List UInt8) := chunksF l.length l
theorem chunksF_fuel : ∀ (k : Nat) (l : List UInt8), l.length ≤ k → chunksF k l = chunksF l.length l
  | 0, l, h => by
    have : l = [] := List.eq_nil_of_length_eq_zero (by omega)
    subst this; rfl
  | k + 1, [], h => rfl
  | k + 1, b :: l, h => by
    have hw := dec1_w (l := b :: l) (by simp)
    have hl : ((b :: l).drop (dec1 (b :: l)).2).length ≤ l.length := by rw [List.length_drop, List.length_cons]; omega
    rw [List.length_cons]
    simp only [chunksF]
    rw [chunksF_fuel k _ (by rw [List.length_cons] at h; omega), chunksF_fuel l.length _ hl]
@[simp] theorem chunks_nil : chunks [] = [] := rfl
theorem chunks_cons {l : List UInt8} (h : l ≠ []) : chunks l = l.take (dec1 l).2 :: chunks (l.drop (dec1 l).2) := by
  cases l with
  | nil => exact absurd rfl h
  | cons b l =>
    have hw := dec1_w (l := b :: l) (by simp)
    rw [chunks, List.length_cons]
    simp only [chunksF]
    rw [chunks, chunksF_fuel l.length _ (by rw [List.length_drop, List.length_cons]; omega)]
theorem chunk_mem : ∀ (k : Nat) (l : List UInt8), l.length ≤ k → ∀ c ∈ chunks l, c ≠ [] ∧ (c = [32] ∨ (32 : UInt8) ∉ c)
  | 0, l, h, c, hc => by
    have : l = [] := List.eq_nil_of_length_eq_zero (by omega)
    subst this; simp at hc
  | k + 1, [], h, c, hc => by simp at hc
  | k + 1, b :: l, h, c, hc => by
    have hw := dec1_w (l := b :: l) (by simp)
    rw [chunks_cons (by simp)] at hc
    rcases List.mem_cons.1 hc with rfl | hc
    · obtain ⟨d, hd⟩ : ∃ d, (dec1 (b :: l)).2 = d + 1 := ⟨(dec1 (b :: l)).2 - 1, by omega⟩
      refine ⟨by rw [hd]; simp, ?_⟩
      obtain ⟨e1, e2, e3⟩ := dec_32 (l := b :: l) (by simp)
      have e0 : gB (b :: l) 0 = b.toNat := rfl
      by_cases hb : b.toNat = 32
      · left
        have := (e2 (by omega)).1
        rw [this]
        have : b = 32 := UInt8.toNat.inj hb
        subst this; rfl
      · right
        intro hm
        obtain ⟨j, hj, he⟩ := List.getElem_of_mem hm
        rw [List.length_take] at hj
        have hg : gB (b :: l) j = 32 := by
          rw [gB, List.getD_eq_getElem?_getD, List.getElem?_eq_getElem (by omega)]
          rw [List.getElem_take] at he
          rw [Option.getD_some, he]; rfl
        by_cases h0 : j = 0
        · subst h0; omega
        · have := dec_cont (l := b :: l) (j := j) (by omega) (by omega)
          omega
    · exact chunk_mem k _ (by rw [List.length_drop]; simp only [List.length_cons] at h ⊢; omega) c hc

end Sx

namespace Sx
set_option linter.unusedVariables false
set_option linter.unusedSimpArgs false
set_option maxRecDepth 100000
open Go Cv Go.Proofs

abbrev Wd := Nat × List (List UInt8)
def nextW (n : Nat) (c : List UInt8) : Option Wd → Wd
  | none => (n, [c])
  | some (m, u) => (m, u ++ [c])
/-- Words: at which piece each begins; its pieces. -/
def spl : Nat → Option Wd → List (List UInt8) → List Wd
  | n, cur, [] => cur.toList
  | n, cur, c :: cs => if c = [32] then cur.toList ++ spl (n + 1) none cs else spl (n + 1) (some (nextW n c cur)) cs

def curOk (s : List UInt8) (p : Nat) (x : WSt) (done : List Wd) : Option Wd → Prop
  | none => x.from_ < 0 ∧ x.at_ = done.map fun w => (w.1 : Int)
  | some (m, u) => ∃ f : Nat, x.from_ = f ∧ f ≤ p ∧ u.flatten = (s.take p).drop f ∧ x.at_ = done.map (fun w => (w.1 : Int)) ++ [(m : Int)]
def endW (s : List UInt8) (x : WSt) : List (List UInt8) := if 0 ≤ x.from_ then x.words ++ [s.drop x.from_.toNat] else x.words
theorem take_more {s : List UInt8} {f p d : Nat} (h : f ≤ p) (hp : p ≤ s.length) : (s.take (p + d)).drop f = (s.take p).drop f ++ (s.drop p).take d := by
  have : s.take (p + d) = s.take p ++ (s.drop p).take d := by rw [← List.take_append_drop p s, List.take_append, List.take_append, List.drop_append]; simp [Nat.min_eq_left hp]; try omega
  rw [this, List.drop_append_of_le_length (by rw [List.length_take]; omega)]
theorem fold_spl (s : List UInt8) : ∀ (k p : Nat) (x : WSt) (done : List Wd) (cur : Option Wd), s.length - p ≤ k → p ≤ s.length → x.words = done.map (fun w => w.2.flatten) → curOk s p x done cur →
    endW s ((runesP s p).foldl (WSt.step s) x) = (done ++ spl x.n cur (chunks (s.drop p))).map (fun w => w.2.flatten) ∧ ((runesP s p).foldl (WSt.step s) x).at_ = (done ++ spl x.n cur (chunks (s.drop p))).map fun w => (w.1 : Int)
  | k, p, x, done, cur, hk, hp, hw, hc => by
    rcases Nat.lt_or_ge p s.length with hlt | hge
    · obtain ⟨k', rfl⟩ : ∃ k', k = k' + 1 := ⟨k - 1, by omega⟩
      have hne : s.drop p ≠ [] := by intro e; rw [List.drop_eq_nil_iff] at e; omega
      have hwd := dec1_w hne
      rw [List.length_drop] at hwd
      obtain ⟨q1, q2, q3⟩ := dec_32 hne
      rw [runesP_step hlt, List.foldl_cons, decode_drop, chunks_cons hne]
      have hcm := chunk_mem _ (s.drop p) (Nat.le_refl _) ((s.drop p).take (dec1 (s.drop p)).2) (by rw [chunks_cons hne]; exact List.mem_cons_self)
      have h32 : (dec1 (s.drop p)).1 = 32 ↔ (s.drop p).take (dec1 (s.drop p)).2 = [32] := by
        rw [q1]
        obtain ⟨b, l, hb⟩ : ∃ b l, s.drop p = b :: l := by
          cases hd : s.drop p with
          | nil => exact absurd hd hne
          | cons b l => exact ⟨b, l, rfl⟩
        rw [hb] at hwd q2 ⊢
        have e0 : gB (b :: l) 0 = b.toNat := rfl
        rw [e0] at q2 ⊢
        constructor
        · intro h
          have := (q2 (by omega)).1
          rw [this]
          have : b = 32 := UInt8.toNat.inj h
          subst this; rfl
        · intro h
          obtain ⟨d, hd⟩ : ∃ d, (dec1 (b :: l)).2 = d + 1 := ⟨(dec1 (b :: l)).2 - 1, by omega⟩
          rw [hd, List.take_succ_cons, List.cons.injEq] at h
          rw [h.1]; rfl
      rw [List.drop_drop]
      generalize hd : (dec1 (s.drop p)).2 = d at hwd h32 ⊢
      generalize (dec1 (s.drop p)).1 = r at h32 ⊢
      have tm : ∀ f, f ≤ p → (s.take (p + d)).drop f = (s.take p).drop f ++ (s.drop p).take d := fun f hf => take_more hf hp
      generalize hcc : (s.drop p).take d = c at h32 tm ⊢
      have ih := fold_spl s k' (p + d)
      by_cases hr : r = 32
      · have hc32 := h32.1 hr
        cases cur with
        | none =>
          obtain ⟨g1, g2⟩ := hc
          have e : WSt.step s x (p, r) = ⟨x.words, x.at_, x.from_, x.n + 1⟩ := by
            simp only [WSt.step]; rw [if_pos hr, if_neg (by omega)]
          rw [e]
          have := ih ⟨x.words, x.at_, x.from_, x.n + 1⟩ done none (by omega) (by omega) hw ⟨g1, g2⟩
          rw [spl, if_pos hc32]
          simpa using this
        | some w =>
          obtain ⟨m, u⟩ := w
          obtain ⟨f, g1, g2, g3, g4⟩ := hc
          have e : WSt.step s x (p, r) = ⟨x.words ++ [(s.take p).drop x.from_.toNat], x.at_, -1, x.n + 1⟩ := by
            simp only [WSt.step]; rw [if_pos hr, if_pos (by omega)]
          rw [e]
          have hf : x.from_.toNat = f := by omega
          have := ih ⟨x.words ++ [(s.take p).drop x.from_.toNat], x.at_, -1, x.n + 1⟩ (done ++ [(m, u)]) none (by omega) (by omega) (by simp [hw, g3, hf]) ⟨by dsimp only; omega, by simp [g4]⟩
          rw [spl, if_pos hc32]
          simpa using this
      · have hc32 : ¬ c = [32] := fun e => hr (h32.2 e)
        cases cur with
        | none =>
          obtain ⟨g1, g2⟩ := hc
          have e : WSt.step s x (p, r) = ⟨x.words, x.at_ ++ [(x.n : Int)], p, x.n + 1⟩ := by
            simp only [WSt.step]; rw [if_neg hr, if_pos g1]
          rw [e]
          have := ih ⟨x.words, x.at_ ++ [(x.n : Int)], p, x.n + 1⟩ done (some (x.n, [c])) (by omega) (by omega) hw ⟨p, rfl, by omega, by rw [tm p (Nat.le_refl _)]; simp, by rw [g2]⟩
          rw [spl, if_neg hc32]
          exact this
        | some w =>
          obtain ⟨m, u⟩ := w
          obtain ⟨f, g1, g2, g3, g4⟩ := hc
          have e : WSt.step s x (p, r) = ⟨x.words, x.at_, x.from_, x.n + 1⟩ := by
            simp only [WSt.step]; rw [if_neg hr, if_neg (by omega)]
          rw [e]
          have := ih ⟨x.words, x.at_, x.from_, x.n + 1⟩ done (some (m, u ++ [c])) (by omega) (by omega) hw ⟨f, g1, by omega, by rw [tm f g2]; simp [g3], g4⟩
          rw [spl, if_neg hc32]
          exact this
    · have hp' : s.drop p = [] := List.drop_eq_nil_of_le hge
      rw [runesP_end hge, hp', chunks_nil]
      simp only [List.foldl_nil, spl]
      cases cur with
      | none =>
        obtain ⟨g1, g2⟩ := hc
        rw [endW, if_neg (by omega)]
        simp [hw, g2]
      | some w =>
        obtain ⟨m, u⟩ := w
        obtain ⟨f, g1, g2, g3, g4⟩ := hc
        rw [endW, if_pos (by omega), show x.from_.toNat = f by omega]
        have : (s.take p).drop f = s.drop f := by rw [List.take_of_length_le hge]
        simp [hw, g3, g4, this]

structure WdOk (s : List UInt8) (w : Wd) : Prop where
  ne : w.2.flatten ≠ []
  no : (32 : UInt8) ∉ w.2.flatten
  cnt : (runes w.2.flatten).length = w.2.length
end Sx

namespace Sx
set_option linter.unusedVariables false
set_option linter.unusedSimpArgs false
set_option maxRecDepth 100000
open Go Cv Go.Proofs

theorem within_bd {n lo hi : Int} (h : lo ≤ hi) : lo ≤ within n lo hi ∧ within n lo hi ≤ hi := by
  have h1 := Int.emod_nonneg n (show hi - lo + 1 ≠ 0 by omega)
  have h2 := Int.emod_lt_of_pos n (show 0 < hi - lo + 1 by omega)
  unfold within
  omega
theorem head_len {s : List UInt8} {n : Int} (h : 0 ≤ n) : ((headF s n).length : Int) ≤ n := by
  unfold headF
  split
  · rw [List.length_take]; omega
  · omega
theorem sb_getE {l : List UInt8} {q : Nat} {b : UInt8} (h : l[q]? = some b) : (sb l)[q]? = some b := by
  obtain ⟨h1, h2⟩ := List.getElem?_eq_some_iff.1 h
  rw [getElem?_pos (sb l) q (by simpa using h1)]
  rw [← h2]; rfl

end Sx

namespace Sx
set_option linter.unusedVariables false
set_option maxRecDepth 100000
open Go Cv Go.Proofs

def bj (t : Nat) : SAnn := { ι := Bool, slots := fun b => [(t, boolV b)], rows := fun _ => [] }
def r3prodC : Con := con1 (List UInt8) (fun s => [sV s]) (fun _ => []) (fun s => s.length ≤ 140737488355328) (fun s => boolV (symOk s)) (fun _ => [])
def r3prodA (s : List UInt8) : List SAnn := [{ ι := Nat × Nat, slots := fun x => [(3, i64V x.2), (7, .nm 0 0)], rows := fun x => [.iter (sb s) x.1] }]
def r3prodJ : List (Nat × SAnn) := [(20, bj 29)]
def r5checkC : Con := con1 Prd (fun p => [prdV p]) (fun _ => []) Prd.small (fun p => i64V p.check) (fun _ => [])
def r5checkA : List SAnn := [{ ι := Nat, slots := fun j => [(3, i64V j)], rows := fun _ => [] }, { ι := Nat, slots := fun j => [(4, i64V j)], rows := fun _ => [] }, { ι := Nat, slots := fun j => [(5, i64V j)], rows := fun _ => [] }]
def r5checkJ : List (Nat × SAnn) := [(12, bj 19), (32, bj 58), (40, bj 90), (68, bj 136), (96, bj 168), (104, bj 176), (112, bj 204)]
def r5countC : Con := con1 Prd (fun p => [prdV p]) (fun _ => []) Prd.small (fun p => i64V p.count) (fun _ => [])
def r5legsC : Con := con1 LegI (fun i => [prdV i.p, i64V i.n]) (fun _ => []) (fun i => i.p.small) (fun i => .tup [i64V (i.p.legs i.n).1, i64V (i.p.legs i.n).2.1, boolV (i.p.legs i.n).2.2]) (fun _ => [])
def r5legsA (i : LegI) : List SAnn := [{ ι := Nat, slots := fun m => [(8, i64V (firstOf i.p.months.length m)), (9, i64V m)], rows := fun _ => [] },
  { ι := Nat × Nat, slots := fun m => [(8, i64V ((firstOf i.p.months.length m.1 + m.2 : Nat) : Int)), (9, i64V m.1), (10, i64V ((m.1 + 1 + m.2 : Nat) : Int))], rows := fun _ => [] }]
/-! ### A right product, by raw numbers -/
def kN (x : Prd) : Int := 2 + within x.months.length 0 3
def kTick (x : Prd) : Int := 1 + within x.tick 0 9
def kMonths (n : Nat) : List Int := (List.range n).map fun (i : Nat) => 10 * (i : Int) + 3
def kSettle (t : Int) (n : Nat) : List Int := (List.range n).map fun (i : Nat) => t * (10 + (i : Int))
def kprod (x : Prd) : Prd := ⟨[206, 169], kMonths (kN x).toNat, kTick x, -20 * kTick x, 100 * kTick x, kTick x * (5 + within x.wide 0 60), 1 + within x.rule 0 2, within x.top 0 9, 1 + within x.least 0 4, within x.part 0 100, kSettle (kTick x) (kN x).toNat⟩
@[reducible] def Prd.raw (x : Prd) : Prop := i64r x.tick ∧ i64r x.wide ∧ i64r x.rule ∧ i64r x.top ∧ i64r x.least ∧ i64r x.part ∧ x.months.length ≤ 9223372036854775807
def kprodC : Con := con1 Prd (fun x => [prdV x]) (fun _ => []) Prd.raw (fun x => prdV (kprod x)) (fun _ => [])
def kRow (x : Prd) (w : Int) (j : Nat) : List AObj := [.cells [sV [206, 169], .own 1, i64V (kTick x), i64V (-20 * kTick x), i64V (100 * kTick x), i64V w, i64V (1 + within x.rule 0 2), i64V (within x.top 0 9), i64V (1 + within x.least 0 4), i64V (within x.part 0 100), .own 2] 25, .own 3 1 (iE (kMonths j)), .own 2 1 (iE (kSettle (kTick x) j))]
def kRow0 (x : Prd) : List AObj := [.cells [sV [206, 169], .d (.v (.slice none 0 0)), i64V (kTick x), i64V (-20 * kTick x), i64V (100 * kTick x), i64V 0, i64V (1 + within x.rule 0 2), i64V (within x.top 0 9), i64V (1 + within x.least 0 4), i64V (within x.part 0 100), .d (.v (.slice none 0 0))] 25]
def kprodA (x : Prd) : List SAnn := [{ ι := Nat, slots := fun j => [(5, .nm 0 0), (6, i64V j)], rows := fun j => kRow x (kTick x * (5 + within x.wide 0 60)) j }]
def kprodJ (x : Prd) : List (Nat × SAnn) := [(12, { ι := Unit, slots := fun _ => [(5, .nm 0 0)], slots0 := fun _ => [], rows0 := fun _ => [], rows := fun _ => kRow0 x })]
@[reducible] def Cmd.raw (c : Cmd) : Prop := i64r c.kind ∧ i64r c.id ∧ i64r c.inst ∧ i64r c.side ∧ i64r c.price ∧ i64r c.qty ∧ i64r c.least ∧ i64r c.time
structure TmI where
  p : Prd
  c : Cmd
  i : Int
def tmKind (c : Cmd) : Int := if 4 < 1 + within c.kind 0 8 then 1 else 1 + within c.kind 0 8
/-- What all commands have. -/
def tmHead (t : TmI) : Cmd := ⟨tmKind t.c, 1 + within t.c.id 0 30, within t.c.inst 0 (t.p.count - 1), 1 + within t.c.side 0 1, t.p.tick * within t.c.price 0 9, 1 + within t.c.qty 0 11, 0, 0, []⟩
def tmTime (c : Cmd) : Int := if c.time.tmod 5 = 3 then 3 else if c.time.tmod 5 = 2 then 2 else 1
def tmLeast (c : Cmd) (q : Int) : Int := if c.least.tmod 4 = 1 then within c.least 0 q else 0
def tame (t : TmI) : Cmd :=
  let h := tmHead t
  if h.kind = 1 then { h with id := t.i + 1, time := tmTime t.c, least := tmLeast t.c h.qty, price := if (t.p.legs h.inst).2.2 = true then h.price - 4 * t.p.tick else h.price + 8 * t.p.tick }
  else { h with price := if h.kind = 4 then h.price + 5 * t.p.tick else h.price, side := 0, inst := 0 }
def tameC : Con := con1 TmI (fun t => [prdV t.p, cmdV t.c, i64V t.i]) (fun _ => []) (fun t => t.p.check = 0 ∧ t.p.small ∧ t.c.raw ∧ 0 ≤ t.i ∧ t.i ≤ 1000000) (fun t => cmdV (tame t)) (fun _ => [])
def cj (k : Nat) : Nat × SAnn := (k, { ι := Cmd, slots := fun _ => [(7, .nm 0 0)], slots0 := fun _ => [(7, .nm 0 0)], rows0 := fun c => [.cells c.cells 28], rows := fun c => [.cells c.cells 28] })
def tameJ : List (Nat × SAnn) := [cj 14, cj 54, cj 62, cj 70]

end Sx

