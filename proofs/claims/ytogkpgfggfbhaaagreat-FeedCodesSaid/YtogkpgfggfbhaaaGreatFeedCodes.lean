/- FeedCodes returns true, for every two messages and bytes; they read as before. No condition. -/
import Derived.Test.YtogkpgfggfbhaaaGreatX13
import Derived.Test.YtogkpgfggfbhaaaGreatRows
import Derived.WalkKit
import Derived.ProofKit
import Derived.OpenShut
import Derived.SizedLaws
namespace Go.Proofs.YtogkpgfggfbhaaaGreat.feedCodes
open Go.ChangeShapes Go.WideShapes Go.ChangeAt Go.RowKit
set_option linter.unusedVariables false
set_option maxRecDepth 100000

theorem own : ownKnob Tryz.prog.godebug = none := by kernel_rfl
theorem kids : Kids Tryz.prog (· < Tryz.prog.types.size) := kids_rows (by kernel_rfl) (by kernel_rfl)
theorem full : ∀ t e, t < Tryz.prog.types.size → Tryz.prog.underlying t = some (.slice e) → 0 < Tryz.prog.cellsOf e := slices_full_of Tryz.prog (by kernel_rfl)

theorem walk (i : Sx.FcI) (hc : Sx.fcC.cnd i) (w : World) {v0 v1 v2 : Value} (hv : Sx.VRL (Sx.E0 w) (Sx.fcC.pat i) [v0, v1, v2]) :
    Calls Tryz.prog 9 #[v0, v1, v2] w fun e w' => e = .returned (.bool true) ∧ Below w.heap.size w w' := by
  have hG := Sx.gokc Sx.within_ok (Sx.gokc Sx.menc_ok (Sx.gokc Sx.mdec2_ok (Sx.gokc Sx.known19_ok Sx.gok0)))
  refine (Sx.calls_of_walk (ys := [v0, v1, v2]) Sx.mixed _ hG 0 Sx.fcJ [] Tryz.func9 (by kernel_rfl) (by kernel_rfl) (by kernel_rfl) (Eq.mp (Sx.eqfc i) (Sx.vfc i hc)) (fun g hg => by cases hg) hv).mono ?_
  rintro e w' ⟨y, rfl, hb, a, ha, o, _, E', hv⟩
  obtain rfl := List.mem_singleton.1 ha
  simp only [Sx.VR, Sx.DR] at hv
  exact ⟨by rw [hv.1], hb⟩

theorem bytes {m : Nat} {els : List (List Sx.D)} (h : ∀ el ∈ els, Sx.Shp Tryz.prog m 5 el) : ∃ l : List UInt8, els = Sx.bE l := by
  obtain ⟨l, rfl, _⟩ := Sx.map_of (f := fun b : UInt8 => [Sx.D.v (.int .u8 b.toNat)]) (Q := fun _ => True) fun el hel => by
    obtain ⟨n, rfl, w⟩ := Sx.shp_int Tryz.underlying5 (h el hel)
    have hb : 0 ≤ n ∧ n ≤ 255 := by
      have : (IntKind.u8.min ≤ n ∧ n ≤ IntKind.u8.max) := by simpa [Lit.wf] using w
      exact this
    refine ⟨UInt8.ofNat n.toNat, ?_, trivial⟩
    have : ((UInt8.ofNat n.toNat).toNat : Int) = n := by
      rw [UInt8.toNat_ofNat_of_lt' (by have : n.toNat < 256 := by omega
                                       simpa using this)]
      omega
    rw [this]
  exact ⟨l, rfl⟩
theorem msg {ds : List Sx.D} (h : Sx.ShpF (Sx.Shp Tryz.prog 2) [2, 3, 3, 2, 2, 2, 4] ds) : ∃ m : Sx.MsgM, ds = Sx.msgE m ∧ (Sx.i64r m.inst ∧ Sx.i64r m.side ∧ m.raw) := by
  obtain ⟨_, _, rfl, s0, _, _, rfl, s1, _, _, rfl, s2, _, _, rfl, s3, _, _, rfl, s4, _, _, rfl, s5, _, _, rfl, s6, rfl⟩ := h
  obtain ⟨n0, rfl, w0⟩ := Sx.shp_int Tryz.underlying2 s0
  obtain ⟨n1, rfl, w1⟩ := Sx.shp_int Tryz.underlying3 s1
  obtain ⟨n2, rfl, w2⟩ := Sx.shp_int Tryz.underlying3 s2
  obtain ⟨n3, rfl, w3⟩ := Sx.shp_int Tryz.underlying2 s3
  obtain ⟨n4, rfl, w4⟩ := Sx.shp_int Tryz.underlying2 s4
  obtain ⟨n5, rfl, w5⟩ := Sx.shp_int Tryz.underlying2 s5
  obtain ⟨b, rfl⟩ := Sx.shp_bool Tryz.underlying4 s6
  exact ⟨⟨n0, n1, n2, n3, n4, n5, b⟩, rfl, bounds_i64 w1, bounds_i64 w2, bounds_i64 w0, bounds_i64 w3, bounds_i64 w4, bounds_i64 w5⟩

theorem reach {H : Type} {enc : TypeId × Value → H} {W : World} {base : Nat} {sp : Nat → Bool} {held : Bool} {F : Cv.PH} {t e : TypeId} {v : Value} {d : DataW H} {ps : List MemPlace} {els : List (List Sx.D)} {sz : Nat} {ts : List TypeId} {ds : List (DataW H)} {j : Nat}
    (hu : Tryz.prog.underlying t = some (.slice e)) (h1 : Tryz.prog.bytesOf e = 1) (h : DataW.Trod enc Tryz.prog W base sp held t v d ps) (g : Sx.DR F (.ro sz els) v) (hw : (DataW.weightsEach Tryz.prog ts ds).all (· ≤ reachBytes) = true) (ht : ts[j]? = some t) (hd : ds[j]? = some d) : els.length ≤ 140737488355328 := by
  simp only [Sx.DR] at g
  obtain ⟨a, c, rfl, -⟩ := g
  obtain ⟨fuel, h⟩ := h
  rcases DataW.trod_slice hu h with ⟨e1, _⟩ | ⟨a', len, cap, elems, rest, n, _, e1, e2, _, _, _, e3, _⟩
  · have e1 : [Value.slice a els.length c] = [.slice none 0 0] := e1
    simp only [List.cons.injEq, Value.slice.injEq] at e1
    omega
  · have e1 : [Value.slice a els.length c] = [.slice (some a') len cap] := e1
    simp only [List.cons.injEq, Value.slice.injEq] at e1
    obtain rfl : d = .slice _ _ := congrArg Prod.fst e2
    have h2 := sized_slice hw ht hd hu
    rw [h1, Nat.mul_one, List.length_map] at h2
    have h3 := reachBytes_lt
    omega


theorem lifted (os : Os) (started : os.Started) (H : Type) (enc : TypeId × Value → H) :
    ReturnsInHanded {} Tryz.checked os 9 .any (Rows.feedCodesSpec.pre6 enc Tryz.prog Tryz.f9 Rows.feedCodesRow.domain false) (Rows.feedCodesSpec.post enc Tryz.prog Tryz.f9 false true false false) := by
  refine returnsInHanded_of_change_sized (C := Tryz.checked) own started (by kernel_rfl) Tryz.func9
    (ChangeSpec.witness6 (enc := enc) (C := Tryz.checked) false ⟨#[], #[.agg #[.int .i64 0, .int .i64 0, .int .i64 0, .int .i64 0, .int .i64 0, .int .i64 0, .bool false], .agg #[.int .i64 0, .int .i64 0, .int .i64 0, .int .i64 0, .int .i64 0, .int .i64 0, .bool false], .slice none 0 0], []⟩ 8 (by kernel_rfl) (by kernel_rfl) (by kernel_rfl) (by kernel_rfl)) ?_
  intro W base args ds gs before hval0 hW hcnd hwt _
  have hval : ∀ (j : Nat) t v, Tryz.f9.params[j]? = some t → args[j]? = some v → Value.okWide Tryz.prog W .any base t v := hval0
  have hW' := hW
  obtain ⟨p, q, hA0, hV, rfl, hfz, hnd⟩ := hW
  have hA : DataW.TrodAll enc Tryz.prog W 0 (fun _ => true) true Tryz.f9.params.toList args.toList ds p := hA0
  rw [Tryz.params9] at hA hval
  have hA1 : DataW.TrodAll enc Tryz.prog W 0 (fun _ => true) true [66, 66, 32] args.toList ds p := hA
  obtain ⟨al, hal⟩ : ∃ al, al = args.toList := ⟨_, rfl⟩
  have hA2 := hA1
  rw [← hal] at hA2
  obtain ⟨v0, vs0, d0, ds0, p0, q0, e0, rfl, rfl, h0, r0⟩ := trodAll_cons hA2
  obtain ⟨v1, vs1, d1, ds1, p1, q1, e1, rfl, rfl, h1, r1⟩ := trodAll_cons r0
  obtain ⟨v2, vs2, d2, ds2, p2, q2, e2, rfl, rfl, h2, r2⟩ := trodAll_cons r1
  obtain ⟨n0, rfl, rfl⟩ := trodAll_nil r2
  have hargs : args = #[v0, v1, v2] := by
    apply Array.ext'
    rw [← hal, e0, e1, e2, n0]
  subst hargs
  clear hal e0 e1 e2 n0 hA2 r0 r1 r2
  obtain ⟨rfl, rfl⟩ := trodVars_none hV
  obtain ⟨ds0, f0, g0⟩ := Sx.arg_struct kids 2 (by decide +kernel) Tryz.underlying66 (by kernel_rfl) (hval 0 66 v0 rfl rfl) h0
  obtain ⟨a0, hx0, w0⟩ := msg f0
  obtain ⟨ds1, f1, g1⟩ := Sx.arg_struct kids 2 (by decide +kernel) Tryz.underlying66 (by kernel_rfl) (hval 1 66 v1 rfl rfl) h1
  obtain ⟨a1, hx1, w1⟩ := msg f1
  obtain ⟨els2, g2, b2, c2⟩ := Sx.arg_slice kids 1 (by decide +kernel) Tryz.underlying32 (by kernel_rfl) (hval 2 32 v2 rfl rfl) h2
  obtain ⟨a2, rfl⟩ := bytes c2
  have z2 : Tryz.prog.cellsOf 5 = 1 := by kernel_rfl
  have hlt := hW'.lt
  simp only [List.append_nil] at hW' hlt hA1
  simp only [← List.append_assoc] at hA1
  rw [hx0] at g0
  rw [hx1] at g1
  have gs2 : Sx.DR (Sx.E0 W).F (.ro 1 (Sx.bE a2)) v2 := z2 ▸ g2
  have l2 : a2.length ≤ 140737488355328 := by have := reach Tryz.underlying32 (by kernel_rfl) h2 gs2 hwt (j := 2) rfl rfl; rw [Sx.bE_len] at this; exact this
  refine (walk ⟨a0, a1, a2⟩ ⟨w0, w1, l2⟩ W (v0 := v0) (v1 := v1) (v2 := v2) ?_).mono fun e W' ⟨he, hg⟩ => ?_
  · simp only [Sx.fcC, Sx.con1, Sx.VRL]
    exact ⟨_, _, rfl, g0, _, _, rfl, g1, _, _, rfl, by simp only [Sx.VR]; exact gs2, rfl⟩
  subst he
  refine ⟨_, rfl, Sx.post_of_below (pa := p0 ++ p1 ++ p2) (pv := []) hW' (fun _ _ _ => (trodAll_cons_mk (shut_bool Tryz.underlying4 _) trodAll_mk0)) (fun sp hsp => ?_) (fun _ _ => rfl) (by simp)
    hg (ok_one (by kernel_rfl) rfl (okWide_bool_mk Tryz.underlying4 _))⟩
  simp only [← List.append_assoc] at hsp
  exact Sx.args_stay kids full hg (by decide +kernel) hA1 (fun x hx => hlt x (by simpa using hx)) hsp

theorem and2 {a b : Bool} (h : a = true) (g : b = true) : (a && b) = true := by rw [h, g]; rfl
theorem k1 : (Rows.feedCodesRow.wf (OpenSpec.ofChange Rows.feedCodesSpec)) = true := by kernel_rfl
theorem k2 : (laidOutB Tryz.pinned.checked.prog) = true := by kernel_rfl
theorem k3 : (mapsRowed Tryz.pinned.checked.prog) = true := by kernel_rfl
theorem k4 : (Tryz.f9.params.all (Tryz.pinned.checked.prog.readableRec ·)) = true := by kernel_rfl
theorem k5 : (namedTie Tryz.pinned.checked.prog Rows.feedCodesRow.named Rows.feedCodesSpec.vars) = true := by kernel_rfl
theorem k6 : (Rows.feedCodesRow.stops == []) = true := by kernel_rfl
theorem k7 : (Tryz.pinned.checked.prog.stops == []) = true := by kernel_rfl
theorem k8 : (Rows.feedCodesRow.knobs == []) = true := by kernel_rfl
theorem k9 : (Tryz.pinned.checked.prog.stopKnobs == []) = true := by kernel_rfl
theorem k10 : (Rows.feedCodesRow.inPlace == Tryz.pinned.checked.prog.inPlace 9) = true := by kernel_rfl
theorem k11 : (Rows.feedCodesRow.unfollowed == Tryz.pinned.checked.prog.unfollowed 9) = true := by kernel_rfl
theorem k12 : (Rows.feedCodesRow.recurses == Tryz.pinned.checked.prog.recurses 9) = true := by kernel_rfl
theorem k13 : (Rows.feedCodesRow.named == Tryz.pinned.checked.prog.varsNamed 9) = true := by kernel_rfl
theorem k14 : (Rows.feedCodesRow.maps == (Tryz.f9.params.toList ++ Rows.feedCodesSpec.plain.varTypes Tryz.pinned.checked.prog).any (Tryz.pinned.checked.prog.mapsRec ·)) = true := by kernel_rfl
theorem k15 : (Rows.feedCodesRow.ifaces == (Tryz.f9.params.toList ++ Rows.feedCodesSpec.plain.varTypes Tryz.pinned.checked.prog).any (Tryz.pinned.checked.prog.ifacesRec ·)) = true := by kernel_rfl
theorem k16 : (Rows.feedCodesRow.mapsOut == Tryz.pinned.checked.prog.mapsAmong Tryz.f9.resultTypes.toList) = true := by kernel_rfl
theorem k17 : (Rows.feedCodesRow.loops == (Tryz.f9.params.toList ++ Rows.feedCodesSpec.plain.varTypes Tryz.pinned.checked.prog).any (Tryz.pinned.checked.prog.loopsFrom ·)) = true := by kernel_rfl
theorem k18 : (Rows.feedCodesRow.wideKeys == (Tryz.f9.params.toList ++ Rows.feedCodesSpec.plain.varTypes Tryz.pinned.checked.prog ++ Tryz.f9.resultTypes.toList).any (Tryz.pinned.checked.prog.wideKeysFrom ·)) = true := by kernel_rfl
theorem k19 : (Rows.feedCodesSpec.vars.all (Tryz.pinned.checked.prog.varReadable ·)) = true := by kernel_rfl
theorem k20 : (Tryz.f9.resultTypes.all (fun t => Tryz.pinned.checked.prog.readableRec t && decide (t < Tryz.pinned.checked.prog.types.size))) = true := by kernel_rfl
theorem k21 : (Rows.feedCodesRow.ifacesOut == Tryz.f9.resultTypes.toList.any (Tryz.pinned.checked.prog.ifacesRec ·)) = true := by kernel_rfl
theorem k22 : (Rows.feedCodesRow.loopsOut == Tryz.f9.resultTypes.toList.any (Tryz.pinned.checked.prog.loopsFrom ·)) = true := by kernel_rfl
theorem k23 : (Rows.feedCodesRow.plainKeys == Tryz.pinned.checked.prog.plainKeys) = true := by kernel_rfl
theorem k24 : (Rows.feedCodesRow.shortTexts.isNone) = true := by kernel_rfl
theorem k25 : (Tryz.pinned.checked.prog.stopsHeard) = true := by kernel_rfl
theorem k26 : (Tryz.pinned.checked.prog.mayEnter) = true := by kernel_rfl
theorem k27 : (Rows.feedCodesRow.lifted == Tryz.pinned.checked.prog.liftsFinal) = true := by kernel_rfl
theorem k28 : (Tryz.pinned.checked.prog.make == some Rows.feedCodesRow.make) = true := by kernel_rfl
theorem k29 : (Rows.feedCodesRow.kinds == (if Rows.feedCodesRow.domain.isEmpty then [] else Tryz.f9.params.toList.map fun t => match Tryz.pinned.checked.prog.underlying t with | some (.int k) => some k | _ => none)) = true := by kernel_rfl
theorem k30 : (Rows.feedCodesRow.pinned == Rows.feedCodesRow.pinnedBy) = true := by kernel_rfl
theorem k31 : (Rows.feedCodesRow.veiled == (Tryz.f9.params.toList ++ Rows.feedCodesSpec.plain.varTypes Tryz.pinned.checked.prog ++ Tryz.f9.resultTypes.toList).any (Tryz.pinned.checked.prog.veiledRec ·)) = true := by kernel_rfl
theorem k32 : (Rows.feedCodesRow.veiledFits Tryz.pinned.checked.prog Tryz.f9.params.toList (Tryz.f9.params.toList ++ Rows.feedCodesSpec.plain.varTypes Tryz.pinned.checked.prog ++ Tryz.f9.resultTypes.toList)) = true := by kernel_rfl
theorem closed : joinedFacts Tryz.pinned.checked.prog 9 Tryz.f9 Rows.feedCodesSpec Rows.feedCodesRow = true := by
  unfold joinedFacts
  exact and2 (and2 (and2 (and2 (and2 (and2 (and2 (and2 (and2 (and2 (and2 (and2 (and2 (and2 (and2 (and2 (and2 (and2 (and2 (and2 (and2 (and2 (and2 (and2 (and2 (and2 (and2 (and2 (and2 (and2 (and2 k1 k2) k3) k4) k5) k6) k7) k8) k9) k10) k11) k12) k13) k14) k15) k16) k17) k18) k19) k20) k21) k22) k23) k24) k25) k26) k27) k28) k29) k30) k31) k32
theorem named : Tryz.pinned.checked.prog.funcNamed Rows.feedCodesRow.func = some 9 := by kernel_rfl
theorem inst : Tryz.f9.isInstance Tryz.pinned.checked.prog Rows.feedCodesRow.origin Rows.feedCodesRow.targs := of_decide_eq_true (by kernel_rfl)
theorem wrap : Tryz.f9.isWrapper Tryz.pinned.checked.prog Rows.feedCodesRow.wrapper Rows.feedCodesRow.mainSum := by
  unfold Func.isWrapper
  first | (rw [if_pos (by decide +kernel)]; kernel_rfl) | (rw [if_neg (by decide +kernel)]; exact ⟨rfl, rfl⟩)
theorem over : Rows.feedCodesRow.holds Tryz.pinned (OpenSpec.ofChange Rows.feedCodesSpec) :=
  OpenClaim.holds_of_wide 9 Tryz.f9 rfl rfl rfl rfl rfl rfl rfl ⟨rfl, rfl, rfl, rfl, rfl⟩ rfl rfl rfl rfl rfl named Tryz.func9 closed
    inst wrap
    (fun os started H enc _ => lifted os started H enc)

/-- The statement. -/
theorem proved : Rows.FeedCodesSaid :=
  over
#print axioms proved
end Go.Proofs.YtogkpgfggfbhaaaGreat.feedCodes
