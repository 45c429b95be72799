/- TopLate returns true, for every product, commands, number and lost messages; they read as before. No condition. -/
import Derived.Test.YtfmobncdogfbmaaGreatQ15
import Derived.Test.YtfmobncdogfbmaaGreatRows
import Derived.WalkKit
import Derived.ProofKit
import Derived.OpenShut
import Derived.SizedLaws
namespace Go.Proofs.YtfmobncdogfbmaaGreat.topLate
open Go.ChangeShapes Go.WideShapes Go.ChangeAt Go.RowKit
set_option linter.unusedVariables false
set_option maxRecDepth 100000

theorem own : ownKnob Tryz.prog.godebug = none := by kernel_rfl
theorem kids : Kids Tryz.prog (· < Tryz.prog.types.size) := kids_rows (by kernel_rfl) (by kernel_rfl)
theorem full : ∀ t e, t < Tryz.prog.types.size -> Tryz.prog.underlying t = some (.slice e) -> 0 < Tryz.prog.cellsOf e := slices_full_of Tryz.prog (by kernel_rfl)

theorem walk (i : Sx.vm) (hc : Sx.tlC.dp i) (w : World) {v0 v1 v2 v3 : Value} (hv : Sx.ib (Sx.E0 w) (Sx.tlC.pat i) [v0, v1, v2, v3]) :
    Calls Tryz.prog 3 #[v0, v1, v2, v3] w λe w' => e = .returned (.bool true) /\ Below w.heap.size w w' := by
  have hG := Sx.dw Sx.Hg (Sx.dw Sx.Nj (Sx.dw Sx.Jc (Sx.dw Sx.vz (Sx.dw Sx.MU (Sx.dw Sx.GQ (Sx.dw Sx.Jm (Sx.dw Sx.G' (Sx.dw Sx.Nl (Sx.dw Sx.Ha (Sx.dw Sx.Ni (Sx.dw Sx.Jr (Sx.dw Sx.Hb (Sx.dw Sx.Jo (Sx.dw Sx.G9 (Sx.dw Sx.Hj (Sx.dw Sx.UC Sx.fk))))))))))))))))
  refine (Sx.zp (ys := [v0, v1, v2, v3]) Sx.mixed _ hG 1 (Sx.tlJ i) (Sx.tlA i) Tryz.func3 (by kernel_rfl) (by kernel_rfl) (by kernel_rfl) (Eq.mp (Sx.aaW i) (Sx.vtl i hc)) (λg hg => by cases hg) hv).mono ?_
  rintro e w' ⟨y, rfl, hb, a, ha, o, _, E', hv⟩
  obtain rfl := List.mem_singleton.1 ha
  simp only [Sx.VR, Sx.DR] at hv
  exact ⟨by rw [hv.1], hb⟩

theorem sb_of (s : ByteArray) : ∃ l, Sx.sb l = s := ⟨s.data.toList, by cases s; simp [Sx.sb]⟩
theorem ints {m : Nat} {t e : TypeId} {ds : List Sx.D} (hu : Tryz.prog.underlying t = some (.slice e)) (he : Tryz.prog.underlying e = some (.int .i64)) (hc : Tryz.prog.cellsOf e = 1) (h : Sx.vf Tryz.prog (m + 1) t ds) :
    ∃ l : List Int, ds = [.ro 1 (Sx.iE l)] /\ l.length <= maxLen := by
  obtain ⟨fa, rfl, h1, h2⟩ := Sx.EH hu h
  obtain ⟨l, rfl, _⟩ := Sx.AP (f := λn => [Sx.D.v (.int .i64 n)]) (Q := λn => (Lit.int .i64 n).wf = true) λel oS => Sx.kh he (h2 el oS)
  rw [hc]
  exact ⟨l, rfl, by rw [List.length_map] at h1; exact h1⟩

theorem prd {ds : List Sx.D} (h : Sx.C2 (Sx.vf Tryz.prog 2) [9, 22, 2, 2, 2, 2, 3, 2, 2, 2, 23] ds) :
    ∃ x : Sx.fj, Sx.V.agg (ds.map .d) = Sx.nt x /\ x.raw := by
  have i1 : Tryz.prog.cellsOf 3 = 1 := by kernel_rfl
  have i2 : Tryz.prog.cellsOf 2 = 1 := by kernel_rfl
  obtain ⟨_, _, rfl, s0, _, _, rfl, s1, _, _, rfl, s2, _, _, rfl, s3, _, _, rfl, s4, _, _, rfl, s5, _, _, rfl, s6, _, _, rfl, s7, _, _, rfl, s8, _, _, rfl, s9, _, _, rfl, s10, rfl⟩ := h
  obtain ⟨c, rfl, _⟩ := Sx.yi Tryz.underlying9 s0
  obtain ⟨code, rfl⟩ := sb_of c
  obtain ⟨ms, rfl, hm⟩ := ints Tryz.underlying22 Tryz.underlying3 i1 s1
  obtain ⟨n2, rfl, w2⟩ := Sx.kh Tryz.underlying2 s2
  obtain ⟨n3, rfl, w3⟩ := Sx.kh Tryz.underlying2 s3
  obtain ⟨n4, rfl, w4⟩ := Sx.kh Tryz.underlying2 s4
  obtain ⟨n5, rfl, w5⟩ := Sx.kh Tryz.underlying2 s5
  obtain ⟨n6, rfl, w6⟩ := Sx.kh Tryz.underlying3 s6
  obtain ⟨n7, rfl, w7⟩ := Sx.kh Tryz.underlying2 s7
  obtain ⟨n8, rfl, w8⟩ := Sx.kh Tryz.underlying2 s8
  obtain ⟨n9, rfl, w9⟩ := Sx.kh Tryz.underlying2 s9
  obtain ⟨se, rfl, _⟩ := ints Tryz.underlying23 Tryz.underlying2 i2 s10
  have Ax : ms.length <= 9223372036854775807 := by unfold maxLen at hm; omega
  exact ⟨⟨code, ms, n2, n3, n4, n5, n6, n7, n8, n9, se⟩, rfl, bounds_i64 w2, bounds_i64 w5, bounds_i64 w6, bounds_i64 w7, bounds_i64 w8, bounds_i64 w9, Ax⟩
theorem cmd {ds : List Sx.D} (h : Sx.C2 (Sx.vf Tryz.prog 1) [3, 2, 3, 3, 2, 2, 2, 3, 9] ds) : ∃ c : Sx.iq, ds = Sx.zm c /\ c.raw := by
  obtain ⟨_, _, rfl, s0, _, _, rfl, s1, _, _, rfl, s2, _, _, rfl, s3, _, _, rfl, s4, _, _, rfl, s5, _, _, rfl, s6, _, _, rfl, s7, _, _, rfl, s8, rfl⟩ := h
  obtain ⟨n0, rfl, w0⟩ := Sx.kh Tryz.underlying3 s0
  obtain ⟨n1, rfl, w1⟩ := Sx.kh Tryz.underlying2 s1
  obtain ⟨n2, rfl, w2⟩ := Sx.kh Tryz.underlying3 s2
  obtain ⟨n3, rfl, w3⟩ := Sx.kh Tryz.underlying3 s3
  obtain ⟨n4, rfl, w4⟩ := Sx.kh Tryz.underlying2 s4
  obtain ⟨n5, rfl, w5⟩ := Sx.kh Tryz.underlying2 s5
  obtain ⟨n6, rfl, w6⟩ := Sx.kh Tryz.underlying2 s6
  obtain ⟨n7, rfl, w7⟩ := Sx.kh Tryz.underlying3 s7
  obtain ⟨c, rfl, _⟩ := Sx.yi Tryz.underlying9 s8
  obtain ⟨lab, rfl⟩ := sb_of c
  exact ⟨⟨n0, n1, n2, n3, n4, n5, n6, n7, lab⟩, rfl, bounds_i64 w0, bounds_i64 w1, bounds_i64 w2, bounds_i64 w3, bounds_i64 w4, bounds_i64 w5, bounds_i64 w6, bounds_i64 w7⟩


theorem lifted (os : Os) (started : os.Started) (H : Type) (enc : TypeId × Value -> H) :
    ReturnsInHanded {} Tryz.checked os 3 .any (Rows.topLateSpec.pre6 enc Tryz.prog Tryz.f3 Rows.topLateRow.domain false) (Rows.topLateSpec.post enc Tryz.prog Tryz.f3 false true false false) := by
  refine returnsInHanded_of_change (C := Tryz.checked) own started (by kernel_rfl) Tryz.func3
    (ChangeSpec.witness6 (enc := enc) (C := Tryz.checked) false ⟨#[], #[.agg #[.string ⟨#[]⟩, .slice none 0 0, .int .i64 0, .int .i64 0, .int .i64 0, .int .i64 0, .int .i64 0, .int .i64 0, .int .i64 0, .int .i64 0, .slice none 0 0], .slice none 0 0, .int .i64 0, .slice none 0 0], []⟩ 8 (by kernel_rfl) (by kernel_rfl) (by kernel_rfl) (by kernel_rfl)) ?_
  intro W base args ds gs before T7 hW abd _
  have zg : ∀ (j : Nat) t v, Tryz.f3.params[j]? = some t -> args[j]? = some v -> Value.okWide Tryz.prog W .any base t v := T7
  have hW' := hW
  obtain ⟨p, q, hA0, hV, rfl, hfz, qz⟩ := hW
  have hA : DataW.TrodAll enc Tryz.prog W 0 (λ_ => true) true Tryz.f3.params.toList args.toList ds p := hA0
  rw [Tryz.params3] at hA zg
  have Mn : DataW.TrodAll enc Tryz.prog W 0 (λ_ => true) true [25, 26, 3, 27] args.toList ds p := hA
  obtain ⟨al, Cn⟩ : ∃ al, al = args.toList := ⟨_, rfl⟩
  have OX := Mn
  rw [<- Cn] at OX
  obtain ⟨v0, vs0, d0, ds0, p0, q0, e0, rfl, rfl, h0, r0⟩ := trodAll_cons OX
  obtain ⟨v1, vs1, d1, ds1, p1, q1, e1, rfl, rfl, h1, r1⟩ := trodAll_cons r0
  obtain ⟨v2, vs2, d2, ds2, p2, q2, e2, rfl, rfl, h2, r2⟩ := trodAll_cons r1
  obtain ⟨v3, vs3, d3, ds3, p3, q3, e3, rfl, rfl, h3, r3⟩ := trodAll_cons r2
  obtain ⟨n0, rfl, rfl⟩ := trodAll_nil r3
  have oa : args = #[v0, v1, v2, v3] := by
    apply Array.ext'
    rw [<- Cn, e0, e1, e2, e3, n0]
  subst oa
  clear Cn e0 e1 e2 e3 n0 OX r0 r1 r2 r3
  obtain ⟨rfl, rfl⟩ := trodVars_none hV
  obtain ⟨ds0, f0, g0⟩ := Sx.Db kids 2 (by decide +kernel) Tryz.underlying25 (by kernel_rfl) (zg 0 25 v0 rfl rfl) h0
  obtain ⟨a0, XY, w0⟩ := prd f0
  obtain ⟨abg, g1, b1, c1⟩ := Sx.Ap kids 2 (by decide +kernel) Tryz.underlying26 (by kernel_rfl) (zg 1 26 v1 rfl rfl) h1
  obtain ⟨a1, rfl, w1⟩ := Sx.AP (f := Sx.zm) (Q := Sx.iq.raw) λel oS => cmd (Sx.Da Tryz.underlying47 (c1 el oS))
  have z1 : Tryz.prog.cellsOf 47 = 9 := by kernel_rfl
  obtain ⟨a2, rfl, rfl, rfl, w2⟩ := open_int Tryz.underlying3 (zg 2 3 v2 rfl rfl) h2
  obtain ⟨abf, g3, b3, c3⟩ := Sx.Ap kids 1 (by decide +kernel) Tryz.underlying27 (by kernel_rfl) (zg 3 27 v3 rfl rfl) h3
  obtain ⟨a3, rfl, w3⟩ := Sx.AP (f := Sx.IQ) (Q := λ_ => True) λel oS => by
    obtain ⟨n, rfl⟩ := Sx.He Tryz.underlying4 (c3 el oS)
    exact ⟨n, rfl, trivial⟩
  have z3 : Tryz.prog.cellsOf 4 = 1 := by kernel_rfl
  have gu := hW'.lt
  simp only [List.append_nil, List.nil_append] at hW' gu Mn
  simp only [<- List.append_assoc] at Mn
  rw [XY] at g0
  have gs1 : Sx.DR (Sx.E0 W).F (.ro 9 (a1.map Sx.zm)) v1 := z1 ▸ g1
  have l1 : a1.length <= 9223372036854775807 := by rw [List.length_map] at b1; unfold maxLen at b1; omega
  have gs3 : Sx.DR (Sx.E0 W).F (.ro 1 (a3.map Sx.IQ)) v3 := z3 ▸ g3
  have l3 : a3.length <= 9223372036854775807 := by rw [List.length_map] at b3; unfold maxLen at b3; omega
  refine (walk ⟨a0, Sx.ig a0, a1, a2, a3⟩ ⟨⟨rfl, w0, w1, l1, l3⟩, bounds_i64 w2⟩ W (v0 := v0) (v1 := v1)  (v3 := v3) ?_).mono λe W' ⟨he, hg⟩ => ?_
  · simp only [Sx.tlC, Sx.fp, Sx.ib]
    exact ⟨_, _, rfl, g0, _, _, rfl, by simp only [Sx.VR]; exact gs1, _, _, rfl, by simp only [Sx.VR, Sx.DR]; refine ⟨?_, ?_⟩ <;> first | trivial | rfl, _, _, rfl, by simp only [Sx.VR]; exact gs3, rfl⟩
  subst he
  refine ⟨_, rfl, Sx.zo (pa := p0 ++ p1 ++ p3) (pv := []) hW' (λ_ _ _ => (trodAll_cons_mk (shut_bool Tryz.underlying4 _) trodAll_mk0)) (λsp tr => ?_) (λ_ _ => rfl) (by simp)
    hg (ok_one (by kernel_rfl) rfl (okWide_bool_mk Tryz.underlying4 _))⟩
  simp only [<- List.append_assoc] at tr
  exact Sx.Ao kids full hg (by decide +kernel) Mn (λx hx => gu x (by simpa using hx)) tr

theorem and2 {a b : Bool} (h : a = true) (g : b = true) : (a && b) = true := by rw [h, g]; rfl
theorem k1 : (Rows.topLateRow.wf (OpenSpec.ofChange Rows.topLateSpec)) = true := by kernel_rfl
theorem k2 : (laidOutB Tryz.pinned.checked.prog) = true := by kernel_rfl
theorem k3 : (mapsRowed Tryz.pinned.checked.prog) = true := by kernel_rfl
theorem k4 : (Tryz.f3.params.all (Tryz.pinned.checked.prog.readableRec ·)) = true := by kernel_rfl
theorem k5 : (namedTie Tryz.pinned.checked.prog Rows.topLateRow.named Rows.topLateSpec.vars) = true := by kernel_rfl
theorem k6 : (Rows.topLateRow.stops == []) = true := by kernel_rfl
theorem k7 : (Tryz.pinned.checked.prog.stops == []) = true := by kernel_rfl
theorem k8 : (Rows.topLateRow.knobs == []) = true := by kernel_rfl
theorem k9 : (Tryz.pinned.checked.prog.stopKnobs == []) = true := by kernel_rfl
theorem k10 : (Rows.topLateRow.inPlace == Tryz.pinned.checked.prog.inPlace 3) = true := by kernel_rfl
theorem k11 : (Rows.topLateRow.unfollowed == Tryz.pinned.checked.prog.unfollowed 3) = true := by kernel_rfl
theorem k12 : (Rows.topLateRow.recurses == Tryz.pinned.checked.prog.recurses 3) = true := by kernel_rfl
theorem k13 : (Rows.topLateRow.named == Tryz.pinned.checked.prog.varsNamed 3) = true := by kernel_rfl
theorem k14 : (Rows.topLateRow.maps == (Tryz.f3.params.toList ++ Rows.topLateSpec.plain.varTypes Tryz.pinned.checked.prog).any (Tryz.pinned.checked.prog.mapsRec ·)) = true := by kernel_rfl
theorem k15 : (Rows.topLateRow.ifaces == (Tryz.f3.params.toList ++ Rows.topLateSpec.plain.varTypes Tryz.pinned.checked.prog).any (Tryz.pinned.checked.prog.ifacesRec ·)) = true := by kernel_rfl
theorem k16 : (Rows.topLateRow.mapsOut == Tryz.pinned.checked.prog.mapsAmong Tryz.f3.resultTypes.toList) = true := by kernel_rfl
theorem k17 : (Rows.topLateRow.loops == (Tryz.f3.params.toList ++ Rows.topLateSpec.plain.varTypes Tryz.pinned.checked.prog).any (Tryz.pinned.checked.prog.loopsFrom ·)) = true := by kernel_rfl
theorem k18 : (Rows.topLateRow.wideKeys == (Tryz.f3.params.toList ++ Rows.topLateSpec.plain.varTypes Tryz.pinned.checked.prog ++ Tryz.f3.resultTypes.toList).any (Tryz.pinned.checked.prog.wideKeysFrom ·)) = true := by kernel_rfl
theorem k19 : (Rows.topLateSpec.vars.all (Tryz.pinned.checked.prog.varReadable ·)) = true := by kernel_rfl
theorem k20 : (Tryz.f3.resultTypes.all (λt => Tryz.pinned.checked.prog.readableRec t && decide (t < Tryz.pinned.checked.prog.types.size))) = true := by kernel_rfl
theorem k21 : (Rows.topLateRow.ifacesOut == Tryz.f3.resultTypes.toList.any (Tryz.pinned.checked.prog.ifacesRec ·)) = true := by kernel_rfl
theorem k22 : (Rows.topLateRow.loopsOut == Tryz.f3.resultTypes.toList.any (Tryz.pinned.checked.prog.loopsFrom ·)) = true := by kernel_rfl
theorem k23 : (Rows.topLateRow.plainKeys == Tryz.pinned.checked.prog.plainKeys) = true := by kernel_rfl
theorem k24 : (Rows.topLateRow.shortTexts.isNone) = true := by kernel_rfl
theorem k25 : (Tryz.pinned.checked.prog.stopsHeard) = true := by kernel_rfl
theorem k26 : (Tryz.pinned.checked.prog.mayEnter) = true := by kernel_rfl
theorem k27 : (Rows.topLateRow.lifted == Tryz.pinned.checked.prog.liftsFinal) = true := by kernel_rfl
theorem k28 : (Tryz.pinned.checked.prog.make == some Rows.topLateRow.make) = true := by kernel_rfl
theorem k29 : (Rows.topLateRow.kinds == (if Rows.topLateRow.domain.isEmpty then [] else Tryz.f3.params.toList.map λt => match Tryz.pinned.checked.prog.underlying t with | some (.int k) => some k | _ => none)) = true := by kernel_rfl
theorem k30 : (Rows.topLateRow.pinned == Rows.topLateRow.pinnedBy) = true := by kernel_rfl
theorem k31 : (Rows.topLateRow.veiled == (Tryz.f3.params.toList ++ Rows.topLateSpec.plain.varTypes Tryz.pinned.checked.prog ++ Tryz.f3.resultTypes.toList).any (Tryz.pinned.checked.prog.veiledRec ·)) = true := by kernel_rfl
theorem k32 : (Rows.topLateRow.veiledFits Tryz.pinned.checked.prog Tryz.f3.params.toList (Tryz.f3.params.toList ++ Rows.topLateSpec.plain.varTypes Tryz.pinned.checked.prog ++ Tryz.f3.resultTypes.toList)) = true := by kernel_rfl
theorem closed : joinedFacts Tryz.pinned.checked.prog 3 Tryz.f3 Rows.topLateSpec Rows.topLateRow = true := by
  unfold joinedFacts
  exact and2 (and2 (and2 (and2 (and2 (and2 (and2 (and2 (and2 (and2 (and2 (and2 (and2 (and2 (and2 (and2 (and2 (and2 (and2 (and2 (and2 (and2 (and2 (and2 (and2 (and2 (and2 (and2 (and2 (and2 (and2 k1 k2) k3) k4) k5) k6) k7) k8) k9) k10) k11) k12) k13) k14) k15) k16) k17) k18) k19) k20) k21) k22) k23) k24) k25) k26) k27) k28) k29) k30) k31) k32
theorem named : Tryz.pinned.checked.prog.funcNamed Rows.topLateRow.func = some 3 := by kernel_rfl
theorem inst : Tryz.f3.isInstance Tryz.pinned.checked.prog Rows.topLateRow.origin Rows.topLateRow.targs := of_decide_eq_true (by kernel_rfl)
theorem wrap : Tryz.f3.isWrapper Tryz.pinned.checked.prog Rows.topLateRow.wrapper Rows.topLateRow.mainSum := by
  unfold Func.isWrapper
  first | (rw [if_pos (by decide +kernel)]; kernel_rfl) | (rw [if_neg (by decide +kernel)]; exact ⟨rfl, rfl⟩)
theorem over : Rows.topLateRow.holds Tryz.pinned (OpenSpec.ofChange Rows.topLateSpec) :=
  OpenClaim.holds_of_wide 3 Tryz.f3 rfl rfl rfl rfl rfl rfl rfl ⟨rfl, rfl, rfl, rfl, rfl⟩ rfl rfl rfl rfl rfl named Tryz.func3 closed
    inst wrap
    (λos started H enc _ => lifted os started H enc)

/-- The statement. -/
theorem proved : Rows.TopLateSaid :=
  over
#print axioms proved
end Go.Proofs.YtfmobncdogfbmaaGreat.topLate
