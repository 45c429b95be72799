/- TopLost returns true, for every product, commands, lost messages and order; they read as before. No condition. -/
import Derived.Test.YtfmobncdogfbmaaGreatR16
import Derived.Test.YtfmobncdogfbmaaGreatRows
import Derived.WalkKit
import Derived.ProofKit
import Derived.OpenShut
import Derived.SizedLaws
namespace Go.Proofs.YtfmobncdogfbmaaGreat.topLost
open Go.ChangeShapes Go.WideShapes Go.ChangeAt Go.RowKit
set_option linter.unusedVariables false
set_option maxRecDepth 100000

theorem own : ownKnob Tryz.prog.godebug = none := by kernel_rfl
theorem kids : Kids Tryz.prog (· < Tryz.prog.types.size) := kids_rows (by kernel_rfl) (by kernel_rfl)
theorem full : ∀ t e, t < Tryz.prog.types.size -> Tryz.prog.underlying t = some (.slice e) -> 0 < Tryz.prog.cellsOf e := slices_full_of Tryz.prog (by kernel_rfl)

theorem walk (i : Sx.qq) (hc : Sx.toC.dp i) (w : World) {v0 v1 v2 v3 : Value} (hv : Sx.ic (Sx.E0 w) (Sx.toC.pat i) [v0, v1, v2, v3]) :
    Calls Tryz.prog 4 #[v0, v1, v2, v3] w λe w' => e = .returned (.bool true) /\ Below w.heap.size w w' := by
  have hG := Sx.dw Sx.Hn (Sx.dw Sx.Nw (Sx.dw Sx.Jl (Sx.dw Sx.wu (Sx.dw Sx.M7 (Sx.dw Sx.GY (Sx.dw Sx.Jv (Sx.dw Sx.Hh (Sx.dw Sx.Ny (Sx.dw Sx.Hi (Sx.dw Sx.Nv (Sx.dw Sx.JA (Sx.dw Sx.Hj (Sx.dw Sx.Jx (Sx.dw Sx.Hg (Sx.dw Sx.Hr (Sx.dw Sx.UO Sx.fk))))))))))))))))
  refine (Sx.Ab (ys := [v0, v1, v2, v3]) Sx.mixed _ hG 1 (Sx.toJ i) (Sx.toA i) Tryz.func4 (by kernel_rfl) (by kernel_rfl) (by kernel_rfl) (Eq.mp (Sx.aaX i) (Sx.vto i hc)) (λg hg => by cases hg) hv).mono ?_
  rintro e w' ⟨y, rfl, hb, a, ha, o, _, E', hv⟩
  obtain rfl := List.mem_singleton.1 ha
  simp only [Sx.VR, Sx.DR] at hv
  exact ⟨by rw [hv.1], hb⟩

theorem sb_of (s : ByteArray) : ∃ l, Sx.sb l = s := ⟨s.data.toList, by cases s; simp [Sx.sb]⟩
theorem ints {m : Nat} {t e : TypeId} {ds : List Sx.D} (hu : Tryz.prog.underlying t = some (.slice e)) (he : Tryz.prog.underlying e = some (.int .i64)) (hc : Tryz.prog.cellsOf e = 1) (h : Sx.vo Tryz.prog (m + 1) t ds) :
    ∃ l : List Int, ds = [.ro 1 (Sx.iE l)] /\ l.length <= maxLen := by
  obtain ⟨fa, rfl, h1, h2⟩ := Sx.EK hu h
  obtain ⟨l, rfl, _⟩ := Sx.yt (f := λn => [Sx.D.v (.int .i64 n)]) (Q := λn => (Lit.int .i64 n).wf = true) λel oT => Sx.jw he (h2 el oT)
  rw [hc]
  exact ⟨l, rfl, by rw [List.length_map] at h1; exact h1⟩

theorem prd {ds : List Sx.D} (h : Sx.C9 (Sx.vo Tryz.prog 2) [9, 22, 2, 2, 2, 2, 3, 2, 2, 2, 23] ds) :
    ∃ x : Sx.fj, Sx.V.agg (ds.map .d) = Sx.nv x /\ x.raw := by
  have i1 : Tryz.prog.cellsOf 3 = 1 := by kernel_rfl
  have i2 : Tryz.prog.cellsOf 2 = 1 := by kernel_rfl
  obtain ⟨_, _, rfl, s0, _, _, rfl, s1, _, _, rfl, s2, _, _, rfl, s3, _, _, rfl, s4, _, _, rfl, s5, _, _, rfl, s6, _, _, rfl, s7, _, _, rfl, s8, _, _, rfl, s9, _, _, rfl, s10, rfl⟩ := h
  obtain ⟨c, rfl, _⟩ := Sx.yu Tryz.underlying9 s0
  obtain ⟨code, rfl⟩ := sb_of c
  obtain ⟨ms, rfl, hm⟩ := ints Tryz.underlying22 Tryz.underlying3 i1 s1
  obtain ⟨n2, rfl, w2⟩ := Sx.jw Tryz.underlying2 s2
  obtain ⟨n3, rfl, w3⟩ := Sx.jw Tryz.underlying2 s3
  obtain ⟨n4, rfl, w4⟩ := Sx.jw Tryz.underlying2 s4
  obtain ⟨n5, rfl, w5⟩ := Sx.jw Tryz.underlying2 s5
  obtain ⟨n6, rfl, w6⟩ := Sx.jw Tryz.underlying3 s6
  obtain ⟨n7, rfl, w7⟩ := Sx.jw Tryz.underlying2 s7
  obtain ⟨n8, rfl, w8⟩ := Sx.jw Tryz.underlying2 s8
  obtain ⟨n9, rfl, w9⟩ := Sx.jw Tryz.underlying2 s9
  obtain ⟨se, rfl, _⟩ := ints Tryz.underlying23 Tryz.underlying2 i2 s10
  have AG : ms.length <= 9223372036854775807 := by unfold maxLen at hm; omega
  exact ⟨⟨code, ms, n2, n3, n4, n5, n6, n7, n8, n9, se⟩, rfl, bounds_i64 w2, bounds_i64 w5, bounds_i64 w6, bounds_i64 w7, bounds_i64 w8, bounds_i64 w9, AG⟩
theorem cmd {ds : List Sx.D} (h : Sx.C9 (Sx.vo Tryz.prog 1) [3, 2, 3, 3, 2, 2, 2, 3, 9] ds) : ∃ c : Sx.ir, ds = Sx.zy c /\ c.raw := by
  obtain ⟨_, _, rfl, s0, _, _, rfl, s1, _, _, rfl, s2, _, _, rfl, s3, _, _, rfl, s4, _, _, rfl, s5, _, _, rfl, s6, _, _, rfl, s7, _, _, rfl, s8, rfl⟩ := h
  obtain ⟨n0, rfl, w0⟩ := Sx.jw Tryz.underlying3 s0
  obtain ⟨n1, rfl, w1⟩ := Sx.jw Tryz.underlying2 s1
  obtain ⟨n2, rfl, w2⟩ := Sx.jw Tryz.underlying3 s2
  obtain ⟨n3, rfl, w3⟩ := Sx.jw Tryz.underlying3 s3
  obtain ⟨n4, rfl, w4⟩ := Sx.jw Tryz.underlying2 s4
  obtain ⟨n5, rfl, w5⟩ := Sx.jw Tryz.underlying2 s5
  obtain ⟨n6, rfl, w6⟩ := Sx.jw Tryz.underlying2 s6
  obtain ⟨n7, rfl, w7⟩ := Sx.jw Tryz.underlying3 s7
  obtain ⟨c, rfl, _⟩ := Sx.yu Tryz.underlying9 s8
  obtain ⟨lab, rfl⟩ := sb_of c
  exact ⟨⟨n0, n1, n2, n3, n4, n5, n6, n7, lab⟩, rfl, bounds_i64 w0, bounds_i64 w1, bounds_i64 w2, bounds_i64 w3, bounds_i64 w4, bounds_i64 w5, bounds_i64 w6, bounds_i64 w7⟩


theorem lifted (os : Os) (started : os.Started) (H : Type) (enc : TypeId × Value -> H) :
    ReturnsInHanded {} Tryz.checked os 4 .any (Rows.topLostSpec.pre6 enc Tryz.prog Tryz.f4 Rows.topLostRow.domain false) (Rows.topLostSpec.post enc Tryz.prog Tryz.f4 false true false false) := by
  refine returnsInHanded_of_change (C := Tryz.checked) own started (by kernel_rfl) Tryz.func4
    (ChangeSpec.witness6 (enc := enc) (C := Tryz.checked) false ⟨#[], #[.agg #[.string ⟨#[]⟩, .slice none 0 0, .int .i64 0, .int .i64 0, .int .i64 0, .int .i64 0, .int .i64 0, .int .i64 0, .int .i64 0, .int .i64 0, .slice none 0 0], .slice none 0 0, .slice none 0 0, .slice none 0 0], []⟩ 8 (by kernel_rfl) (by kernel_rfl) (by kernel_rfl) (by kernel_rfl)) ?_
  intro W base args ds gs before Uj hW abi _
  have zr : ∀ (j : Nat) t v, Tryz.f4.params[j]? = some t -> args[j]? = some v -> Value.okWide Tryz.prog W .any base t v := Uj
  have hW' := hW
  obtain ⟨p, q, hA0, hV, rfl, hfz, rj⟩ := hW
  have hA : DataW.TrodAll enc Tryz.prog W 0 (λ_ => true) true Tryz.f4.params.toList args.toList ds p := hA0
  rw [Tryz.params4] at hA zr
  have MC : DataW.TrodAll enc Tryz.prog W 0 (λ_ => true) true [25, 26, 27, 22] args.toList ds p := hA
  obtain ⟨al, Cq⟩ : ∃ al, al = args.toList := ⟨_, rfl⟩
  have Ig := MC
  rw [<- Cq] at Ig
  obtain ⟨v0, vs0, d0, ds0, p0, q0, e0, rfl, rfl, h0, r0⟩ := trodAll_cons Ig
  obtain ⟨v1, vs1, d1, ds1, p1, q1, e1, rfl, rfl, h1, r1⟩ := trodAll_cons r0
  obtain ⟨v2, vs2, d2, ds2, p2, q2, e2, rfl, rfl, h2, r2⟩ := trodAll_cons r1
  obtain ⟨v3, vs3, d3, ds3, p3, q3, e3, rfl, rfl, h3, r3⟩ := trodAll_cons r2
  obtain ⟨n0, rfl, rfl⟩ := trodAll_nil r3
  have oc : args = #[v0, v1, v2, v3] := by
    apply Array.ext'
    rw [<- Cq, e0, e1, e2, e3, n0]
  subst oc
  clear Cq e0 e1 e2 e3 n0 Ig r0 r1 r2 r3
  obtain ⟨rfl, rfl⟩ := trodVars_none hV
  obtain ⟨ds0, f0, g0⟩ := Sx.Di kids 2 (by decide +kernel) Tryz.underlying25 (by kernel_rfl) (zr 0 25 v0 rfl rfl) h0
  obtain ⟨a0, Ya, w0⟩ := prd f0
  obtain ⟨abm, g1, b1, c1⟩ := Sx.wv kids 2 (by decide +kernel) Tryz.underlying26 (by kernel_rfl) (zr 1 26 v1 rfl rfl) h1
  obtain ⟨a1, rfl, w1⟩ := Sx.yt (f := Sx.zy) (Q := Sx.ir.raw) λel oT => cmd (Sx.Dh Tryz.underlying47 (c1 el oT))
  have z1 : Tryz.prog.cellsOf 47 = 9 := by kernel_rfl
  obtain ⟨abl, g2, b2, c2⟩ := Sx.wv kids 1 (by decide +kernel) Tryz.underlying27 (by kernel_rfl) (zr 2 27 v2 rfl rfl) h2
  obtain ⟨a2, rfl, w2⟩ := Sx.yt (f := Sx.Fo) (Q := λ_ => True) λel oT => by
    obtain ⟨n, rfl⟩ := Sx.Hl Tryz.underlying4 (c2 el oT)
    exact ⟨n, rfl, trivial⟩
  have z2 : Tryz.prog.cellsOf 4 = 1 := by kernel_rfl
  obtain ⟨abk, g3, b3, c3⟩ := Sx.wv kids 1 (by decide +kernel) Tryz.underlying22 (by kernel_rfl) (zr 3 22 v3 rfl rfl) h3
  obtain ⟨a3, rfl, w3⟩ := Sx.yt (f := λn => [Sx.D.v (.int .i64 n)]) (Q := Sx.gx) λel oT => by
    obtain ⟨n, rfl, w⟩ := Sx.jw Tryz.underlying3 (c3 el oT)
    exact ⟨n, rfl, bounds_i64 w⟩
  have z3 : Tryz.prog.cellsOf 3 = 1 := by kernel_rfl
  have gr := hW'.lt
  simp only [List.append_nil] at hW' gr MC
  simp only [<- List.append_assoc] at MC
  rw [Ya] at g0
  have gs1 : Sx.DR (Sx.E0 W).F (.ro 9 (a1.map Sx.zy)) v1 := z1 ▸ g1
  have l1 : a1.length <= 9223372036854775807 := by rw [List.length_map] at b1; unfold maxLen at b1; omega
  have gs2 : Sx.DR (Sx.E0 W).F (.ro 1 (a2.map Sx.Fo)) v2 := z2 ▸ g2
  have l2 : a2.length <= 9223372036854775807 := by rw [List.length_map] at b2; unfold maxLen at b2; omega
  have gs3 : Sx.DR (Sx.E0 W).F (.ro 1 (Sx.iE a3)) v3 := z3 ▸ g3
  have l3 : a3.length <= 9223372036854775807 := by rw [List.length_map] at b3; unfold maxLen at b3; omega
  refine (walk ⟨a0, Sx.im a0, a1, a2, a3⟩ ⟨⟨rfl, w0, w1, l1, l2⟩, w3, l3⟩ W (v0 := v0) (v1 := v1) (v2 := v2) (v3 := v3) ?_).mono λe W' ⟨he, hg⟩ => ?_
  · simp only [Sx.toC, Sx.fp, Sx.ic]
    exact ⟨_, _, rfl, g0, _, _, rfl, by simp only [Sx.VR]; exact gs1, _, _, rfl, by simp only [Sx.VR]; exact gs2, _, _, rfl, by simp only [Sx.VR]; exact gs3, rfl⟩
  subst he
  refine ⟨_, rfl, Sx.Aa (pa := p0 ++ p1 ++ p2 ++ p3) (pv := []) hW' (λ_ _ _ => (trodAll_cons_mk (shut_bool Tryz.underlying4 _) trodAll_mk0)) (λsp ue => ?_) (λ_ _ => rfl) (by simp)
    hg (ok_one (by kernel_rfl) rfl (okWide_bool_mk Tryz.underlying4 _))⟩
  simp only [<- List.append_assoc] at ue
  exact Sx.Az kids full hg (by decide +kernel) MC (λx hx => gr x (by simpa using hx)) ue

theorem and2 {a b : Bool} (h : a = true) (g : b = true) : (a && b) = true := by rw [h, g]; rfl
theorem k1 : (Rows.topLostRow.wf (OpenSpec.ofChange Rows.topLostSpec)) = true := by kernel_rfl
theorem k2 : (laidOutB Tryz.pinned.checked.prog) = true := by kernel_rfl
theorem k3 : (mapsRowed Tryz.pinned.checked.prog) = true := by kernel_rfl
theorem k4 : (Tryz.f4.params.all (Tryz.pinned.checked.prog.readableRec ·)) = true := by kernel_rfl
theorem k5 : (namedTie Tryz.pinned.checked.prog Rows.topLostRow.named Rows.topLostSpec.vars) = true := by kernel_rfl
theorem k6 : (Rows.topLostRow.stops == []) = true := by kernel_rfl
theorem k7 : (Tryz.pinned.checked.prog.stops == []) = true := by kernel_rfl
theorem k8 : (Rows.topLostRow.knobs == []) = true := by kernel_rfl
theorem k9 : (Tryz.pinned.checked.prog.stopKnobs == []) = true := by kernel_rfl
theorem k10 : (Rows.topLostRow.inPlace == Tryz.pinned.checked.prog.inPlace 4) = true := by kernel_rfl
theorem k11 : (Rows.topLostRow.unfollowed == Tryz.pinned.checked.prog.unfollowed 4) = true := by kernel_rfl
theorem k12 : (Rows.topLostRow.recurses == Tryz.pinned.checked.prog.recurses 4) = true := by kernel_rfl
theorem k13 : (Rows.topLostRow.named == Tryz.pinned.checked.prog.varsNamed 4) = true := by kernel_rfl
theorem k14 : (Rows.topLostRow.maps == (Tryz.f4.params.toList ++ Rows.topLostSpec.plain.varTypes Tryz.pinned.checked.prog).any (Tryz.pinned.checked.prog.mapsRec ·)) = true := by kernel_rfl
theorem k15 : (Rows.topLostRow.ifaces == (Tryz.f4.params.toList ++ Rows.topLostSpec.plain.varTypes Tryz.pinned.checked.prog).any (Tryz.pinned.checked.prog.ifacesRec ·)) = true := by kernel_rfl
theorem k16 : (Rows.topLostRow.mapsOut == Tryz.pinned.checked.prog.mapsAmong Tryz.f4.resultTypes.toList) = true := by kernel_rfl
theorem k17 : (Rows.topLostRow.loops == (Tryz.f4.params.toList ++ Rows.topLostSpec.plain.varTypes Tryz.pinned.checked.prog).any (Tryz.pinned.checked.prog.loopsFrom ·)) = true := by kernel_rfl
theorem k18 : (Rows.topLostRow.wideKeys == (Tryz.f4.params.toList ++ Rows.topLostSpec.plain.varTypes Tryz.pinned.checked.prog ++ Tryz.f4.resultTypes.toList).any (Tryz.pinned.checked.prog.wideKeysFrom ·)) = true := by kernel_rfl
theorem k19 : (Rows.topLostSpec.vars.all (Tryz.pinned.checked.prog.varReadable ·)) = true := by kernel_rfl
theorem k20 : (Tryz.f4.resultTypes.all (λt => Tryz.pinned.checked.prog.readableRec t && decide (t < Tryz.pinned.checked.prog.types.size))) = true := by kernel_rfl
theorem k21 : (Rows.topLostRow.ifacesOut == Tryz.f4.resultTypes.toList.any (Tryz.pinned.checked.prog.ifacesRec ·)) = true := by kernel_rfl
theorem k22 : (Rows.topLostRow.loopsOut == Tryz.f4.resultTypes.toList.any (Tryz.pinned.checked.prog.loopsFrom ·)) = true := by kernel_rfl
theorem k23 : (Rows.topLostRow.plainKeys == Tryz.pinned.checked.prog.plainKeys) = true := by kernel_rfl
theorem k24 : (Rows.topLostRow.shortTexts.isNone) = true := by kernel_rfl
theorem k25 : (Tryz.pinned.checked.prog.stopsHeard) = true := by kernel_rfl
theorem k26 : (Tryz.pinned.checked.prog.mayEnter) = true := by kernel_rfl
theorem k27 : (Rows.topLostRow.lifted == Tryz.pinned.checked.prog.liftsFinal) = true := by kernel_rfl
theorem k28 : (Tryz.pinned.checked.prog.make == some Rows.topLostRow.make) = true := by kernel_rfl
theorem k29 : (Rows.topLostRow.kinds == (if Rows.topLostRow.domain.isEmpty then [] else Tryz.f4.params.toList.map λt => match Tryz.pinned.checked.prog.underlying t with | some (.int k) => some k | _ => none)) = true := by kernel_rfl
theorem k30 : (Rows.topLostRow.pinned == Rows.topLostRow.pinnedBy) = true := by kernel_rfl
theorem k31 : (Rows.topLostRow.veiled == (Tryz.f4.params.toList ++ Rows.topLostSpec.plain.varTypes Tryz.pinned.checked.prog ++ Tryz.f4.resultTypes.toList).any (Tryz.pinned.checked.prog.veiledRec ·)) = true := by kernel_rfl
theorem k32 : (Rows.topLostRow.veiledFits Tryz.pinned.checked.prog Tryz.f4.params.toList (Tryz.f4.params.toList ++ Rows.topLostSpec.plain.varTypes Tryz.pinned.checked.prog ++ Tryz.f4.resultTypes.toList)) = true := by kernel_rfl
theorem closed : joinedFacts Tryz.pinned.checked.prog 4 Tryz.f4 Rows.topLostSpec Rows.topLostRow = true := by
  unfold joinedFacts
  exact and2 (and2 (and2 (and2 (and2 (and2 (and2 (and2 (and2 (and2 (and2 (and2 (and2 (and2 (and2 (and2 (and2 (and2 (and2 (and2 (and2 (and2 (and2 (and2 (and2 (and2 (and2 (and2 (and2 (and2 (and2 k1 k2) k3) k4) k5) k6) k7) k8) k9) k10) k11) k12) k13) k14) k15) k16) k17) k18) k19) k20) k21) k22) k23) k24) k25) k26) k27) k28) k29) k30) k31) k32
theorem named : Tryz.pinned.checked.prog.funcNamed Rows.topLostRow.func = some 4 := by kernel_rfl
theorem inst : Tryz.f4.isInstance Tryz.pinned.checked.prog Rows.topLostRow.origin Rows.topLostRow.targs := of_decide_eq_true (by kernel_rfl)
theorem wrap : Tryz.f4.isWrapper Tryz.pinned.checked.prog Rows.topLostRow.wrapper Rows.topLostRow.mainSum := by
  unfold Func.isWrapper
  first | (rw [if_pos (by decide +kernel)]; kernel_rfl) | (rw [if_neg (by decide +kernel)]; exact ⟨rfl, rfl⟩)
theorem over : Rows.topLostRow.holds Tryz.pinned (OpenSpec.ofChange Rows.topLostSpec) :=
  OpenClaim.holds_of_wide 4 Tryz.f4 rfl rfl rfl rfl rfl rfl rfl ⟨rfl, rfl, rfl, rfl, rfl⟩ rfl rfl rfl rfl rfl named Tryz.func4 closed
    inst wrap
    (λos started H enc _ => lifted os started H enc)

/-- The statement. -/
theorem proved : Rows.TopLostSaid :=
  over
#print axioms proved
end Go.Proofs.YtfmobncdogfbmaaGreat.topLost
