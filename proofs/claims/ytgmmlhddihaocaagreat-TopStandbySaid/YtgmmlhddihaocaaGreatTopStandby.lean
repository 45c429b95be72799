/- TopStandby returns true, for every product, commands, sessions, lost lines and further commands; they read as before. No condition. -/
import Derived.Test.YtgmmlhddihaocaaGreatS17
import Derived.Test.YtgmmlhddihaocaaGreatRows
import Derived.WalkKit
import Derived.ProofKit
import Derived.OpenShut
import Derived.SizedLaws
namespace Go.Proofs.YtgmmlhddihaocaaGreat.topStandby
open Go.ChangeShapes Go.WideShapes Go.ChangeAt Go.RowKit
set_option linter.unusedVariables false
set_option maxRecDepth 100000

theorem own : ownKnob Tryz.prog.godebug = none := by kernel_rfl
theorem kids : Kids Tryz.prog (· < Tryz.prog.types.size) := kids_rows (by kernel_rfl) (by kernel_rfl)
theorem full : ∀ t e, t < Tryz.prog.types.size -> Tryz.prog.underlying t = some (.slice e) -> 0 < Tryz.prog.cellsOf e := slices_full_of Tryz.prog (by kernel_rfl)

theorem walk (i : Sx.qm) (hc : Sx.KW.dq i) (w : World) {v0 v1 v2 v3 v4 : Value} (hv : Sx.gw (Sx.E0 w) (Sx.KW.pat i) [v0, v1, v2, v3, v4]) :
    Calls Tryz.prog 5 #[v0, v1, v2, v3, v4] w λe w' => e = .returned (.bool true) /\ Below w.heap.size w w' := by
  have hG := Sx.dx Sx.Gi (Sx.dx Sx.L3 (Sx.dx Sx.LD (Sx.dx Sx.LG (Sx.dx Sx.Cz (Sx.dx Sx.Gf (Sx.dx Sx.Ix (Sx.dx Sx.Gd (Sx.dx Sx.DZ (Sx.dx Sx.AK (Sx.dx Sx.D0 (Sx.dx Sx.L4 (Sx.dx Sx.Gg (Sx.dx Sx.Sf Sx.fj)))))))))))))
  refine (Sx.zh (ys := [v0, v1, v2, v3, v4]) Sx.mixed _ hG 1 (Sx.stJ i) (Sx.stA i) Tryz.func5 (by kernel_rfl) (by kernel_rfl) (by kernel_rfl) (Eq.mp (Sx.aa5 i) (Sx.vst i hc)) (λg hg => by cases hg) hv).mono ?_
  rintro e w' ⟨y, rfl, hb, a, ha, o, _, E', hv⟩
  obtain rfl := List.mem_singleton.1 ha
  simp only [Sx.VR, Sx.DR] at hv
  exact ⟨by rw [hv.1], hb⟩

theorem JI (s : ByteArray) : ∃ l, Sx.sb l = s := ⟨s.data.toList, by cases s; simp [Sx.sb]⟩
theorem ints {m : Nat} {t e : TypeId} {ds : List Sx.D} (hu : Tryz.prog.underlying t = some (.slice e)) (he : Tryz.prog.underlying e = some (.int .i64)) (hc : Tryz.prog.cellsOf e = 1) (h : Sx.ux Tryz.prog (m + 1) t ds) :
    ∃ l : List Int, ds = [.ro 1 (Sx.iE l)] /\ l.length <= maxLen := by
  obtain ⟨ez, rfl, h1, h2⟩ := Sx.DY hu h
  obtain ⟨l, rfl, _⟩ := Sx.vl (f := λn => [Sx.D.v (.int .i64 n)]) (Q := λn => (Lit.int .i64 n).wf = true) λel oT => Sx.jq he (h2 el oT)
  rw [hc]
  exact ⟨l, rfl, by rw [List.length_map] at h1; exact h1⟩

theorem prd {ds : List Sx.D} (h : Sx.Cu (Sx.ux Tryz.prog 2) [9, 22, 2, 2, 2, 2, 3, 2, 2, 2, 23] ds) :
    ∃ x : Sx.ff, Sx.V.agg (ds.map .d) = Sx.oe x /\ x.raw := by
  have i1 : Tryz.prog.cellsOf 3 = 1 := by kernel_rfl
  have i2 : Tryz.prog.cellsOf 2 = 1 := by kernel_rfl
  obtain ⟨_, _, rfl, s0, _, _, rfl, s1, _, _, rfl, s2, _, _, rfl, s3, _, _, rfl, s4, _, _, rfl, s5, _, _, rfl, s6, _, _, rfl, s7, _, _, rfl, s8, _, _, rfl, s9, _, _, rfl, s10, rfl⟩ := h
  obtain ⟨c, rfl, _⟩ := Sx.yd Tryz.underlying9 s0
  obtain ⟨code, rfl⟩ := JI c
  obtain ⟨ms, rfl, hm⟩ := ints Tryz.underlying22 Tryz.underlying3 i1 s1
  obtain ⟨n2, rfl, w2⟩ := Sx.jq Tryz.underlying2 s2
  obtain ⟨n3, rfl, w3⟩ := Sx.jq Tryz.underlying2 s3
  obtain ⟨n4, rfl, w4⟩ := Sx.jq Tryz.underlying2 s4
  obtain ⟨n5, rfl, w5⟩ := Sx.jq Tryz.underlying2 s5
  obtain ⟨n6, rfl, w6⟩ := Sx.jq Tryz.underlying3 s6
  obtain ⟨n7, rfl, w7⟩ := Sx.jq Tryz.underlying2 s7
  obtain ⟨n8, rfl, w8⟩ := Sx.jq Tryz.underlying2 s8
  obtain ⟨n9, rfl, w9⟩ := Sx.jq Tryz.underlying2 s9
  obtain ⟨se, rfl, _⟩ := ints Tryz.underlying23 Tryz.underlying2 i2 s10
  have Ak : ms.length <= 9223372036854775807 := by unfold maxLen at hm; omega
  exact ⟨⟨code, ms, n2, n3, n4, n5, n6, n7, n8, n9, se⟩, rfl, bounds_i64 w2, bounds_i64 w5, bounds_i64 w6, bounds_i64 w7, bounds_i64 w8, bounds_i64 w9, Ak⟩
theorem cmd {ds : List Sx.D} (h : Sx.Cu (Sx.ux Tryz.prog 1) [3, 2, 3, 3, 2, 2, 2, 3, 9] ds) : ∃ c : Sx.ir, ds = Sx.rp c /\ c.raw := by
  obtain ⟨_, _, rfl, s0, _, _, rfl, s1, _, _, rfl, s2, _, _, rfl, s3, _, _, rfl, s4, _, _, rfl, s5, _, _, rfl, s6, _, _, rfl, s7, _, _, rfl, s8, rfl⟩ := h
  obtain ⟨n0, rfl, w0⟩ := Sx.jq Tryz.underlying3 s0
  obtain ⟨n1, rfl, w1⟩ := Sx.jq Tryz.underlying2 s1
  obtain ⟨n2, rfl, w2⟩ := Sx.jq Tryz.underlying3 s2
  obtain ⟨n3, rfl, w3⟩ := Sx.jq Tryz.underlying3 s3
  obtain ⟨n4, rfl, w4⟩ := Sx.jq Tryz.underlying2 s4
  obtain ⟨n5, rfl, w5⟩ := Sx.jq Tryz.underlying2 s5
  obtain ⟨n6, rfl, w6⟩ := Sx.jq Tryz.underlying2 s6
  obtain ⟨n7, rfl, w7⟩ := Sx.jq Tryz.underlying3 s7
  obtain ⟨c, rfl, _⟩ := Sx.yd Tryz.underlying9 s8
  obtain ⟨lab, rfl⟩ := JI c
  exact ⟨⟨n0, n1, n2, n3, n4, n5, n6, n7, lab⟩, rfl, bounds_i64 w0, bounds_i64 w1, bounds_i64 w2, bounds_i64 w3, bounds_i64 w4, bounds_i64 w5, bounds_i64 w6, bounds_i64 w7⟩


theorem lifted (os : Os) (started : os.Started) (H : Type) (enc : TypeId × Value -> H) :
    ReturnsInHanded {} Tryz.checked os 5 .any (Rows.topStandbySpec.pre6 enc Tryz.prog Tryz.f5 Rows.topStandbyRow.domain false) (Rows.topStandbySpec.post enc Tryz.prog Tryz.f5 false true false false) := by
  refine returnsInHanded_of_change (C := Tryz.checked) own started (by kernel_rfl) Tryz.func5
    (ChangeSpec.witness6 (enc := enc) (C := Tryz.checked) false ⟨#[], #[.agg #[.string ⟨#[]⟩, .slice none 0 0, .int .i64 0, .int .i64 0, .int .i64 0, .int .i64 0, .int .i64 0, .int .i64 0, .int .i64 0, .int .i64 0, .slice none 0 0], .slice none 0 0, .slice none 0 0, .slice none 0 0, .slice none 0 0], []⟩ 8 (by kernel_rfl) (by kernel_rfl) (by kernel_rfl) (by kernel_rfl)) ?_
  intro W base args ds gs before RA hW abi _
  have xq : ∀ (j : Nat) t v, Tryz.f5.params[j]? = some t -> args[j]? = some v -> Value.okWide Tryz.prog W .any base t v := RA
  have hW' := hW
  obtain ⟨p, q, hA0, hV, rfl, hfz, qt⟩ := hW
  have hA : DataW.TrodAll enc Tryz.prog W 0 (λ_ => true) true Tryz.f5.params.toList args.toList ds p := hA0
  rw [Tryz.params5] at hA xq
  have Ld : DataW.TrodAll enc Tryz.prog W 0 (λ_ => true) true [25, 26, 22, 80, 26] args.toList ds p := hA
  obtain ⟨al, BR⟩ : ∃ al, al = args.toList := ⟨_, rfl⟩
  have G2 := Ld
  rw [<- BR] at G2
  obtain ⟨v0, vs0, d0, ds0, p0, q0, e0, rfl, rfl, h0, r0⟩ := trodAll_cons G2
  obtain ⟨v1, vs1, d1, ds1, p1, q1, e1, rfl, rfl, h1, r1⟩ := trodAll_cons r0
  obtain ⟨v2, vs2, d2, ds2, p2, q2, e2, rfl, rfl, h2, r2⟩ := trodAll_cons r1
  obtain ⟨v3, vs3, d3, ds3, p3, q3, e3, rfl, rfl, h3, r3⟩ := trodAll_cons r2
  obtain ⟨v4, vs4, d4, ds4, p4, q4, e4, rfl, rfl, h4, r4⟩ := trodAll_cons r3
  obtain ⟨n0, rfl, rfl⟩ := trodAll_nil r4
  have nt : args = #[v0, v1, v2, v3, v4] := by
    apply Array.ext'
    rw [<- BR, e0, e1, e2, e3, e4, n0]
  subst nt
  clear BR e0 e1 e2 e3 e4 n0 G2 r0 r1 r2 r3 r4
  obtain ⟨rfl, rfl⟩ := trodVars_none hV
  obtain ⟨ds0, f0, g0⟩ := Sx.CC kids 2 (by decide +kernel) Tryz.underlying25 (by kernel_rfl) (xq 0 25 v0 rfl rfl) h0
  obtain ⟨a0, U7, w0⟩ := prd f0
  obtain ⟨abn, g1, b1, c1⟩ := Sx.sw kids 2 (by decide +kernel) Tryz.underlying26 (by kernel_rfl) (xq 1 26 v1 rfl rfl) h1
  obtain ⟨a1, rfl, w1⟩ := Sx.vl (f := Sx.rp) (Q := Sx.ir.raw) λel oT => cmd (Sx.yb Tryz.underlying46 (c1 el oT))
  have z1 : Tryz.prog.cellsOf 46 = 9 := by kernel_rfl
  obtain ⟨abm, g2, b2, c2⟩ := Sx.sw kids 1 (by decide +kernel) Tryz.underlying22 (by kernel_rfl) (xq 2 22 v2 rfl rfl) h2
  obtain ⟨a2, rfl, w2⟩ := Sx.vl (f := λn => [Sx.D.v (.int .i64 n)]) (Q := Sx.gx) λel oT => by
    obtain ⟨n, rfl, w⟩ := Sx.jq Tryz.underlying3 (c2 el oT)
    exact ⟨n, rfl, bounds_i64 w⟩
  have z2 : Tryz.prog.cellsOf 3 = 1 := by kernel_rfl
  obtain ⟨abl, g3, b3, c3⟩ := Sx.sw kids 1 (by decide +kernel) Tryz.underlying80 (by kernel_rfl) (xq 3 80 v3 rfl rfl) h3
  obtain ⟨a3, rfl, w3⟩ := Sx.vl (f := Sx.HS) (Q := λ_ => True) λel oT => by
    obtain ⟨n, rfl⟩ := Sx.Ge Tryz.underlying4 (c3 el oT)
    exact ⟨n, rfl, trivial⟩
  have z3 : Tryz.prog.cellsOf 4 = 1 := by kernel_rfl
  obtain ⟨abk, g4, b4, c4⟩ := Sx.sw kids 2 (by decide +kernel) Tryz.underlying26 (by kernel_rfl) (xq 4 26 v4 rfl rfl) h4
  obtain ⟨a4, rfl, w4⟩ := Sx.vl (f := Sx.rp) (Q := Sx.ir.raw) λel oT => cmd (Sx.yb Tryz.underlying46 (c4 el oT))
  have z4 : Tryz.prog.cellsOf 46 = 9 := by kernel_rfl
  have gv := hW'.lt
  simp only [List.append_nil] at hW' gv Ld
  simp only [<- List.append_assoc] at Ld
  rw [U7] at g0
  have gs1 : Sx.DR (Sx.E0 W).F (.ro 9 (a1.map Sx.rp)) v1 := z1 ▸ g1
  have l1 : a1.length <= 9223372036854775807 := by rw [List.length_map] at b1; unfold maxLen at b1; omega
  have gs2 : Sx.DR (Sx.E0 W).F (.ro 1 (Sx.iE a2)) v2 := z2 ▸ g2
  have l2 : a2.length <= 9223372036854775807 := by rw [List.length_map] at b2; unfold maxLen at b2; omega
  have gs3 : Sx.DR (Sx.E0 W).F (.ro 1 (a3.map Sx.HS)) v3 := z3 ▸ g3
  have l3 : a3.length <= 9223372036854775807 := by rw [List.length_map] at b3; unfold maxLen at b3; omega
  have gs4 : Sx.DR (Sx.E0 W).F (.ro 9 (a4.map Sx.rp)) v4 := z4 ▸ g4
  have l4 : a4.length <= 9223372036854775807 := by rw [List.length_map] at b4; unfold maxLen at b4; omega
  refine (walk ⟨a0, Sx.ie a0, a1, a2, a3, a4⟩ ⟨⟨rfl, w0, w1, w2, l1, l2⟩, l3, w4, l4⟩ W (v0 := v0) (v1 := v1) (v2 := v2) (v3 := v3) (v4 := v4) ?_).mono λe W' ⟨he, hg⟩ => ?_
  · simp only [Sx.KW, Sx.fp, Sx.gw]
    exact ⟨_, _, rfl, g0, _, _, rfl, by simp only [Sx.VR]; exact gs1, _, _, rfl, by simp only [Sx.VR]; exact gs2, _, _, rfl, by simp only [Sx.VR]; exact gs3, _, _, rfl, by simp only [Sx.VR]; exact gs4, rfl⟩
  subst he
  refine ⟨_, rfl, Sx.zg (pa := p0 ++ p1 ++ p2 ++ p3 ++ p4) (pv := []) hW' (λ_ _ _ => (trodAll_cons_mk (shut_bool Tryz.underlying4 _) trodAll_mk0)) (λsp tq => ?_) (λ_ _ => rfl) (by simp)
    hg (ok_one (by kernel_rfl) rfl (okWide_bool_mk Tryz.underlying4 _))⟩
  simp only [<- List.append_assoc] at tq
  exact Sx.Ad kids full hg (by decide +kernel) Ld (λx hx => gv x (by simpa using hx)) tq

theorem mr {a b : Bool} (h : a = true) (g : b = true) : (a && b) = true := by rw [h, g]; rfl
theorem k1 : (Rows.topStandbyRow.wf (OpenSpec.ofChange Rows.topStandbySpec)) = true := by kernel_rfl
theorem k2 : (laidOutB Tryz.pinned.checked.prog) = true := by kernel_rfl
theorem k3 : (mapsRowed Tryz.pinned.checked.prog) = true := by kernel_rfl
theorem k4 : (Tryz.f5.params.all (Tryz.pinned.checked.prog.readableRec ·)) = true := by kernel_rfl
theorem k5 : (namedTie Tryz.pinned.checked.prog Rows.topStandbyRow.named Rows.topStandbySpec.vars) = true := by kernel_rfl
theorem k6 : (Rows.topStandbyRow.stops == []) = true := by kernel_rfl
theorem k7 : (Tryz.pinned.checked.prog.stops == []) = true := by kernel_rfl
theorem k8 : (Rows.topStandbyRow.knobs == []) = true := by kernel_rfl
theorem k9 : (Tryz.pinned.checked.prog.stopKnobs == []) = true := by kernel_rfl
theorem k10 : (Rows.topStandbyRow.inPlace == Tryz.pinned.checked.prog.inPlace 5) = true := by kernel_rfl
theorem k11 : (Rows.topStandbyRow.unfollowed == Tryz.pinned.checked.prog.unfollowed 5) = true := by kernel_rfl
theorem k12 : (Rows.topStandbyRow.recurses == Tryz.pinned.checked.prog.recurses 5) = true := by kernel_rfl
theorem k13 : (Rows.topStandbyRow.named == Tryz.pinned.checked.prog.varsNamed 5) = true := by kernel_rfl
theorem k14 : (Rows.topStandbyRow.maps == (Tryz.f5.params.toList ++ Rows.topStandbySpec.plain.varTypes Tryz.pinned.checked.prog).any (Tryz.pinned.checked.prog.mapsRec ·)) = true := by kernel_rfl
theorem k15 : (Rows.topStandbyRow.ifaces == (Tryz.f5.params.toList ++ Rows.topStandbySpec.plain.varTypes Tryz.pinned.checked.prog).any (Tryz.pinned.checked.prog.ifacesRec ·)) = true := by kernel_rfl
theorem k16 : (Rows.topStandbyRow.mapsOut == Tryz.pinned.checked.prog.mapsAmong Tryz.f5.resultTypes.toList) = true := by kernel_rfl
theorem k17 : (Rows.topStandbyRow.loops == (Tryz.f5.params.toList ++ Rows.topStandbySpec.plain.varTypes Tryz.pinned.checked.prog).any (Tryz.pinned.checked.prog.loopsFrom ·)) = true := by kernel_rfl
theorem k18 : (Rows.topStandbyRow.wideKeys == (Tryz.f5.params.toList ++ Rows.topStandbySpec.plain.varTypes Tryz.pinned.checked.prog ++ Tryz.f5.resultTypes.toList).any (Tryz.pinned.checked.prog.wideKeysFrom ·)) = true := by kernel_rfl
theorem k19 : (Rows.topStandbySpec.vars.all (Tryz.pinned.checked.prog.varReadable ·)) = true := by kernel_rfl
theorem k20 : (Tryz.f5.resultTypes.all (λt => Tryz.pinned.checked.prog.readableRec t && decide (t < Tryz.pinned.checked.prog.types.size))) = true := by kernel_rfl
theorem k21 : (Rows.topStandbyRow.ifacesOut == Tryz.f5.resultTypes.toList.any (Tryz.pinned.checked.prog.ifacesRec ·)) = true := by kernel_rfl
theorem k22 : (Rows.topStandbyRow.loopsOut == Tryz.f5.resultTypes.toList.any (Tryz.pinned.checked.prog.loopsFrom ·)) = true := by kernel_rfl
theorem k23 : (Rows.topStandbyRow.plainKeys == Tryz.pinned.checked.prog.plainKeys) = true := by kernel_rfl
theorem k24 : (Rows.topStandbyRow.shortTexts.isNone) = true := by kernel_rfl
theorem k25 : (Tryz.pinned.checked.prog.stopsHeard) = true := by kernel_rfl
theorem k26 : (Tryz.pinned.checked.prog.mayEnter) = true := by kernel_rfl
theorem k27 : (Rows.topStandbyRow.lifted == Tryz.pinned.checked.prog.liftsFinal) = true := by kernel_rfl
theorem k28 : (Tryz.pinned.checked.prog.make == some Rows.topStandbyRow.make) = true := by kernel_rfl
theorem k29 : (Rows.topStandbyRow.kinds == (if Rows.topStandbyRow.domain.isEmpty then [] else Tryz.f5.params.toList.map λt => match Tryz.pinned.checked.prog.underlying t with | some (.int k) => some k | _ => none)) = true := by kernel_rfl
theorem k30 : (Rows.topStandbyRow.pinned == Rows.topStandbyRow.pinnedBy) = true := by kernel_rfl
theorem k31 : (Rows.topStandbyRow.veiled == (Tryz.f5.params.toList ++ Rows.topStandbySpec.plain.varTypes Tryz.pinned.checked.prog ++ Tryz.f5.resultTypes.toList).any (Tryz.pinned.checked.prog.veiledRec ·)) = true := by kernel_rfl
theorem k32 : (Rows.topStandbyRow.veiledFits Tryz.pinned.checked.prog Tryz.f5.params.toList (Tryz.f5.params.toList ++ Rows.topStandbySpec.plain.varTypes Tryz.pinned.checked.prog ++ Tryz.f5.resultTypes.toList)) = true := by kernel_rfl
theorem closed : joinedFacts Tryz.pinned.checked.prog 5 Tryz.f5 Rows.topStandbySpec Rows.topStandbyRow = true := by
  unfold joinedFacts
  exact mr (mr (mr (mr (mr (mr (mr (mr (mr (mr (mr (mr (mr (mr (mr (mr (mr (mr (mr (mr (mr (mr (mr (mr (mr (mr (mr (mr (mr (mr (mr k1 k2) k3) k4) k5) k6) k7) k8) k9) k10) k11) k12) k13) k14) k15) k16) k17) k18) k19) k20) k21) k22) k23) k24) k25) k26) k27) k28) k29) k30) k31) k32
theorem named : Tryz.pinned.checked.prog.funcNamed Rows.topStandbyRow.func = some 5 := by kernel_rfl
theorem inst : Tryz.f5.isInstance Tryz.pinned.checked.prog Rows.topStandbyRow.origin Rows.topStandbyRow.targs := of_decide_eq_true (by kernel_rfl)
theorem wrap : Tryz.f5.isWrapper Tryz.pinned.checked.prog Rows.topStandbyRow.wrapper Rows.topStandbyRow.mainSum := by
  unfold Func.isWrapper
  first | (rw [if_pos (by decide +kernel)]; kernel_rfl) | (rw [if_neg (by decide +kernel)]; exact ⟨rfl, rfl⟩)
theorem over : Rows.topStandbyRow.holds Tryz.pinned (OpenSpec.ofChange Rows.topStandbySpec) :=
  OpenClaim.holds_of_wide 5 Tryz.f5 rfl rfl rfl rfl rfl rfl rfl ⟨rfl, rfl, rfl, rfl, rfl⟩ rfl rfl rfl rfl rfl named Tryz.func5 closed
    inst wrap
    (λos started H enc _ => lifted os started H enc)

/-- The statement. -/
theorem proved : Rows.TopStandbySaid :=
  over
#print axioms proved
end Go.Proofs.YtgmmlhddihaocaaGreat.topStandby
