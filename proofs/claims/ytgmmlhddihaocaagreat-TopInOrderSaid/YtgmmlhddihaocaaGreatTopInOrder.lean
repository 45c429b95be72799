/- TopInOrder returns true, for every product, commands and sessions; they read as before. No condition. -/
import Derived.Test.YtgmmlhddihaocaaGreatH16
import Derived.Test.YtgmmlhddihaocaaGreatRows
import Derived.WalkKit
import Derived.ProofKit
import Derived.OpenShut
import Derived.SizedLaws
namespace Go.Proofs.YtgmmlhddihaocaaGreat.topInOrder
open Go.ChangeShapes Go.WideShapes Go.ChangeAt Go.RowKit
set_option linter.unusedVariables false
set_option maxRecDepth 100000

theorem own : ownKnob Tryz.prog.godebug = none := by kernel_rfl
theorem kids : Kids Tryz.prog (· < Tryz.prog.types.size) := kids_rows (by kernel_rfl) (by kernel_rfl)
theorem full : ∀ t e, t < Tryz.prog.types.size -> Tryz.prog.underlying t = some (.slice e) -> 0 < Tryz.prog.cellsOf e := slices_full_of Tryz.prog (by kernel_rfl)

theorem walk (i : Sx.zy) (hc : Sx.tpC.du i) (w : World) {v0 v1 v2 : Value} (hv : Sx.im (Sx.E0 w) (Sx.tpC.pat i) [v0, v1, v2]) :
    Calls Tryz.prog 3 #[v0, v1, v2] w λe w' => e = .returned (.bool true) /\ Below w.heap.size w w' := by
  have hG := Sx.dz Sx.GA (Sx.dz Sx.Mn (Sx.dz Sx.Dz (Sx.dz Sx.LX (Sx.dz Sx.LZ (Sx.dz Sx.Ge (Sx.dz Sx.DB (Sx.dz Sx.Mm (Sx.dz Sx.IF (Sx.dz Sx.Gy (Sx.dz Sx.GG (Sx.dz Sx.BX (Sx.dz Sx.Tm Sx.fx))))))))))))
  refine (Sx.Ai (ys := [v0, v1, v2]) Sx.mixed _ hG 1 (Sx.tiJ i) (Sx.tiA i) Tryz.func3 (by kernel_rfl) (by kernel_rfl) (by kernel_rfl) (Eq.mp (Sx.aaZ i) (Sx.vti i hc)) (λg hg => by cases hg) hv).mono ?_
  rintro e w' ⟨y, rfl, hb, a, ha, o, _, E', hv⟩
  obtain rfl := List.mem_singleton.1 ha
  simp only [Sx.VR, Sx.DR] at hv
  exact ⟨by rw [hv.1], hb⟩

theorem sb_of (s : ByteArray) : ∃ l, Sx.sb l = s := ⟨s.data.toList, by cases s; simp [Sx.sb]⟩
theorem ints {m : Nat} {t e : TypeId} {ds : List Sx.D} (hu : Tryz.prog.underlying t = some (.slice e)) (he : Tryz.prog.underlying e = some (.int .i64)) (hc : Tryz.prog.cellsOf e = 1) (h : Sx.xm Tryz.prog (m + 1) t ds) :
    ∃ l : List Int, ds = [.ro 1 (Sx.iE l)] /\ l.length <= maxLen := by
  obtain ⟨fh, rfl, h1, h2⟩ := Sx.Ef hu h
  obtain ⟨l, rfl, _⟩ := Sx.AV (f := λn => [Sx.D.v (.int .i64 n)]) (Q := λn => (Lit.int .i64 n).wf = true) λel qf => Sx.jw he (h2 el qf)
  rw [hc]
  exact ⟨l, rfl, by rw [List.length_map] at h1; exact h1⟩

theorem prd {ds : List Sx.D} (h : Sx.CF (Sx.xm Tryz.prog 2) [9, 22, 2, 2, 2, 2, 3, 2, 2, 2, 23] ds) :
    ∃ x : Sx.fj, Sx.V.agg (ds.map .d) = Sx.oa x /\ x.raw := by
  have i1 : Tryz.prog.cellsOf 3 = 1 := by kernel_rfl
  have i2 : Tryz.prog.cellsOf 2 = 1 := by kernel_rfl
  obtain ⟨_, _, rfl, s0, _, _, rfl, s1, _, _, rfl, s2, _, _, rfl, s3, _, _, rfl, s4, _, _, rfl, s5, _, _, rfl, s6, _, _, rfl, s7, _, _, rfl, s8, _, _, rfl, s9, _, _, rfl, s10, rfl⟩ := h
  obtain ⟨c, rfl, _⟩ := Sx.ze Tryz.underlying9 s0
  obtain ⟨code, rfl⟩ := sb_of c
  obtain ⟨ms, rfl, hm⟩ := ints Tryz.underlying22 Tryz.underlying3 i1 s1
  obtain ⟨n2, rfl, w2⟩ := Sx.jw Tryz.underlying2 s2
  obtain ⟨n3, rfl, w3⟩ := Sx.jw Tryz.underlying2 s3
  obtain ⟨n4, rfl, w4⟩ := Sx.jw Tryz.underlying2 s4
  obtain ⟨n5, rfl, w5⟩ := Sx.jw Tryz.underlying2 s5
  obtain ⟨n6, rfl, w6⟩ := Sx.jw Tryz.underlying3 s6
  obtain ⟨n7, rfl, w7⟩ := Sx.jw Tryz.underlying2 s7
  obtain ⟨n8, rfl, w8⟩ := Sx.jw Tryz.underlying2 s8
  obtain ⟨n9, rfl, w9⟩ := Sx.jw Tryz.underlying2 s9
  obtain ⟨se, rfl, _⟩ := ints Tryz.underlying23 Tryz.underlying2 i2 s10
  have AE : ms.length <= 9223372036854775807 := by unfold maxLen at hm; omega
  exact ⟨⟨code, ms, n2, n3, n4, n5, n6, n7, n8, n9, se⟩, rfl, bounds_i64 w2, bounds_i64 w5, bounds_i64 w6, bounds_i64 w7, bounds_i64 w8, bounds_i64 w9, AE⟩
theorem cmd {ds : List Sx.D} (h : Sx.CF (Sx.xm Tryz.prog 1) [3, 2, 3, 3, 2, 2, 2, 3, 9] ds) : ∃ c : Sx.ir, ds = Sx.Af c /\ c.raw := by
  obtain ⟨_, _, rfl, s0, _, _, rfl, s1, _, _, rfl, s2, _, _, rfl, s3, _, _, rfl, s4, _, _, rfl, s5, _, _, rfl, s6, _, _, rfl, s7, _, _, rfl, s8, rfl⟩ := h
  obtain ⟨n0, rfl, w0⟩ := Sx.jw Tryz.underlying3 s0
  obtain ⟨n1, rfl, w1⟩ := Sx.jw Tryz.underlying2 s1
  obtain ⟨n2, rfl, w2⟩ := Sx.jw Tryz.underlying3 s2
  obtain ⟨n3, rfl, w3⟩ := Sx.jw Tryz.underlying3 s3
  obtain ⟨n4, rfl, w4⟩ := Sx.jw Tryz.underlying2 s4
  obtain ⟨n5, rfl, w5⟩ := Sx.jw Tryz.underlying2 s5
  obtain ⟨n6, rfl, w6⟩ := Sx.jw Tryz.underlying2 s6
  obtain ⟨n7, rfl, w7⟩ := Sx.jw Tryz.underlying3 s7
  obtain ⟨c, rfl, _⟩ := Sx.ze Tryz.underlying9 s8
  obtain ⟨lab, rfl⟩ := sb_of c
  exact ⟨⟨n0, n1, n2, n3, n4, n5, n6, n7, lab⟩, rfl, bounds_i64 w0, bounds_i64 w1, bounds_i64 w2, bounds_i64 w3, bounds_i64 w4, bounds_i64 w5, bounds_i64 w6, bounds_i64 w7⟩


theorem lifted (os : Os) (started : os.Started) (H : Type) (enc : TypeId × Value -> H) :
    ReturnsInHanded {} Tryz.checked os 3 .any (Rows.topInOrderSpec.pre6 enc Tryz.prog Tryz.f3 Rows.topInOrderRow.domain false) (Rows.topInOrderSpec.post enc Tryz.prog Tryz.f3 false true false false) := by
  refine returnsInHanded_of_change (C := Tryz.checked) own started (by kernel_rfl) Tryz.func3
    (ChangeSpec.witness6 (enc := enc) (C := Tryz.checked) false ⟨#[], #[.agg #[.string ⟨#[]⟩, .slice none 0 0, .int .i64 0, .int .i64 0, .int .i64 0, .int .i64 0, .int .i64 0, .int .i64 0, .int .i64 0, .int .i64 0, .slice none 0 0], .slice none 0 0, .slice none 0 0], []⟩ 8 (by kernel_rfl) (by kernel_rfl) (by kernel_rfl) (by kernel_rfl)) ?_
  intro W base args ds gs before SR hW abg _
  have AO : ∀ (j : Nat) t v, Tryz.f3.params[j]? = some t -> args[j]? = some v -> Value.okWide Tryz.prog W .any base t v := SR
  have hW' := hW
  obtain ⟨p, q, hA0, hV, rfl, hfz, ry⟩ := hW
  have hA : DataW.TrodAll enc Tryz.prog W 0 (λ_ => true) true Tryz.f3.params.toList args.toList ds p := hA0
  rw [Tryz.params3] at hA AO
  have Lp : DataW.TrodAll enc Tryz.prog W 0 (λ_ => true) true [25, 26, 22] args.toList ds p := hA
  obtain ⟨al, Bm⟩ : ∃ al, al = args.toList := ⟨_, rfl⟩
  have NS := Lp
  rw [<- Bm] at NS
  obtain ⟨v0, vs0, d0, ds0, p0, q0, e0, rfl, rfl, h0, r0⟩ := trodAll_cons NS
  obtain ⟨v1, vs1, d1, ds1, p1, q1, e1, rfl, rfl, h1, r1⟩ := trodAll_cons r0
  obtain ⟨v2, vs2, d2, ds2, p2, q2, e2, rfl, rfl, h2, r2⟩ := trodAll_cons r1
  obtain ⟨n0, rfl, rfl⟩ := trodAll_nil r2
  have ot : args = #[v0, v1, v2] := by
    apply Array.ext'
    rw [<- Bm, e0, e1, e2, n0]
  subst ot
  clear Bm e0 e1 e2 n0 NS r0 r1 r2
  obtain ⟨rfl, rfl⟩ := trodVars_none hV
  obtain ⟨ds0, f0, g0⟩ := Sx.CN kids 2 (by decide +kernel) Tryz.underlying25 (by kernel_rfl) (AO 0 25 v0 rfl rfl) h0
  obtain ⟨a0, Wx, w0⟩ := prd f0
  obtain ⟨abj, g1, b1, c1⟩ := Sx.Az kids 2 (by decide +kernel) Tryz.underlying26 (by kernel_rfl) (AO 1 26 v1 rfl rfl) h1
  obtain ⟨a1, rfl, w1⟩ := Sx.AV (f := Sx.Af) (Q := Sx.ir.raw) λel qf => cmd (Sx.CM Tryz.underlying46 (c1 el qf))
  have z1 : Tryz.prog.cellsOf 46 = 9 := by kernel_rfl
  obtain ⟨abi, g2, b2, c2⟩ := Sx.Az kids 1 (by decide +kernel) Tryz.underlying22 (by kernel_rfl) (AO 2 22 v2 rfl rfl) h2
  obtain ⟨a2, rfl, w2⟩ := Sx.AV (f := λn => [Sx.D.v (.int .i64 n)]) (Q := Sx.ie) λel qf => by
    obtain ⟨n, rfl, w⟩ := Sx.jw Tryz.underlying3 (c2 el qf)
    exact ⟨n, rfl, bounds_i64 w⟩
  have z2 : Tryz.prog.cellsOf 3 = 1 := by kernel_rfl
  have iq := hW'.lt
  simp only [List.append_nil] at hW' iq Lp
  simp only [<- List.append_assoc] at Lp
  rw [Wx] at g0
  have gs1 : Sx.DR (Sx.E0 W).F (.ro 9 (a1.map Sx.Af)) v1 := z1 ▸ g1
  have l1 : a1.length <= 9223372036854775807 := by rw [List.length_map] at b1; unfold maxLen at b1; omega
  have gs2 : Sx.DR (Sx.E0 W).F (.ro 1 (Sx.iE a2)) v2 := z2 ▸ g2
  have l2 : a2.length <= 9223372036854775807 := by rw [List.length_map] at b2; unfold maxLen at b2; omega
  refine (walk ⟨a0, Sx.iw a0, a1, a2⟩ ⟨rfl, w0, w1, w2, l1, l2⟩ W (v0 := v0) (v1 := v1) (v2 := v2) ?_).mono λe W' ⟨he, hg⟩ => ?_
  · simp only [Sx.tpC, Sx.gh, Sx.im]
    exact ⟨_, _, rfl, g0, _, _, rfl, by simp only [Sx.VR]; exact gs1, _, _, rfl, by simp only [Sx.VR]; exact gs2, rfl⟩
  subst he
  refine ⟨_, rfl, Sx.Ah (pa := p0 ++ p1 ++ p2) (pv := []) hW' (λ_ _ _ => (trodAll_cons_mk (shut_bool Tryz.underlying4 _) trodAll_mk0)) (λsp te => ?_) (λ_ _ => rfl) (by simp)
    hg (ok_one (by kernel_rfl) rfl (okWide_bool_mk Tryz.underlying4 _))⟩
  simp only [<- List.append_assoc] at te
  exact Sx.Ay kids full hg (by decide +kernel) Lp (λx hx => iq x (by simpa using hx)) te

theorem and2 {a b : Bool} (h : a = true) (g : b = true) : (a && b) = true := by rw [h, g]; rfl
theorem k1 : (Rows.topInOrderRow.wf (OpenSpec.ofChange Rows.topInOrderSpec)) = true := by kernel_rfl
theorem k2 : (laidOutB Tryz.pinned.checked.prog) = true := by kernel_rfl
theorem k3 : (mapsRowed Tryz.pinned.checked.prog) = true := by kernel_rfl
theorem k4 : (Tryz.f3.params.all (Tryz.pinned.checked.prog.readableRec ·)) = true := by kernel_rfl
theorem k5 : (namedTie Tryz.pinned.checked.prog Rows.topInOrderRow.named Rows.topInOrderSpec.vars) = true := by kernel_rfl
theorem k6 : (Rows.topInOrderRow.stops == []) = true := by kernel_rfl
theorem k7 : (Tryz.pinned.checked.prog.stops == []) = true := by kernel_rfl
theorem k8 : (Rows.topInOrderRow.knobs == []) = true := by kernel_rfl
theorem k9 : (Tryz.pinned.checked.prog.stopKnobs == []) = true := by kernel_rfl
theorem k10 : (Rows.topInOrderRow.inPlace == Tryz.pinned.checked.prog.inPlace 3) = true := by kernel_rfl
theorem k11 : (Rows.topInOrderRow.unfollowed == Tryz.pinned.checked.prog.unfollowed 3) = true := by kernel_rfl
theorem k12 : (Rows.topInOrderRow.recurses == Tryz.pinned.checked.prog.recurses 3) = true := by kernel_rfl
theorem k13 : (Rows.topInOrderRow.named == Tryz.pinned.checked.prog.varsNamed 3) = true := by kernel_rfl
theorem k14 : (Rows.topInOrderRow.maps == (Tryz.f3.params.toList ++ Rows.topInOrderSpec.plain.varTypes Tryz.pinned.checked.prog).any (Tryz.pinned.checked.prog.mapsRec ·)) = true := by kernel_rfl
theorem k15 : (Rows.topInOrderRow.ifaces == (Tryz.f3.params.toList ++ Rows.topInOrderSpec.plain.varTypes Tryz.pinned.checked.prog).any (Tryz.pinned.checked.prog.ifacesRec ·)) = true := by kernel_rfl
theorem k16 : (Rows.topInOrderRow.mapsOut == Tryz.pinned.checked.prog.mapsAmong Tryz.f3.resultTypes.toList) = true := by kernel_rfl
theorem k17 : (Rows.topInOrderRow.loops == (Tryz.f3.params.toList ++ Rows.topInOrderSpec.plain.varTypes Tryz.pinned.checked.prog).any (Tryz.pinned.checked.prog.loopsFrom ·)) = true := by kernel_rfl
theorem k18 : (Rows.topInOrderRow.wideKeys == (Tryz.f3.params.toList ++ Rows.topInOrderSpec.plain.varTypes Tryz.pinned.checked.prog ++ Tryz.f3.resultTypes.toList).any (Tryz.pinned.checked.prog.wideKeysFrom ·)) = true := by kernel_rfl
theorem k19 : (Rows.topInOrderSpec.vars.all (Tryz.pinned.checked.prog.varReadable ·)) = true := by kernel_rfl
theorem k20 : (Tryz.f3.resultTypes.all (λt => Tryz.pinned.checked.prog.readableRec t && decide (t < Tryz.pinned.checked.prog.types.size))) = true := by kernel_rfl
theorem k21 : (Rows.topInOrderRow.ifacesOut == Tryz.f3.resultTypes.toList.any (Tryz.pinned.checked.prog.ifacesRec ·)) = true := by kernel_rfl
theorem k22 : (Rows.topInOrderRow.loopsOut == Tryz.f3.resultTypes.toList.any (Tryz.pinned.checked.prog.loopsFrom ·)) = true := by kernel_rfl
theorem k23 : (Rows.topInOrderRow.plainKeys == Tryz.pinned.checked.prog.plainKeys) = true := by kernel_rfl
theorem k24 : (Rows.topInOrderRow.shortTexts.isNone) = true := by kernel_rfl
theorem k25 : (Tryz.pinned.checked.prog.stopsHeard) = true := by kernel_rfl
theorem k26 : (Tryz.pinned.checked.prog.mayEnter) = true := by kernel_rfl
theorem k27 : (Rows.topInOrderRow.lifted == Tryz.pinned.checked.prog.liftsFinal) = true := by kernel_rfl
theorem k28 : (Tryz.pinned.checked.prog.make == some Rows.topInOrderRow.make) = true := by kernel_rfl
theorem k29 : (Rows.topInOrderRow.kinds == (if Rows.topInOrderRow.domain.isEmpty then [] else Tryz.f3.params.toList.map λt => match Tryz.pinned.checked.prog.underlying t with | some (.int k) => some k | _ => none)) = true := by kernel_rfl
theorem k30 : (Rows.topInOrderRow.pinned == Rows.topInOrderRow.pinnedBy) = true := by kernel_rfl
theorem k31 : (Rows.topInOrderRow.veiled == (Tryz.f3.params.toList ++ Rows.topInOrderSpec.plain.varTypes Tryz.pinned.checked.prog ++ Tryz.f3.resultTypes.toList).any (Tryz.pinned.checked.prog.veiledRec ·)) = true := by kernel_rfl
theorem k32 : (Rows.topInOrderRow.veiledFits Tryz.pinned.checked.prog Tryz.f3.params.toList (Tryz.f3.params.toList ++ Rows.topInOrderSpec.plain.varTypes Tryz.pinned.checked.prog ++ Tryz.f3.resultTypes.toList)) = true := by kernel_rfl
theorem closed : joinedFacts Tryz.pinned.checked.prog 3 Tryz.f3 Rows.topInOrderSpec Rows.topInOrderRow = true := by
  unfold joinedFacts
  exact and2 (and2 (and2 (and2 (and2 (and2 (and2 (and2 (and2 (and2 (and2 (and2 (and2 (and2 (and2 (and2 (and2 (and2 (and2 (and2 (and2 (and2 (and2 (and2 (and2 (and2 (and2 (and2 (and2 (and2 (and2 k1 k2) k3) k4) k5) k6) k7) k8) k9) k10) k11) k12) k13) k14) k15) k16) k17) k18) k19) k20) k21) k22) k23) k24) k25) k26) k27) k28) k29) k30) k31) k32
theorem named : Tryz.pinned.checked.prog.funcNamed Rows.topInOrderRow.func = some 3 := by kernel_rfl
theorem inst : Tryz.f3.isInstance Tryz.pinned.checked.prog Rows.topInOrderRow.origin Rows.topInOrderRow.targs := of_decide_eq_true (by kernel_rfl)
theorem wrap : Tryz.f3.isWrapper Tryz.pinned.checked.prog Rows.topInOrderRow.wrapper Rows.topInOrderRow.mainSum := by
  unfold Func.isWrapper
  first | (rw [if_pos (by decide +kernel)]; kernel_rfl) | (rw [if_neg (by decide +kernel)]; exact ⟨rfl, rfl⟩)
theorem over : Rows.topInOrderRow.holds Tryz.pinned (OpenSpec.ofChange Rows.topInOrderSpec) :=
  OpenClaim.holds_of_wide 3 Tryz.f3 rfl rfl rfl rfl rfl rfl rfl ⟨rfl, rfl, rfl, rfl, rfl⟩ rfl rfl rfl rfl rfl named Tryz.func3 closed
    inst wrap
    (λos started H enc _ => lifted os started H enc)

/-- The statement. -/
theorem proved : Rows.TopInOrderSaid :=
  over
#print axioms proved
end Go.Proofs.YtgmmlhddihaocaaGreat.topInOrder
