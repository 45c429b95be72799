/- TopCrash returns true, for every product, commands, sessions and two numbers; they read as before. No condition. -/
import Derived.Test.YtaafldgiafcgfaaGreatC15
import Derived.Test.YtaafldgiafcgfaaGreatRows
import Derived.WalkKit
import Derived.ProofKit
import Derived.OpenShut
import Derived.SizedLaws
namespace Go.Proofs.YtaafldgiafcgfaaGreat.topCrash
open Go.ChangeShapes Go.WideShapes Go.ChangeAt Go.RowKit
set_option linter.unusedVariables false
set_option maxRecDepth 100000

theorem own : ownKnob Tryz.prog.godebug = none := by kernel_rfl
theorem kids : Kids Tryz.prog (· < Tryz.prog.types.size) := kids_rows (by kernel_rfl) (by kernel_rfl)
theorem full : ∀ t e, t < Tryz.prog.types.size -> Tryz.prog.underlying t = some (.slice e) -> 0 < Tryz.prog.cellsOf e := slices_full_of Tryz.prog (by kernel_rfl)

theorem walk (i : Sx.TcI) (hc : Sx.tcC.cnd i) (w : World) {v0 v1 v2 v3 v4 : Value} (hv : Sx.VRL (Sx.E0 w) (Sx.tcC.pat i) [v0, v1, v2, v3, v4]) :
    Calls Tryz.prog 3 #[v0, v1, v2, v3, v4] w λe w' => e = .returned (.bool true) /\ Below w.heap.size w w' := by
  have hG := Sx.gokc Sx.kprod_ok (Sx.gokc Sx.fre_ok (Sx.gokc Sx.esn_ok (Sx.gokc Sx.within_ok (Sx.gokc Sx.who_ok (Sx.gokc Sx.tby_ok (Sx.gokc Sx.edo_ok (Sx.gokc Sx.jsyn_ok (Sx.gokc Sx.dcra_ok (Sx.gokc Sx.eop_ok (Sx.gokc Sx.aw_ok Sx.gok0))))))))))
  refine (Sx.calls_of_walk (ys := [v0, v1, v2, v3, v4]) Sx.mixed _ hG 1 (Sx.tcJ i) (Sx.tcA i) Tryz.func3 (by kernel_rfl) (by kernel_rfl) (by kernel_rfl) (Eq.mp (Sx.eqtc i) (Sx.vtc i hc)) (λg hg => by cases hg) hv).mono ?_
  rintro e w' ⟨y, rfl, hb, a, ha, o, _, E', hv⟩
  obtain rfl := List.mem_singleton.1 ha
  simp only [Sx.VR, Sx.DR] at hv
  exact ⟨by rw [hv.1], hb⟩

theorem sb_of (s : ByteArray) : ∃ l, Sx.sb l = s := ⟨s.data.toList, by cases s; simp [Sx.sb]⟩
theorem ints {m : Nat} {t e : TypeId} {ds : List Sx.D} (hu : Tryz.prog.underlying t = some (.slice e)) (he : Tryz.prog.underlying e = some (.int .i64)) (hc : Tryz.prog.cellsOf e = 1) (h : Sx.Shp Tryz.prog (m + 1) t ds) :
    ∃ l : List Int, ds = [.ro 1 (Sx.iE l)] /\ l.length <= maxLen := by
  obtain ⟨els, rfl, h1, h2⟩ := Sx.shp_slice hu h
  obtain ⟨l, rfl, _⟩ := Sx.map_of (f := λn => [Sx.D.v (.int .i64 n)]) (Q := λn => (Lit.int .i64 n).wf = true) λel hel => Sx.shp_int he (h2 el hel)
  rw [hc]
  exact ⟨l, rfl, by rw [List.length_map] at h1; exact h1⟩

theorem prd {ds : List Sx.D} (h : Sx.ShpF (Sx.Shp Tryz.prog 2) [9, 22, 2, 2, 2, 2, 3, 2, 2, 2, 23] ds) :
    ∃ x : Sx.Prd, Sx.V.agg (ds.map .d) = Sx.prdV x /\ x.raw := by
  have i1 : Tryz.prog.cellsOf 3 = 1 := by kernel_rfl
  have i2 : Tryz.prog.cellsOf 2 = 1 := by kernel_rfl
  obtain ⟨_, _, rfl, s0, _, _, rfl, s1, _, _, rfl, s2, _, _, rfl, s3, _, _, rfl, s4, _, _, rfl, s5, _, _, rfl, s6, _, _, rfl, s7, _, _, rfl, s8, _, _, rfl, s9, _, _, rfl, s10, rfl⟩ := h
  obtain ⟨c, rfl, _⟩ := Sx.shp_string Tryz.underlying9 s0
  obtain ⟨code, rfl⟩ := sb_of c
  obtain ⟨ms, rfl, hm⟩ := ints Tryz.underlying22 Tryz.underlying3 i1 s1
  obtain ⟨n2, rfl, w2⟩ := Sx.shp_int Tryz.underlying2 s2
  obtain ⟨n3, rfl, w3⟩ := Sx.shp_int Tryz.underlying2 s3
  obtain ⟨n4, rfl, w4⟩ := Sx.shp_int Tryz.underlying2 s4
  obtain ⟨n5, rfl, w5⟩ := Sx.shp_int Tryz.underlying2 s5
  obtain ⟨n6, rfl, w6⟩ := Sx.shp_int Tryz.underlying3 s6
  obtain ⟨n7, rfl, w7⟩ := Sx.shp_int Tryz.underlying2 s7
  obtain ⟨n8, rfl, w8⟩ := Sx.shp_int Tryz.underlying2 s8
  obtain ⟨n9, rfl, w9⟩ := Sx.shp_int Tryz.underlying2 s9
  obtain ⟨se, rfl, _⟩ := ints Tryz.underlying23 Tryz.underlying2 i2 s10
  have hm' : ms.length <= 9223372036854775807 := by unfold maxLen at hm; omega
  exact ⟨⟨code, ms, n2, n3, n4, n5, n6, n7, n8, n9, se⟩, rfl, bounds_i64 w2, bounds_i64 w5, bounds_i64 w6, bounds_i64 w7, bounds_i64 w8, bounds_i64 w9, hm'⟩
theorem cmd {ds : List Sx.D} (h : Sx.ShpF (Sx.Shp Tryz.prog 1) [3, 2, 3, 3, 2, 2, 2, 3, 9] ds) : ∃ c : Sx.Cmd, ds = Sx.cmdE c /\ c.raw := by
  obtain ⟨_, _, rfl, s0, _, _, rfl, s1, _, _, rfl, s2, _, _, rfl, s3, _, _, rfl, s4, _, _, rfl, s5, _, _, rfl, s6, _, _, rfl, s7, _, _, rfl, s8, rfl⟩ := h
  obtain ⟨n0, rfl, w0⟩ := Sx.shp_int Tryz.underlying3 s0
  obtain ⟨n1, rfl, w1⟩ := Sx.shp_int Tryz.underlying2 s1
  obtain ⟨n2, rfl, w2⟩ := Sx.shp_int Tryz.underlying3 s2
  obtain ⟨n3, rfl, w3⟩ := Sx.shp_int Tryz.underlying3 s3
  obtain ⟨n4, rfl, w4⟩ := Sx.shp_int Tryz.underlying2 s4
  obtain ⟨n5, rfl, w5⟩ := Sx.shp_int Tryz.underlying2 s5
  obtain ⟨n6, rfl, w6⟩ := Sx.shp_int Tryz.underlying2 s6
  obtain ⟨n7, rfl, w7⟩ := Sx.shp_int Tryz.underlying3 s7
  obtain ⟨c, rfl, _⟩ := Sx.shp_string Tryz.underlying9 s8
  obtain ⟨lab, rfl⟩ := sb_of c
  exact ⟨⟨n0, n1, n2, n3, n4, n5, n6, n7, lab⟩, rfl, bounds_i64 w0, bounds_i64 w1, bounds_i64 w2, bounds_i64 w3, bounds_i64 w4, bounds_i64 w5, bounds_i64 w6, bounds_i64 w7⟩


theorem lifted (os : Os) (started : os.Started) (H : Type) (enc : TypeId × Value -> H) :
    ReturnsInHanded {} Tryz.checked os 3 .any (Rows.topCrashSpec.pre6 enc Tryz.prog Tryz.f3 Rows.topCrashRow.domain false) (Rows.topCrashSpec.post enc Tryz.prog Tryz.f3 false true false false) := by
  refine returnsInHanded_of_change (C := Tryz.checked) own started (by kernel_rfl) Tryz.func3
    (ChangeSpec.witness6 (enc := enc) (C := Tryz.checked) false ⟨#[], #[.agg #[.string ⟨#[]⟩, .slice none 0 0, .int .i64 0, .int .i64 0, .int .i64 0, .int .i64 0, .int .i64 0, .int .i64 0, .int .i64 0, .int .i64 0, .slice none 0 0], .slice none 0 0, .slice none 0 0, .int .i64 0, .int .i64 0], []⟩ 8 (by kernel_rfl) (by kernel_rfl) (by kernel_rfl) (by kernel_rfl)) ?_
  intro W base args ds gs before hval0 hW hcnd _
  have hval : ∀ (j : Nat) t v, Tryz.f3.params[j]? = some t -> args[j]? = some v -> Value.okWide Tryz.prog W .any base t v := hval0
  have hW' := hW
  obtain ⟨p, q, hA0, hV, rfl, hfz, hnd⟩ := hW
  have hA : DataW.TrodAll enc Tryz.prog W 0 (λ_ => true) true Tryz.f3.params.toList args.toList ds p := hA0
  rw [Tryz.params3] at hA hval
  have hA1 : DataW.TrodAll enc Tryz.prog W 0 (λ_ => true) true [25, 26, 22, 3, 3] args.toList ds p := hA
  obtain ⟨al, hal⟩ : ∃ al, al = args.toList := ⟨_, rfl⟩
  have hA2 := hA1
  rw [<- hal] at hA2
  obtain ⟨v0, vs0, d0, ds0, p0, q0, e0, rfl, rfl, h0, r0⟩ := trodAll_cons hA2
  obtain ⟨v1, vs1, d1, ds1, p1, q1, e1, rfl, rfl, h1, r1⟩ := trodAll_cons r0
  obtain ⟨v2, vs2, d2, ds2, p2, q2, e2, rfl, rfl, h2, r2⟩ := trodAll_cons r1
  obtain ⟨v3, vs3, d3, ds3, p3, q3, e3, rfl, rfl, h3, r3⟩ := trodAll_cons r2
  obtain ⟨v4, vs4, d4, ds4, p4, q4, e4, rfl, rfl, h4, r4⟩ := trodAll_cons r3
  obtain ⟨n0, rfl, rfl⟩ := trodAll_nil r4
  have hargs : args = #[v0, v1, v2, v3, v4] := by
    apply Array.ext'
    rw [<- hal, e0, e1, e2, e3, e4, n0]
  subst hargs
  clear hal e0 e1 e2 e3 e4 n0 hA2 r0 r1 r2 r3 r4
  obtain ⟨rfl, rfl⟩ := trodVars_none hV
  obtain ⟨ds0, f0, g0⟩ := Sx.arg_struct kids 2 (by decide +kernel) Tryz.underlying25 (by kernel_rfl) (hval 0 25 v0 rfl rfl) h0
  obtain ⟨a0, hx0, w0⟩ := prd f0
  obtain ⟨els1, g1, b1, c1⟩ := Sx.arg_slice kids 2 (by decide +kernel) Tryz.underlying26 (by kernel_rfl) (hval 1 26 v1 rfl rfl) h1
  obtain ⟨a1, rfl, w1⟩ := Sx.map_of (f := Sx.cmdE) (Q := Sx.Cmd.raw) λel hel => cmd (Sx.shp_struct Tryz.underlying44 (c1 el hel))
  have z1 : Tryz.prog.cellsOf 44 = 9 := by kernel_rfl
  obtain ⟨els2, g2, b2, c2⟩ := Sx.arg_slice kids 1 (by decide +kernel) Tryz.underlying22 (by kernel_rfl) (hval 2 22 v2 rfl rfl) h2
  obtain ⟨a2, rfl, w2⟩ := Sx.map_of (f := λn => [Sx.D.v (.int .i64 n)]) (Q := Sx.i64r) λel hel => by
    obtain ⟨n, rfl, w⟩ := Sx.shp_int Tryz.underlying3 (c2 el hel)
    exact ⟨n, rfl, bounds_i64 w⟩
  have z2 : Tryz.prog.cellsOf 3 = 1 := by kernel_rfl
  obtain ⟨a3, rfl, rfl, rfl, w3⟩ := open_int Tryz.underlying3 (hval 3 3 v3 rfl rfl) h3
  obtain ⟨a4, rfl, rfl, rfl, w4⟩ := open_int Tryz.underlying3 (hval 4 3 v4 rfl rfl) h4
  have hlt := hW'.lt
  simp only [List.append_nil] at hW' hlt hA1
  simp only [<- List.append_assoc] at hA1
  rw [hx0] at g0
  have gs1 : Sx.DR (Sx.E0 W).F (.ro 9 (a1.map Sx.cmdE)) v1 := z1 ▸ g1
  have l1 : a1.length <= 9223372036854775807 := by rw [List.length_map] at b1; unfold maxLen at b1; omega
  have gs2 : Sx.DR (Sx.E0 W).F (.ro 1 (Sx.iE a2)) v2 := z2 ▸ g2
  have l2 : a2.length <= 9223372036854775807 := by rw [List.length_map] at b2; unfold maxLen at b2; omega
  refine (walk ⟨a0, Sx.kprod a0, a1, a2, a3, a4⟩ ⟨⟨rfl, w0, w1, w2, l1, l2⟩, bounds_i64 w3, bounds_i64 w4⟩ W (v0 := v0) (v1 := v1) (v2 := v2)   ?_).mono λe W' ⟨he, hg⟩ => ?_
  · simp only [Sx.tcC, Sx.con1, Sx.VRL]
    exact ⟨_, _, rfl, g0, _, _, rfl, by simp only [Sx.VR]; exact gs1, _, _, rfl, by simp only [Sx.VR]; exact gs2, _, _, rfl, by simp only [Sx.VR, Sx.DR]; refine ⟨?_, ?_⟩ <;> first | trivial | rfl, _, _, rfl, by simp only [Sx.VR, Sx.DR]; refine ⟨?_, ?_⟩ <;> first | trivial | rfl, rfl⟩
  subst he
  refine ⟨_, rfl, Sx.post_of_below (pa := p0 ++ p1 ++ p2) (pv := []) hW' (λ_ _ _ => (trodAll_cons_mk (shut_bool Tryz.underlying4 _) trodAll_mk0)) (λsp hsp => ?_) (λ_ _ => rfl) (by simp)
    hg (ok_one (by kernel_rfl) rfl (okWide_bool_mk Tryz.underlying4 _))⟩
  simp only [<- List.append_assoc] at hsp
  exact Sx.args_stay kids full hg (by decide +kernel) hA1 (λx hx => hlt x (by simpa using hx)) hsp

theorem and2 {a b : Bool} (h : a = true) (g : b = true) : (a && b) = true := by rw [h, g]; rfl
theorem k1 : (Rows.topCrashRow.wf (OpenSpec.ofChange Rows.topCrashSpec)) = true := by kernel_rfl
theorem k2 : (laidOutB Tryz.pinned.checked.prog) = true := by kernel_rfl
theorem k3 : (mapsRowed Tryz.pinned.checked.prog) = true := by kernel_rfl
theorem k4 : (Tryz.f3.params.all (Tryz.pinned.checked.prog.readableRec ·)) = true := by kernel_rfl
theorem k5 : (namedTie Tryz.pinned.checked.prog Rows.topCrashRow.named Rows.topCrashSpec.vars) = true := by kernel_rfl
theorem k6 : (Rows.topCrashRow.stops == []) = true := by kernel_rfl
theorem k7 : (Tryz.pinned.checked.prog.stops == []) = true := by kernel_rfl
theorem k8 : (Rows.topCrashRow.knobs == []) = true := by kernel_rfl
theorem k9 : (Tryz.pinned.checked.prog.stopKnobs == []) = true := by kernel_rfl
theorem k10 : (Rows.topCrashRow.inPlace == Tryz.pinned.checked.prog.inPlace 3) = true := by kernel_rfl
theorem k11 : (Rows.topCrashRow.unfollowed == Tryz.pinned.checked.prog.unfollowed 3) = true := by kernel_rfl
theorem k12 : (Rows.topCrashRow.recurses == Tryz.pinned.checked.prog.recurses 3) = true := by kernel_rfl
theorem k13 : (Rows.topCrashRow.named == Tryz.pinned.checked.prog.varsNamed 3) = true := by kernel_rfl
theorem k14 : (Rows.topCrashRow.maps == (Tryz.f3.params.toList ++ Rows.topCrashSpec.plain.varTypes Tryz.pinned.checked.prog).any (Tryz.pinned.checked.prog.mapsRec ·)) = true := by kernel_rfl
theorem k15 : (Rows.topCrashRow.ifaces == (Tryz.f3.params.toList ++ Rows.topCrashSpec.plain.varTypes Tryz.pinned.checked.prog).any (Tryz.pinned.checked.prog.ifacesRec ·)) = true := by kernel_rfl
theorem k16 : (Rows.topCrashRow.mapsOut == Tryz.pinned.checked.prog.mapsAmong Tryz.f3.resultTypes.toList) = true := by kernel_rfl
theorem k17 : (Rows.topCrashRow.loops == (Tryz.f3.params.toList ++ Rows.topCrashSpec.plain.varTypes Tryz.pinned.checked.prog).any (Tryz.pinned.checked.prog.loopsFrom ·)) = true := by kernel_rfl
theorem k18 : (Rows.topCrashRow.wideKeys == (Tryz.f3.params.toList ++ Rows.topCrashSpec.plain.varTypes Tryz.pinned.checked.prog ++ Tryz.f3.resultTypes.toList).any (Tryz.pinned.checked.prog.wideKeysFrom ·)) = true := by kernel_rfl
theorem k19 : (Rows.topCrashSpec.vars.all (Tryz.pinned.checked.prog.varReadable ·)) = true := by kernel_rfl
theorem k20 : (Tryz.f3.resultTypes.all (λt => Tryz.pinned.checked.prog.readableRec t && decide (t < Tryz.pinned.checked.prog.types.size))) = true := by kernel_rfl
theorem k21 : (Rows.topCrashRow.ifacesOut == Tryz.f3.resultTypes.toList.any (Tryz.pinned.checked.prog.ifacesRec ·)) = true := by kernel_rfl
theorem k22 : (Rows.topCrashRow.loopsOut == Tryz.f3.resultTypes.toList.any (Tryz.pinned.checked.prog.loopsFrom ·)) = true := by kernel_rfl
theorem k23 : (Rows.topCrashRow.plainKeys == Tryz.pinned.checked.prog.plainKeys) = true := by kernel_rfl
theorem k24 : (Rows.topCrashRow.shortTexts.isNone) = true := by kernel_rfl
theorem k25 : (Tryz.pinned.checked.prog.stopsHeard) = true := by kernel_rfl
theorem k26 : (Tryz.pinned.checked.prog.mayEnter) = true := by kernel_rfl
theorem k27 : (Rows.topCrashRow.lifted == Tryz.pinned.checked.prog.liftsFinal) = true := by kernel_rfl
theorem k28 : (Tryz.pinned.checked.prog.make == some Rows.topCrashRow.make) = true := by kernel_rfl
theorem k29 : (Rows.topCrashRow.kinds == (if Rows.topCrashRow.domain.isEmpty then [] else Tryz.f3.params.toList.map λt => match Tryz.pinned.checked.prog.underlying t with | some (.int k) => some k | _ => none)) = true := by kernel_rfl
theorem k30 : (Rows.topCrashRow.pinned == Rows.topCrashRow.pinnedBy) = true := by kernel_rfl
theorem k31 : (Rows.topCrashRow.veiled == (Tryz.f3.params.toList ++ Rows.topCrashSpec.plain.varTypes Tryz.pinned.checked.prog ++ Tryz.f3.resultTypes.toList).any (Tryz.pinned.checked.prog.veiledRec ·)) = true := by kernel_rfl
theorem k32 : (Rows.topCrashRow.veiledFits Tryz.pinned.checked.prog Tryz.f3.params.toList (Tryz.f3.params.toList ++ Rows.topCrashSpec.plain.varTypes Tryz.pinned.checked.prog ++ Tryz.f3.resultTypes.toList)) = true := by kernel_rfl
theorem closed : joinedFacts Tryz.pinned.checked.prog 3 Tryz.f3 Rows.topCrashSpec Rows.topCrashRow = true := by
  unfold joinedFacts
  exact and2 (and2 (and2 (and2 (and2 (and2 (and2 (and2 (and2 (and2 (and2 (and2 (and2 (and2 (and2 (and2 (and2 (and2 (and2 (and2 (and2 (and2 (and2 (and2 (and2 (and2 (and2 (and2 (and2 (and2 (and2 k1 k2) k3) k4) k5) k6) k7) k8) k9) k10) k11) k12) k13) k14) k15) k16) k17) k18) k19) k20) k21) k22) k23) k24) k25) k26) k27) k28) k29) k30) k31) k32
theorem named : Tryz.pinned.checked.prog.funcNamed Rows.topCrashRow.func = some 3 := by kernel_rfl
theorem inst : Tryz.f3.isInstance Tryz.pinned.checked.prog Rows.topCrashRow.origin Rows.topCrashRow.targs := of_decide_eq_true (by kernel_rfl)
theorem wrap : Tryz.f3.isWrapper Tryz.pinned.checked.prog Rows.topCrashRow.wrapper Rows.topCrashRow.mainSum := by
  unfold Func.isWrapper
  first | (rw [if_pos (by decide +kernel)]; kernel_rfl) | (rw [if_neg (by decide +kernel)]; exact ⟨rfl, rfl⟩)
theorem over : Rows.topCrashRow.holds Tryz.pinned (OpenSpec.ofChange Rows.topCrashSpec) :=
  OpenClaim.holds_of_wide 3 Tryz.f3 rfl rfl rfl rfl rfl rfl rfl ⟨rfl, rfl, rfl, rfl, rfl⟩ rfl rfl rfl rfl rfl named Tryz.func3 closed
    inst wrap
    (λos started H enc _ => lifted os started H enc)

/-- The statement. -/
theorem proved : Rows.TopCrashSaid :=
  over
#print axioms proved
end Go.Proofs.YtaafldgiafcgfaaGreat.topCrash
