/- AuditTurned returns true, for every product and commands; they read as before. No condition. -/
import Derived.Test.YtpgpnnncaidcjaaGreatB12
import Derived.Test.YtpgpnnncaidcjaaGreatRows
import Derived.WalkKit
import Derived.ProofKit
import Derived.OpenShut
namespace Go.Proofs.YtpgpnnncaidcjaaGreat.auditTurned
open Go.ChangeShapes Go.WideShapes Go.ChangeAt Go.RowKit
set_option linter.unusedVariables false
set_option maxRecDepth 100000

theorem own : ownKnob Tryz.prog.godebug = none := by kernel_rfl
theorem kids : Kids Tryz.prog (· < Tryz.prog.types.size) := kids_rows (by kernel_rfl) (by kernel_rfl)
theorem full : ∀ t e, t < Tryz.prog.types.size → Tryz.prog.underlying t = some (.slice e) → 0 < Tryz.prog.cellsOf e := slices_full_of Tryz.prog (by kernel_rfl)

theorem walk (i : Sx.TuI) (hc : Sx.tuC.cnd i) (w : World) {v0 v1 v2 v3 : Value} (hv : Sx.VRL (Sx.E0 w) (Sx.tuC.pat i) [v0, v1, v2, v3]) :
    Calls Tryz.prog 8 #[v0, v1, v2, v3] w fun e w' => e = .returned (.bool true) ∧ Below w.heap.size w w' := by
  have hG := Sx.gokc Sx.kprod_ok (Sx.gokc Sx.newM_ok (Sx.gokc Sx.tame_ok (Sx.gokc Sx.do_ok (Sx.gokc Sx.reportsO_ok (Sx.gokc Sx.withinB_ok (Sx.gokc Sx.known25_ok Sx.gok0))))))
  refine (Sx.calls_of_walk (ys := [v0, v1, v2, v3]) Sx.mixed _ hG 0 Sx.tuJ Sx.tuA Tryz.func8 (by kernel_rfl) (by kernel_rfl) (by kernel_rfl) (Eq.mp (Sx.eqtu i) (Sx.vtu i hc)) (fun g hg => by cases hg) hv).mono ?_
  rintro e w' ⟨y, rfl, hb, a, ha, o, _, E', hv⟩
  obtain rfl := List.mem_singleton.1 ha
  simp only [Sx.VR, Sx.DR] at hv
  exact ⟨by rw [hv.1], hb⟩

theorem sb_of (s : ByteArray) : ∃ l, Sx.sb l = s := ⟨s.data.toList, by cases s; simp [Sx.sb]⟩
theorem ints {m : Nat} {t e : TypeId} {ds : List Sx.D} (hu : Tryz.prog.underlying t = some (.slice e)) (he : Tryz.prog.underlying e = some (.int .i64)) (hc : Tryz.prog.cellsOf e = 1) (h : Sx.Shp Tryz.prog (m + 1) t ds) :
    ∃ l : List Int, ds = [.ro 1 (Sx.iE l)] ∧ l.length ≤ maxLen := by
  obtain ⟨els, rfl, h1, h2⟩ := Sx.shp_slice hu h
  obtain ⟨l, rfl, _⟩ := Sx.map_of (f := fun n => [Sx.D.v (.int .i64 n)]) (Q := fun n => (Lit.int .i64 n).wf = true) fun el hel => Sx.shp_int he (h2 el hel)
  rw [hc]
  exact ⟨l, rfl, by rw [List.length_map] at h1; exact h1⟩

theorem prd {ds : List Sx.D} (h : Sx.ShpF (Sx.Shp Tryz.prog 2) [9, 22, 2, 2, 2, 2, 3, 2, 2, 2, 27] ds) :
    ∃ x : Sx.Prd, Sx.V.agg (ds.map .d) = Sx.prdV x ∧ x.raw := by
  have i1 : Tryz.prog.cellsOf 3 = 1 := by kernel_rfl
  have i2 : Tryz.prog.cellsOf 2 = 1 := by kernel_rfl
  obtain ⟨_, _, rfl, s0, _, _, rfl, s1, _, _, rfl, s2, _, _, rfl, s3, _, _, rfl, s4, _, _, rfl, s5, _, _, rfl, s6, _, _, rfl, s7, _, _, rfl, s8, _, _, rfl, s9, _, _, rfl, s10, rfl⟩ := h
  obtain ⟨c, rfl, _⟩ := Sx.shp_string Tryz.underlying9 s0
  obtain ⟨code, rfl⟩ := sb_of c
  obtain ⟨ms, rfl, hm⟩ := ints Tryz.underlying22 Tryz.underlying3 i1 s1
  obtain ⟨n2, rfl, w2⟩ := Sx.shp_int Tryz.underlying2 s2
  obtain ⟨n3, rfl, w3⟩ := Sx.shp_int Tryz.underlying2 s3
  obtain ⟨n4, rfl, w4⟩ := Sx.shp_int Tryz.underlying2 s4
  obtain ⟨n5, rfl, w5⟩ := Sx.shp_int Tryz.underlying2 s5
  obtain ⟨n6, rfl, w6⟩ := Sx.shp_int Tryz.underlying3 s6
  obtain ⟨n7, rfl, w7⟩ := Sx.shp_int Tryz.underlying2 s7
  obtain ⟨n8, rfl, w8⟩ := Sx.shp_int Tryz.underlying2 s8
  obtain ⟨n9, rfl, w9⟩ := Sx.shp_int Tryz.underlying2 s9
  obtain ⟨se, rfl, _⟩ := ints Tryz.underlying27 Tryz.underlying2 i2 s10
  have hm' : ms.length ≤ 9223372036854775807 := by unfold maxLen at hm; omega
  exact ⟨⟨code, ms, n2, n3, n4, n5, n6, n7, n8, n9, se⟩, rfl, bounds_i64 w2, bounds_i64 w5, bounds_i64 w6, bounds_i64 w7, bounds_i64 w8, bounds_i64 w9, hm'⟩
theorem cmd {ds : List Sx.D} (h : Sx.ShpF (Sx.Shp Tryz.prog 1) [3, 2, 3, 3, 2, 2, 2, 3, 9] ds) : ∃ c : Sx.Cmd, ds = Sx.cmdE c ∧ c.raw := by
  obtain ⟨_, _, rfl, s0, _, _, rfl, s1, _, _, rfl, s2, _, _, rfl, s3, _, _, rfl, s4, _, _, rfl, s5, _, _, rfl, s6, _, _, rfl, s7, _, _, rfl, s8, rfl⟩ := h
  obtain ⟨n0, rfl, w0⟩ := Sx.shp_int Tryz.underlying3 s0
  obtain ⟨n1, rfl, w1⟩ := Sx.shp_int Tryz.underlying2 s1
  obtain ⟨n2, rfl, w2⟩ := Sx.shp_int Tryz.underlying3 s2
  obtain ⟨n3, rfl, w3⟩ := Sx.shp_int Tryz.underlying3 s3
  obtain ⟨n4, rfl, w4⟩ := Sx.shp_int Tryz.underlying2 s4
  obtain ⟨n5, rfl, w5⟩ := Sx.shp_int Tryz.underlying2 s5
  obtain ⟨n6, rfl, w6⟩ := Sx.shp_int Tryz.underlying2 s6
  obtain ⟨n7, rfl, w7⟩ := Sx.shp_int Tryz.underlying3 s7
  obtain ⟨c, rfl, _⟩ := Sx.shp_string Tryz.underlying9 s8
  obtain ⟨lab, rfl⟩ := sb_of c
  exact ⟨⟨n0, n1, n2, n3, n4, n5, n6, n7, lab⟩, rfl, bounds_i64 w0, bounds_i64 w1, bounds_i64 w2, bounds_i64 w3, bounds_i64 w4, bounds_i64 w5, bounds_i64 w6, bounds_i64 w7⟩

theorem lifted (os : Os) (started : os.Started) (H : Type) (enc : TypeId × Value → H) :
    ReturnsInHanded {} Tryz.checked os 8 .any (Rows.auditTurnedSpec.pre6 enc Tryz.prog Tryz.f8 Rows.auditTurnedRow.domain false) (Rows.auditTurnedSpec.post enc Tryz.prog Tryz.f8 false true false false) := by
  refine returnsInHanded_of_change (C := Tryz.checked) own started (by kernel_rfl) Tryz.func8
    (ChangeSpec.witness6 (enc := enc) (C := Tryz.checked) false ⟨#[], #[.agg #[.string ⟨#[]⟩, .slice none 0 0, .int .i64 0, .int .i64 0, .int .i64 0, .int .i64 0, .int .i64 0, .int .i64 0, .int .i64 0, .int .i64 0, .slice none 0 0], .slice none 0 0, .int .i64 0, .int .i64 0], []⟩ 8 (by kernel_rfl) (by kernel_rfl) (by kernel_rfl) (by kernel_rfl)) ?_
  intro W base args ds gs before hval0 hW hcnd _
  have hval : ∀ (j : Nat) t v, Tryz.f8.params[j]? = some t → args[j]? = some v → Value.okWide Tryz.prog W .any base t v := hval0
  have hW' := hW
  obtain ⟨p, q, hA0, hV, rfl, hfz, hnd⟩ := hW
  have hA : DataW.TrodAll enc Tryz.prog W 0 (fun _ => true) true Tryz.f8.params.toList args.toList ds p := hA0
  rw [Tryz.params8] at hA hval
  have hA1 : DataW.TrodAll enc Tryz.prog W 0 (fun _ => true) true [29, 44, 3, 3] args.toList ds p := hA
  obtain ⟨v0, v1, v2, v3, d0, d1, d2, d3, p0, p1, p2, p3, rfl, rfl, rfl, h0, h1, h2, h3⟩ := trodAll_four hA
  obtain ⟨rfl, rfl⟩ := trodVars_none hV
  obtain ⟨ds0, f1, f2⟩ := Sx.arg_struct kids 2 (by decide +kernel) Tryz.underlying29 (by kernel_rfl) (hval 0 29 v0 rfl rfl) h0
  obtain ⟨x, hx, hraw⟩ := prd f1
  obtain ⟨els, g1, g2, g3⟩ := Sx.arg_slice kids 2 (by decide +kernel) Tryz.underlying44 (by kernel_rfl) (hval 1 44 v1 rfl rfl) h1
  obtain ⟨l, rfl, g4⟩ := Sx.map_of (f := Sx.cmdE) (Q := Sx.Cmd.raw) fun el hel => cmd (Sx.shp_struct Tryz.underlying35 (g3 el hel))
  obtain ⟨a2, rfl, rfl, rfl, w2⟩ := open_int Tryz.underlying3 (hval 2 3 v2 rfl rfl) h2
  obtain ⟨a3, rfl, rfl, rfl, w3⟩ := open_int Tryz.underlying3 (hval 3 3 v3 rfl rfl) h3
  have hlt := hW'.lt
  simp only [List.append_nil] at hW' hlt hA1
  have hc1 : Tryz.prog.cellsOf 35 = 9 := by kernel_rfl
  have hgs : Sx.DR (Sx.E0 W).F (.ro 9 (l.map Sx.cmdE)) v1 := hc1 ▸ g1
  have hll : l.length ≤ 9223372036854775807 := by rw [List.length_map] at g2; unfold maxLen at g2; omega
  rw [hx] at f2
  refine (walk ⟨x, l, a2, a3⟩ ⟨hraw, g4, hll, bounds_i64 w2, bounds_i64 w3⟩ W (v0 := v0) (v1 := v1) ?_).mono fun e W' ⟨he, hg⟩ => ?_
  · simp only [Sx.tuC, Sx.con1, Sx.VRL]
    exact ⟨_, _, rfl, f2, _, _, rfl, by simp only [Sx.VR]; exact hgs, _, _, rfl, by simp only [Sx.VR, Sx.DR]; exact ⟨trivial, rfl⟩, _, _, rfl, by simp only [Sx.VR, Sx.DR]; exact ⟨trivial, rfl⟩, rfl⟩
  subst he
  refine ⟨_, rfl, Sx.post_of_below (pa := p0 ++ p1) (pv := []) hW' (fun _ _ _ => (trodAll_cons_mk (shut_bool Tryz.underlying4 _) trodAll_mk0)) (fun sp hsp => ?_) (fun _ _ => rfl) (by simp)
    hg (ok_one (by kernel_rfl) rfl (okWide_bool_mk Tryz.underlying4 _))⟩
  exact Sx.args_stay kids full hg (by decide +kernel) hA1 (fun x hx => hlt x (by simpa using hx)) hsp

theorem over : Rows.auditTurnedRow.holds Tryz.pinned (OpenSpec.ofChange Rows.auditTurnedSpec) :=
  OpenClaim.holds_of_wide 8 Tryz.f8 rfl rfl rfl rfl rfl rfl rfl ⟨rfl, rfl, rfl, rfl, rfl⟩ rfl rfl rfl rfl rfl (by kernel_rfl) Tryz.func8 (by kernel_rfl)
    (of_decide_eq_true (by kernel_rfl)) (by unfold Func.isWrapper; first | (rw [if_pos (by decide +kernel)]; kernel_rfl) | (rw [if_neg (by decide +kernel)]; exact ⟨rfl, rfl⟩))
    (fun os started H enc _ => lifted os started H enc)

/-- The statement. -/
theorem proved : Rows.AuditTurnedSaid :=
  over
#print axioms proved
end Go.Proofs.YtpgpnnncaidcjaaGreat.auditTurned
