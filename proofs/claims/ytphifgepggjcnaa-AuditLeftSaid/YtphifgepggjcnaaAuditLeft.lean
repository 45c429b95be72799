/- AuditLeft returns true, for every quantity, steps and instrument; the steps read as before. No condition. -/
import Derived.Test.YtphifgepggjcnaaM6
import Derived.Test.YtphifgepggjcnaaRows
import Derived.WalkKit
import Derived.ProofKit
import Derived.OpenShut
namespace Go.Proofs.Ytphifgepggjcnaa.auditLeft
open Go.ChangeShapes Go.WideShapes Go.ChangeAt Go.RowKit
set_option linter.unusedVariables false
set_option maxRecDepth 100000

theorem own : ownKnob Try.prog.godebug = none := by kernel_rfl
theorem kids : Kids Try.prog (· < Try.prog.types.size) := kids_rows (by kernel_rfl) (by kernel_rfl)
theorem full : ∀ t e, t < Try.prog.types.size → Try.prog.underlying t = some (.slice e) → 0 < Try.prog.cellsOf e := slices_full_of Try.prog (by kernel_rfl)

theorem walk (i : Sx.LfI) (hc : Sx.leftC25.cnd i) (w : World) {v0 v1 v2 : Value} (hv : Sx.VRL (Sx.E0 w) (Sx.leftC25.pat i) [v0, v1, v2]) :
    Calls Try.prog 3 #[v0, v1, v2] w fun e w' => e = .returned (.bool true) ∧ Below w.heap.size w w' := by
  have hG := Sx.gokc Sx.three_ok (Sx.gokc Sx.newL_ok (Sx.gokc Sx.within_ok (Sx.gokc Sx.ladd_ok (Sx.gokc Sx.lleft_ok (Sx.gokc Sx.ltraded_ok (Sx.gokc Sx.lnet_ok (Sx.gokc Sx.known25_ok Sx.gok0)))))))
  refine (Sx.calls_of_walk (ys := [v0, v1, v2]) Sx.mixed _ hG 0 Sx.leftJ25 (Sx.leftA25 i) Try.func3 (by kernel_rfl) (by kernel_rfl) (by kernel_rfl) (Eq.mp (Sx.eqleft25 i) (Sx.vleft25 i hc)) hv).mono ?_
  rintro e w' ⟨y, rfl, hb, a, ha, o, _, E', hv⟩
  obtain rfl := List.mem_singleton.1 ha
  simp only [Sx.VR, Sx.DR] at hv
  exact ⟨by rw [hv.1], hb⟩

theorem lifted (os : Os) (started : os.Started) (H : Type) (enc : TypeId × Value → H) :
    ReturnsInHanded {} Try.checked os 3 .any (Rows.auditLeftSpec.pre6 enc Try.prog Try.f3 Rows.auditLeftRow.domain false) (Rows.auditLeftSpec.post enc Try.prog Try.f3 false true false false) := by
  refine returnsInHanded_of_change (C := Try.checked) own started (by kernel_rfl) Try.func3
    (ChangeSpec.witness6 (enc := enc) (C := Try.checked) false ⟨#[], #[.int .i64 0, .slice none 0 0, .int .i64 0], []⟩ 8 (by kernel_rfl) (by kernel_rfl) (by kernel_rfl) (by kernel_rfl)) ?_
  intro W base args ds gs before hval0 hW hcnd _
  have hval : ∀ (j : Nat) t v, Try.f3.params[j]? = some t → args[j]? = some v → Value.okWide Try.prog W .any base t v := hval0
  have hW' := hW
  obtain ⟨p, q, hA0, hV, rfl, hfz, hnd⟩ := hW
  have hA : DataW.TrodAll enc Try.prog W 0 (fun _ => true) true Try.f3.params.toList args.toList ds p := hA0
  rw [Try.params3] at hA hval
  have hA1 : DataW.TrodAll enc Try.prog W 0 (fun _ => true) true [3, 22, 3] args.toList ds p := hA
  obtain ⟨v0, v1, v2, d0, d1, d2, p0, p1, p2, rfl, rfl, rfl, h0, h1, h2⟩ := trodAll_three hA
  obtain ⟨rfl, rfl⟩ := trodVars_none hV
  obtain ⟨a0, rfl, rfl, rfl, w0⟩ := open_int Try.underlying3 (hval 0 3 v0 rfl rfl) h0
  obtain ⟨a2, rfl, rfl, rfl, w2⟩ := open_int Try.underlying3 (hval 2 3 v2 rfl rfl) h2
  obtain ⟨els, g1, g2, g3⟩ := Sx.arg_slice kids 2 (by decide +kernel) Try.underlying22 (by kernel_rfl) (hval 1 22 v1 rfl rfl) h1
  obtain ⟨l, rfl, g4⟩ := Sx.map_of (f := fun n => [Sx.D.v (.int .i64 n)]) (Q := fun n => (Lit.int .i64 n).wf = true) fun el hel => Sx.shp_int Try.underlying3 (g3 el hel)
  have hlt := hW'.lt
  simp only [List.append_nil, List.nil_append] at hW' hlt hA1
  have hc1 : Try.prog.cellsOf 3 = 1 := by kernel_rfl
  have hgs : Sx.DR (Sx.E0 W).F (.ro 1 (Sx.iE l)) v1 := hc1 ▸ g1
  simp only [Sx.DR] at hgs
  refine (walk ⟨a0, l, a2⟩ ⟨bounds_i64 w0, bounds_i64 w2, fun x hx => bounds_i64 (g4 x hx), by have := g2; rw [List.length_map] at this; exact this⟩ W ?_).mono fun e W' ⟨he, hg⟩ => ?_
  · simp only [Sx.leftC25, Sx.VRL, Sx.VR, Sx.DR]
    exact ⟨_, _, rfl, ⟨rfl, rfl⟩, _, _, rfl, hgs, _, _, rfl, ⟨rfl, rfl⟩, rfl⟩
  subst he
  refine ⟨_, rfl, Sx.post_of_below (pa := p1) (pv := []) hW' (fun _ _ _ => (trodAll_cons_mk (shut_bool Try.underlying4 _) trodAll_mk0)) (fun sp hsp => ?_) (fun _ _ => rfl) (by simp)
    hg (ok_one (by kernel_rfl) rfl (okWide_bool_mk Try.underlying4 _))⟩
  exact Sx.args_stay kids full hg (by decide +kernel) hA1 (fun x hx => hlt x (by simpa using hx)) hsp

theorem over : Rows.auditLeftRow.holds Try.pinned (OpenSpec.ofChange Rows.auditLeftSpec) :=
  OpenClaim.holds_of_wide 3 Try.f3 rfl rfl rfl rfl rfl rfl rfl ⟨rfl, rfl, rfl, rfl, rfl⟩ rfl rfl rfl rfl rfl (by kernel_rfl) Try.func3 (by kernel_rfl)
    (of_decide_eq_true (by kernel_rfl)) (by unfold Func.isWrapper; first | (rw [if_pos (by decide +kernel)]; kernel_rfl) | (rw [if_neg (by decide +kernel)]; exact ⟨rfl, rfl⟩))
    (fun os started H enc _ => lifted os started H enc)

/-- The statement. -/
theorem proved : Rows.AuditLeftSaid :=
  over
#print axioms proved
end Go.Proofs.Ytphifgepggjcnaa.auditLeft
