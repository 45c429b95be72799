/- MarketPlaces returns true, for every quantities, choice, way and amount; they read as before. No condition. -/
import Derived.Test.YtpgpnnncaidcjaaGreatM11
import Derived.Test.YtpgpnnncaidcjaaGreatRows
import Derived.WalkKit
import Derived.ProofKit
import Derived.OpenShut
namespace Go.Proofs.YtpgpnnncaidcjaaGreat.marketPlaces
open Go.ChangeShapes Go.WideShapes Go.ChangeAt Go.RowKit
set_option linter.unusedVariables false
set_option maxRecDepth 100000

theorem own : ownKnob Tryz.prog.godebug = none := by kernel_rfl
theorem kids : Kids Tryz.prog (· < Tryz.prog.types.size) := kids_rows (by kernel_rfl) (by kernel_rfl)
theorem full : ∀ t e, t < Tryz.prog.types.size → Tryz.prog.underlying t = some (.slice e) → 0 < Tryz.prog.cellsOf e := slices_full_of Tryz.prog (by kernel_rfl)

theorem walk (i : Sx.PlcI) (hc : Sx.plC.cnd i) (w : World) {v0 v1 v2 v3 : Value} (hv : Sx.VRL (Sx.E0 w) (Sx.plC.pat i) [v0, v1, v2, v3]) :
    Calls Tryz.prog 3 #[v0, v1, v2, v3] w fun e w' => e = .returned (.bool true) ∧ Below w.heap.size w w' := by
  have hG := Sx.gokc Sx.three_ok (Sx.gokc Sx.newM_ok (Sx.gokc Sx.within_ok (Sx.gokc Sx.bid_ok (Sx.gokc Sx.ask_ok (Sx.gokc Sx.chg_ok (Sx.gokc Sx.with_ok (Sx.gokc Sx.do_ok (Sx.gokc Sx.mcount_ok (Sx.gokc Sx.known17_ok Sx.gok0)))))))))
  refine (Sx.calls_of_walk (ys := [v0, v1, v2, v3]) Sx.mixed _ hG 0 Sx.plJ Sx.plA Tryz.func3 (by kernel_rfl) (by kernel_rfl) (by kernel_rfl) (Eq.mp (Sx.eqpl i) (Sx.vpl i hc)) (fun g hg => by cases hg) hv).mono ?_
  rintro e w' ⟨y, rfl, hb, a, ha, o, _, E', hv⟩
  obtain rfl := List.mem_singleton.1 ha
  simp only [Sx.VR, Sx.DR] at hv
  exact ⟨by rw [hv.1], hb⟩

theorem lifted (os : Os) (started : os.Started) (H : Type) (enc : TypeId × Value → H) :
    ReturnsInHanded {} Tryz.checked os 3 .any (Rows.marketPlacesSpec.pre6 enc Tryz.prog Tryz.f3 Rows.marketPlacesRow.domain false) (Rows.marketPlacesSpec.post enc Tryz.prog Tryz.f3 false true false false) := by
  refine returnsInHanded_of_change (C := Tryz.checked) own started (by kernel_rfl) Tryz.func3
    (ChangeSpec.witness6 (enc := enc) (C := Tryz.checked) false ⟨#[], #[.slice none 0 0, .int .i64 0, .int .i64 0, .int .i64 0], []⟩ 8 (by kernel_rfl) (by kernel_rfl) (by kernel_rfl) (by kernel_rfl)) ?_
  intro W base args ds gs before hval0 hW hcnd _
  have hval : ∀ (j : Nat) t v, Tryz.f3.params[j]? = some t → args[j]? = some v → Value.okWide Tryz.prog W .any base t v := hval0
  have hW' := hW
  obtain ⟨p, q, hA0, hV, rfl, hfz, hnd⟩ := hW
  have hA : DataW.TrodAll enc Tryz.prog W 0 (fun _ => true) true Tryz.f3.params.toList args.toList ds p := hA0
  rw [Tryz.params3] at hA hval
  have hA1 : DataW.TrodAll enc Tryz.prog W 0 (fun _ => true) true [22, 3, 3, 3] args.toList ds p := hA
  obtain ⟨v0, v1, v2, v3, d0, d1, d2, d3, p0, p1, p2, p3, rfl, rfl, rfl, h0, h1, h2, h3⟩ := trodAll_four hA
  obtain ⟨rfl, rfl⟩ := trodVars_none hV
  obtain ⟨a1, rfl, rfl, rfl, w1⟩ := open_int Tryz.underlying3 (hval 1 3 v1 rfl rfl) h1
  obtain ⟨a2, rfl, rfl, rfl, w2⟩ := open_int Tryz.underlying3 (hval 2 3 v2 rfl rfl) h2
  obtain ⟨a3, rfl, rfl, rfl, w3⟩ := open_int Tryz.underlying3 (hval 3 3 v3 rfl rfl) h3
  obtain ⟨els, g1, g2, g3⟩ := Sx.arg_slice kids 2 (by decide +kernel) Tryz.underlying22 (by kernel_rfl) (hval 0 22 v0 rfl rfl) h0
  obtain ⟨l, rfl, g4⟩ := Sx.map_of (f := fun n => [Sx.D.v (.int .i64 n)]) (Q := fun n => (Lit.int .i64 n).wf = true) fun el hel => Sx.shp_int Tryz.underlying3 (g3 el hel)
  have hlt := hW'.lt
  simp only [List.append_nil] at hW' hlt hA1
  have hc1 : Tryz.prog.cellsOf 3 = 1 := by kernel_rfl
  have hgs : Sx.DR (Sx.E0 W).F (.ro 1 (Sx.iE l)) v0 := hc1 ▸ g1
  simp only [Sx.DR] at hgs
  refine (walk ⟨l, a1, a2, a3⟩ ⟨fun x hx => bounds_i64 (g4 x hx), bounds_i64 w1, bounds_i64 w2, bounds_i64 w3, by have := g2; rw [List.length_map] at this; unfold maxLen at this; omega⟩ W ?_).mono fun e W' ⟨he, hg⟩ => ?_
  · simp only [Sx.plC, Sx.con1, Sx.VRL, Sx.VR, Sx.DR]
    exact ⟨_, _, rfl, hgs, _, _, rfl, ⟨rfl, rfl⟩, _, _, rfl, ⟨rfl, rfl⟩, _, _, rfl, ⟨rfl, rfl⟩, rfl⟩
  subst he
  refine ⟨_, rfl, Sx.post_of_below (pa := p0) (pv := []) hW' (fun _ _ _ => (trodAll_cons_mk (shut_bool Tryz.underlying4 _) trodAll_mk0)) (fun sp hsp => ?_) (fun _ _ => rfl) (by simp)
    hg (ok_one (by kernel_rfl) rfl (okWide_bool_mk Tryz.underlying4 _))⟩
  exact Sx.args_stay kids full hg (by decide +kernel) hA1 (fun x hx => hlt x (by simpa using hx)) hsp

theorem over : Rows.marketPlacesRow.holds Tryz.pinned (OpenSpec.ofChange Rows.marketPlacesSpec) :=
  OpenClaim.holds_of_wide 3 Tryz.f3 rfl rfl rfl rfl rfl rfl rfl ⟨rfl, rfl, rfl, rfl, rfl⟩ rfl rfl rfl rfl rfl (by kernel_rfl) Tryz.func3 (by kernel_rfl)
    (of_decide_eq_true (by kernel_rfl)) (by unfold Func.isWrapper; first | (rw [if_pos (by decide +kernel)]; kernel_rfl) | (rw [if_neg (by decide +kernel)]; exact ⟨rfl, rfl⟩))
    (fun os started H enc _ => lifted os started H enc)

/-- The statement. -/
theorem proved : Rows.MarketPlacesSaid :=
  over
#print axioms proved
end Go.Proofs.YtpgpnnncaidcjaaGreat.marketPlaces
