/- ConsoleOrder returns true, for every product, command and number, the tables of the decoder laid as the program's text lays them; the arguments read as before. -/
import Derived.Test.YthlgpiinapiiaaaDoorM10
import Derived.Test.YthlgpiinapiiaaaDoorCards
import Derived.Test.YthlgpiinapiiaaaDoorTie
import Derived.WalkKit
import Derived.ProofKit
import Derived.OpenShut
import Derived.ChangeMaps5
import Derived.LaidMore
import Derived.Lay
import Derived.SevenTiedAt
import Derived.Stop.Joined
namespace Go.Proofs.YthlgpiinapiiaaaDoor.consoleOrder
open Go.ChangeShapes Go.WideShapes Go.ChangeAt Go.RowKit Go.ChangeMaps
set_option linter.unusedVariables false
set_option maxRecDepth 100000

theorem own : ownKnob Tryd.prog.godebug = none := by kernel_rfl
theorem kids : Kids Tryd.prog (· < Tryd.prog.types.size) := kids_rows (by kernel_rfl) (by kernel_rfl)
theorem full : ∀ t e, t < Tryd.prog.types.size → Tryd.prog.underlying t = some (.slice e) → 0 < Tryd.prog.cellsOf e := slices_full_of Tryd.prog (by kernel_rfl)

theorem walk (i : Sx.CoI) (hc : Sx.corderC.cnd i) (w : World) (hG0 : Sx.GTab fun b => w.heap[b]?) {v0 v1 v2 : Value} (hv : Sx.VRL (Sx.E0 w) (Sx.corderC.pat i) [v0, v1, v2]) :
    Calls Tryd.prog 6 #[v0, v1, v2] w fun e w' => e = .returned (.bool true) ∧ Below w.heap.size w w' := by
  have hG := Sx.gokc Sx.kprod_ok (Sx.gokc Sx.tame_ok (Sx.gokc Sx.print_okC (Sx.gokc Sx.known27_ok (Sx.gokc Sx.ask6_ok (Sx.gokc Sx.parse_ok (Sx.gokc Sx.within_ok (Sx.gokc Sx.count_ok Sx.gok0)))))))
  refine (Sx.calls_of_walk (ys := [v0, v1, v2]) Sx.mixed _ hG 0 Sx.corderJ [] Tryd.func6 (by kernel_rfl) (by kernel_rfl) (by kernel_rfl) (Eq.mp (Sx.eqcorder i) (Sx.vcorder i hc)) hG0 hv).mono ?_
  rintro e w' ⟨y, rfl, hb, a, ha, o, _, E', hv⟩
  obtain rfl := List.mem_singleton.1 ha
  simp only [Sx.VR, Sx.DR] at hv
  exact ⟨by rw [hv.1], hb⟩

theorem sb_of (s : ByteArray) : ∃ l, Sx.sb l = s := ⟨s.data.toList, by cases s; simp [Sx.sb]⟩
theorem ints {m : Nat} {t e : TypeId} {ds : List Sx.D} (hu : Tryd.prog.underlying t = some (.slice e)) (he : Tryd.prog.underlying e = some (.int .i64)) (hc : Tryd.prog.cellsOf e = 1) (h : Sx.Shp Tryd.prog (m + 1) t ds) :
    ∃ l : List Int, ds = [.ro 1 (Sx.iE l)] ∧ l.length ≤ maxLen := by
  obtain ⟨els, rfl, h1, h2⟩ := Sx.shp_slice hu h
  obtain ⟨l, rfl, _⟩ := Sx.map_of (f := fun n => [Sx.D.v (.int .i64 n)]) (Q := fun n => (Lit.int .i64 n).wf = true) fun el hel => Sx.shp_int he (h2 el hel)
  rw [hc]
  exact ⟨l, rfl, by rw [List.length_map] at h1; exact h1⟩

theorem prd {ds : List Sx.D} (h : Sx.ShpF (Sx.Shp Tryd.prog 2) [9, 25, 2, 2, 2, 2, 3, 2, 2, 2, 35] ds) :
    ∃ x : Sx.Prd, Sx.V.agg (ds.map .d) = Sx.prdV x ∧ x.raw := by
  have i1 : Tryd.prog.cellsOf 3 = 1 := by kernel_rfl
  have i2 : Tryd.prog.cellsOf 2 = 1 := by kernel_rfl
  obtain ⟨_, _, rfl, s0, _, _, rfl, s1, _, _, rfl, s2, _, _, rfl, s3, _, _, rfl, s4, _, _, rfl, s5, _, _, rfl, s6, _, _, rfl, s7, _, _, rfl, s8, _, _, rfl, s9, _, _, rfl, s10, rfl⟩ := h
  obtain ⟨c, rfl, _⟩ := Sx.shp_string Tryd.underlying9 s0
  obtain ⟨code, rfl⟩ := sb_of c
  obtain ⟨ms, rfl, hm⟩ := ints Tryd.underlying25 Tryd.underlying3 i1 s1
  obtain ⟨n2, rfl, w2⟩ := Sx.shp_int Tryd.underlying2 s2
  obtain ⟨n3, rfl, w3⟩ := Sx.shp_int Tryd.underlying2 s3
  obtain ⟨n4, rfl, w4⟩ := Sx.shp_int Tryd.underlying2 s4
  obtain ⟨n5, rfl, w5⟩ := Sx.shp_int Tryd.underlying2 s5
  obtain ⟨n6, rfl, w6⟩ := Sx.shp_int Tryd.underlying3 s6
  obtain ⟨n7, rfl, w7⟩ := Sx.shp_int Tryd.underlying2 s7
  obtain ⟨n8, rfl, w8⟩ := Sx.shp_int Tryd.underlying2 s8
  obtain ⟨n9, rfl, w9⟩ := Sx.shp_int Tryd.underlying2 s9
  obtain ⟨se, rfl, _⟩ := ints Tryd.underlying35 Tryd.underlying2 i2 s10
  have hm' : ms.length ≤ 9223372036854775807 := by unfold maxLen at hm; omega
  exact ⟨⟨code, ms, n2, n3, n4, n5, n6, n7, n8, n9, se⟩, rfl, bounds_i64 w2, bounds_i64 w5, bounds_i64 w6, bounds_i64 w7, bounds_i64 w8, bounds_i64 w9, hm'⟩
theorem cmd {ds : List Sx.D} (h : Sx.ShpF (Sx.Shp Tryd.prog 2) [3, 2, 3, 3, 2, 2, 2, 3, 9] ds) : ∃ c : Sx.Cmd, Sx.V.agg (ds.map .d) = Sx.cmdV c ∧ c.raw ∧ c.label.length ≤ 9223372036854775807 := by
  obtain ⟨_, _, rfl, s0, _, _, rfl, s1, _, _, rfl, s2, _, _, rfl, s3, _, _, rfl, s4, _, _, rfl, s5, _, _, rfl, s6, _, _, rfl, s7, _, _, rfl, s8, rfl⟩ := h
  obtain ⟨n0, rfl, w0⟩ := Sx.shp_int Tryd.underlying3 s0
  obtain ⟨n1, rfl, w1⟩ := Sx.shp_int Tryd.underlying2 s1
  obtain ⟨n2, rfl, w2⟩ := Sx.shp_int Tryd.underlying3 s2
  obtain ⟨n3, rfl, w3⟩ := Sx.shp_int Tryd.underlying3 s3
  obtain ⟨n4, rfl, w4⟩ := Sx.shp_int Tryd.underlying2 s4
  obtain ⟨n5, rfl, w5⟩ := Sx.shp_int Tryd.underlying2 s5
  obtain ⟨n6, rfl, w6⟩ := Sx.shp_int Tryd.underlying2 s6
  obtain ⟨n7, rfl, w7⟩ := Sx.shp_int Tryd.underlying3 s7
  obtain ⟨c, rfl, hl⟩ := Sx.shp_string Tryd.underlying9 s8
  obtain ⟨lab, rfl⟩ := sb_of c
  rw [Sx.sb_size] at hl
  have hl' : lab.length ≤ 9223372036854775807 := by unfold maxLen at hl; omega
  exact ⟨⟨n0, n1, n2, n3, n4, n5, n6, n7, lab⟩, rfl, ⟨bounds_i64 w0, bounds_i64 w1, bounds_i64 w2, bounds_i64 w3, bounds_i64 w4, bounds_i64 w5, bounds_i64 w6, bounds_i64 w7⟩, hl'⟩

theorem lifted (os : Os) (started : os.Started) (H : Type) (enc : TypeId × Value → H) :
    ReturnsInHanded {} Tryd.checked os 6 .any (fun w args => (Rows.consoleOrderSpec.pre enc Tryd.prog Tryd.f6 Rows.consoleOrderRow.domain false w args ∧ laidMetH Tryd.prog Rows.consoleOrderRow.laid w) ∧ sizedMet enc Tryd.prog Tryd.f6 (OpenSpec.ofChange Rows.consoleOrderSpec) false w args)
      (Rows.consoleOrderSpec.post enc Tryd.prog Tryd.f6 false true false false) := by
  refine returnsInHanded_of_change_and (C := Tryd.checked) (X := fun w _ => laidMetH Tryd.prog Rows.consoleOrderRow.laid w) (fun _ _ _ hh h => h.of_heap hh) own started (by kernel_rfl) Tryd.func6
    (ChangeSpec.witness_shaped (enc := enc) (C := Tryd.checked) (os := os) (X := fun w _ => laidMetH Tryd.prog Rows.consoleOrderRow.laid w) false (World.laidAll Tryd.prog os Rows.consoleOrderRow.laid) #[.agg #[.string ⟨#[]⟩, .slice none 0 0, .int .i64 0, .int .i64 0, .int .i64 0, .int .i64 0, .int .i64 0, .int .i64 0, .int .i64 0, .int .i64 0, .slice none 0 0], .agg #[.int .i64 0, .int .i64 0, .int .i64 0, .int .i64 0, .int .i64 0, .int .i64 0, .int .i64 0, .int .i64 0, .string ⟨#[]⟩], .int .i64 0] 8 (World.laidAll_os _ _ _)
      (World.shaped_of_ZipB (by kernel_rfl) (by kernel_rfl)) (by kernel_rfl) (by kernel_rfl) (by kernel_rfl)
      (by rw [MakeChecks.laidMetH_plain _ _ _ (by kernel_rfl)]; exact laidMet_laidAll _ (by kernel_rfl) (by kernel_rfl))) ?_
  intro W base args ds gs before hval0 hW hcnd _ hL _
  have hval : ∀ (j : Nat) t v, Tryd.f6.params[j]? = some t → args[j]? = some v → Value.okWide Tryd.prog W .any base t v := hval0
  have hW' := hW
  obtain ⟨p, q, hA0, hV, rfl, hfz, hnd⟩ := hW
  have hA : DataW.TrodAll enc Tryd.prog W 0 (fun _ => true) true Tryd.f6.params.toList args.toList ds p := hA0
  rw [Tryd.params6] at hA hval
  have hA1 : DataW.TrodAll enc Tryd.prog W 0 (fun _ => true) true [37, 39, 3] args.toList ds p := hA
  obtain ⟨v0, v1, v2, d0, d1, d2, p0, p1, p2, rfl, rfl, rfl, h0, h1, h2⟩ := trodAll_three hA
  obtain ⟨rfl, rfl⟩ := trodVars_none hV
  obtain ⟨ds0, f1, f2⟩ := Sx.arg_struct kids 2 (by decide +kernel) Tryd.underlying37 (by kernel_rfl) (hval 0 37 v0 rfl rfl) h0
  obtain ⟨x, hx, hraw⟩ := prd f1
  obtain ⟨ds1, g1, g2⟩ := Sx.arg_struct kids 2 (by decide +kernel) Tryd.underlying39 (by kernel_rfl) (hval 1 39 v1 rfl rfl) h1
  obtain ⟨c, hc, hcr, hcl⟩ := cmd g1
  obtain ⟨n, rfl, rfl, rfl, wn⟩ := open_int Tryd.underlying3 (hval 2 3 v2 rfl rfl) h2
  rw [MakeChecks.laidMetH_plain _ _ _ (by kernel_rfl)] at hL
  have hgt := Sx.gtab_laid hL
  have hlt := hW'.lt
  simp only [List.append_nil] at hW' hlt hA1
  rw [hx] at f2
  rw [hc] at g2
  refine (walk ⟨x, c, n⟩ ⟨hraw, hcr, bounds_i64 wn⟩ W hgt ?_).mono fun e W' ⟨he, hg⟩ => ?_
  · simp only [Sx.corderC, Sx.con1, Sx.VRL]
    exact ⟨_, _, rfl, f2, _, _, rfl, g2, _, _, rfl, by simp only [Sx.VR, Sx.DR]; exact ⟨trivial, rfl⟩, rfl⟩
  subst he
  refine ⟨_, rfl, Sx.post_of_below (pa := p0 ++ p1) (pv := []) hW' (fun _ _ _ => (trodAll_cons_mk (shut_bool Tryd.underlying4 _) trodAll_mk0)) (fun sp hsp => ?_) (fun _ _ => rfl) (by simp)
    hg (ok_one (by kernel_rfl) rfl (okWide_bool_mk Tryd.underlying4 _))⟩
  exact Sx.args_stay kids full hg (by decide +kernel) hA1 (fun x hx => hlt x (by simpa using hx)) hsp

theorem over : Rows.ConsoleOrderSaid :=
  OpenClaim.holds_of_wide 6 Tryd.f6 rfl rfl rfl rfl rfl rfl rfl ⟨rfl, rfl, rfl, rfl, rfl⟩ rfl rfl rfl rfl rfl (by kernel_rfl) Tryd.func6 (by kernel_rfl)
    (of_decide_eq_true (by kernel_rfl)) (by unfold Func.isWrapper; first | (rw [if_pos (by decide +kernel)]; kernel_rfl) | (rw [if_neg (by decide +kernel)]; exact ⟨rfl, rfl⟩))
    (fun os started H enc _ => lifted os started H enc)

/-- The statement. -/
theorem proved : Rows.ConsoleOrderCardSaid :=
  Claim7.holds_tied_plain_at .later [] [.data, .data, .data, .data, .pinned] true Rows.consoleOrderCard.stood.harness true over (fun _ h => by cases h) (by kernel_rfl) (fun _ h => by cases h) consoleOrder_row_tie rfl ⟨rfl, rfl⟩ (by kernel_rfl) rfl
    (fun f fn hf hfn => by
      obtain rfl : f = 6 := Option.some.inj ((show Tryd.prog.funcNamed Rows.consoleOrderRow.func = some 6 by kernel_rfl).symm.trans hf) |>.symm
      obtain rfl : fn = Tryd.f6 := (Option.some.inj (Tryd.func6.symm.trans hfn)).symm
      exact ⟨by kernel_rfl, fun j t ht => by
        rw [Tryd.params6] at ht
        have hm : t ∈ [37, 39, 3] := by simpa using Array.mem_of_getElem? ht
        have hall : ([37, 39, 3].all fun u => !Tryd.prog.wantsStandIn u) = true := by kernel_rfl
        exact (show Tryd.prog.wantsStandIn t = false by simpa using List.all_eq_true.1 hall t hm)⟩)
    (by kernel_rfl)
#print axioms proved
end Go.Proofs.YthlgpiinapiiaaaDoor.consoleOrder
