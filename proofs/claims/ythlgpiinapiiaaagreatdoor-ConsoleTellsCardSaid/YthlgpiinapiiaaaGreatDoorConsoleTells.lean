/- ConsoleTells returns true, for every product, string, words, command, place and byte, the tables of the decoder laid as the program's text lays them; the arguments read as before. -/
import Derived.Test.YthlgpiinapiiaaaGreatDoorM12
import Derived.Test.YthlgpiinapiiaaaGreatDoorCards
import Derived.Test.YthlgpiinapiiaaaGreatDoorTie
import Derived.WalkKit
import Derived.ProofKit
import Derived.OpenShut
import Derived.ChangeMaps5
import Derived.LaidMore
import Derived.Lay
import Derived.SevenTiedAt
import Derived.Stop.Joined
namespace Go.Proofs.YthlgpiinapiiaaaGreatDoor.consoleTells
open Go.ChangeShapes Go.WideShapes Go.ChangeAt Go.RowKit Go.ChangeMaps
set_option linter.unusedVariables false
set_option maxRecDepth 100000

theorem own : ownKnob Tryz.prog.godebug = none := by kernel_rfl
theorem kids : Kids Tryz.prog (· < Tryz.prog.types.size) := kids_rows (by kernel_rfl) (by kernel_rfl)
theorem full : ∀ t e, t < Tryz.prog.types.size → Tryz.prog.underlying t = some (.slice e) → 0 < Tryz.prog.cellsOf e := slices_full_of Tryz.prog (by kernel_rfl)

theorem walk (i : Sx.CtI) (hc : Sx.ctellC.cnd i) (w : World) (hG0 : Sx.GTab fun b => w.heap[b]?) {v0 v1 v2 v3 v4 v5 : Value} (hv : Sx.VRL (Sx.E0 w) (Sx.ctellC.pat i) [v0, v1, v2, v3, v4, v5]) :
    Calls Tryz.prog 3 #[v0, v1, v2, v3, v4, v5] w fun e w' => e = .returned (.bool true) ∧ Below w.heap.size w w' := by
  have hG := Sx.gokc Sx.kprod_ok (Sx.gokc Sx.head_ok (Sx.gokc Sx.tame_ok (Sx.gokc Sx.lprint_ok (Sx.gokc Sx.same_ok (Sx.gokc Sx.print_okC (Sx.gokc Sx.within_ok (Sx.gokc Sx.known27_ok Sx.gok0)))))))
  refine (Sx.calls_of_walk (ys := [v0, v1, v2, v3, v4, v5]) Sx.mixed _ hG 0 [] (Sx.ctellA i) Tryz.func3 (by kernel_rfl) (by kernel_rfl) (by kernel_rfl) (Eq.mp (Sx.eqctell i) (Sx.vctell i hc)) hG0 hv).mono ?_
  rintro e w' ⟨y, rfl, hb, a, ha, o, _, E', hv⟩
  obtain rfl := List.mem_singleton.1 ha
  simp only [Sx.VR, Sx.DR] at hv
  exact ⟨by rw [hv.1], hb⟩

theorem trodAll_six {H : Type} {enc : TypeId × Value → H} {P : Program} {w : World} {base : Nat} {spare : Nat → Bool} {held : Bool} {t0 t1 t2 t3 t4 t5 : TypeId} {args : Array Value} {ds : List (DataW H)} {ps : List MemPlace} (h : DataW.TrodAll enc P w base spare held [t0, t1, t2, t3, t4, t5] args.toList ds ps) :
    ∃ v0 v1 v2 v3 v4 v5 d0 d1 d2 d3 d4 d5 p0 p1 p2 p3 p4 p5, args = #[v0, v1, v2, v3, v4, v5] ∧ ds = [d0, d1, d2, d3, d4, d5] ∧ ps = p0 ++ p1 ++ p2 ++ p3 ++ p4 ++ p5 ∧ DataW.Trod enc P w base spare held t0 v0 d0 p0 ∧ DataW.Trod enc P w base spare held t1 v1 d1 p1 ∧ DataW.Trod enc P w base spare held t2 v2 d2 p2 ∧ DataW.Trod enc P w base spare held t3 v3 d3 p3 ∧ DataW.Trod enc P w base spare held t4 v4 d4 p4 ∧ DataW.Trod enc P w base spare held t5 v5 d5 p5 := by
  obtain ⟨v0, vs0, d0, ds0, p0, q0, hargs, rfl, rfl, h0, hr0⟩ := trodAll_cons h
  obtain ⟨v1, vs1, d1, ds1, p1, q1, rfl, rfl, rfl, h1, hr1⟩ := trodAll_cons hr0
  obtain ⟨v2, vs2, d2, ds2, p2, q2, rfl, rfl, rfl, h2, hr2⟩ := trodAll_cons hr1
  obtain ⟨v3, vs3, d3, ds3, p3, q3, rfl, rfl, rfl, h3, hr3⟩ := trodAll_cons hr2
  obtain ⟨v4, vs4, d4, ds4, p4, q4, rfl, rfl, rfl, h4, hr4⟩ := trodAll_cons hr3
  obtain ⟨v5, vs5, d5, ds5, p5, q5, rfl, rfl, rfl, h5, hr5⟩ := trodAll_cons hr4
  obtain ⟨rfl, rfl, rfl⟩ := trodAll_nil hr5
  exact ⟨v0, v1, v2, v3, v4, v5, d0, d1, d2, d3, d4, d5, p0, p1, p2, p3, p4, p5, by cases args; simp_all, rfl, by simp, h0, h1, h2, h3, h4, h5⟩

theorem sb_of (s : ByteArray) : ∃ l, Sx.sb l = s := ⟨s.data.toList, by cases s; simp [Sx.sb]⟩
theorem ints {m : Nat} {t e : TypeId} {ds : List Sx.D} (hb : Tryz.prog.bytesOf e = 8) (hu : Tryz.prog.underlying t = some (.slice e)) (he : Tryz.prog.underlying e = some (.int .i64)) (hc : Tryz.prog.cellsOf e = 1) (h : Sx.ShpS Tryz.prog (m + 1) t ds) :
    ∃ l : List Int, ds = [.ro 1 (Sx.iE l)] ∧ l.length ≤ 140737488355328 := by
  obtain ⟨els, rfl, h1, _, h2⟩ := Sx.shpS_slice hu h
  obtain ⟨l, rfl, _⟩ := Sx.map_of (f := fun n => [Sx.D.v (.int .i64 n)]) (Q := fun n => (Lit.int .i64 n).wf = true) fun el hel => Sx.shpS_int he (h2 el hel)
  rw [hc]
  exact ⟨l, rfl, by rw [List.length_map, hb] at h1; unfold reachBytes at h1; omega⟩

theorem prd {ds : List Sx.D} (h : Sx.ShpF (Sx.ShpS Tryz.prog 2) [9, 22, 2, 2, 2, 2, 3, 2, 2, 2, 23] ds) :
    ∃ x : Sx.Prd, Sx.V.agg (ds.map .d) = Sx.prdV x ∧ x.raw ∧ x.small := by
  have i1 : Tryz.prog.cellsOf 3 = 1 := by kernel_rfl
  have i2 : Tryz.prog.cellsOf 2 = 1 := by kernel_rfl
  have b1 : Tryz.prog.bytesOf 3 = 8 := by kernel_rfl
  have b2 : Tryz.prog.bytesOf 2 = 8 := by kernel_rfl
  obtain ⟨_, _, rfl, s0, _, _, rfl, s1, _, _, rfl, s2, _, _, rfl, s3, _, _, rfl, s4, _, _, rfl, s5, _, _, rfl, s6, _, _, rfl, s7, _, _, rfl, s8, _, _, rfl, s9, _, _, rfl, s10, rfl⟩ := h
  obtain ⟨c, rfl, hcl⟩ := Sx.shpS_string Tryz.underlying9 s0
  obtain ⟨code, rfl⟩ := sb_of c
  have hcl' : code.length ≤ 140737488355328 := by rw [Sx.sb_size] at hcl; unfold reachBytes at hcl; omega
  obtain ⟨ms, rfl, hm⟩ := ints b1 Tryz.underlying22 Tryz.underlying3 i1 s1
  obtain ⟨n2, rfl, w2⟩ := Sx.shpS_int Tryz.underlying2 s2
  obtain ⟨n3, rfl, w3⟩ := Sx.shpS_int Tryz.underlying2 s3
  obtain ⟨n4, rfl, w4⟩ := Sx.shpS_int Tryz.underlying2 s4
  obtain ⟨n5, rfl, w5⟩ := Sx.shpS_int Tryz.underlying2 s5
  obtain ⟨n6, rfl, w6⟩ := Sx.shpS_int Tryz.underlying3 s6
  obtain ⟨n7, rfl, w7⟩ := Sx.shpS_int Tryz.underlying2 s7
  obtain ⟨n8, rfl, w8⟩ := Sx.shpS_int Tryz.underlying2 s8
  obtain ⟨n9, rfl, w9⟩ := Sx.shpS_int Tryz.underlying2 s9
  obtain ⟨se, rfl, hse⟩ := ints b2 Tryz.underlying23 Tryz.underlying2 i2 s10
  have hm' : ms.length ≤ 9223372036854775807 := by omega
  exact ⟨⟨code, ms, n2, n3, n4, n5, n6, n7, n8, n9, se⟩, rfl, ⟨bounds_i64 w2, bounds_i64 w5, bounds_i64 w6, bounds_i64 w7, bounds_i64 w8, bounds_i64 w9, hm'⟩, ⟨hcl', hm, hse⟩⟩
theorem cmd {ds : List Sx.D} (h : Sx.ShpF (Sx.Shp Tryz.prog 2) [3, 2, 3, 3, 2, 2, 2, 3, 9] ds) : ∃ c : Sx.Cmd, Sx.V.agg (ds.map .d) = Sx.cmdV c ∧ c.raw ∧ c.label.length ≤ 9223372036854775807 := by
  obtain ⟨_, _, rfl, s0, _, _, rfl, s1, _, _, rfl, s2, _, _, rfl, s3, _, _, rfl, s4, _, _, rfl, s5, _, _, rfl, s6, _, _, rfl, s7, _, _, rfl, s8, rfl⟩ := h
  obtain ⟨n0, rfl, w0⟩ := Sx.shp_int Tryz.underlying3 s0
  obtain ⟨n1, rfl, w1⟩ := Sx.shp_int Tryz.underlying2 s1
  obtain ⟨n2, rfl, w2⟩ := Sx.shp_int Tryz.underlying3 s2
  obtain ⟨n3, rfl, w3⟩ := Sx.shp_int Tryz.underlying3 s3
  obtain ⟨n4, rfl, w4⟩ := Sx.shp_int Tryz.underlying2 s4
  obtain ⟨n5, rfl, w5⟩ := Sx.shp_int Tryz.underlying2 s5
  obtain ⟨n6, rfl, w6⟩ := Sx.shp_int Tryz.underlying2 s6
  obtain ⟨n7, rfl, w7⟩ := Sx.shp_int Tryz.underlying3 s7
  obtain ⟨c, rfl, hl⟩ := Sx.shp_string Tryz.underlying9 s8
  obtain ⟨lab, rfl⟩ := sb_of c
  rw [Sx.sb_size] at hl
  have hl' : lab.length ≤ 9223372036854775807 := by unfold maxLen at hl; omega
  exact ⟨⟨n0, n1, n2, n3, n4, n5, n6, n7, lab⟩, rfl, ⟨bounds_i64 w0, bounds_i64 w1, bounds_i64 w2, bounds_i64 w3, bounds_i64 w4, bounds_i64 w5, bounds_i64 w6, bounds_i64 w7⟩, hl'⟩

theorem lifted (os : Os) (started : os.Started) (H : Type) (enc : TypeId × Value → H) :
    ReturnsInHanded {} Tryz.checked os 3 .any (fun w args => (Rows.consoleTellsSpec.pre enc Tryz.prog Tryz.f3 Rows.consoleTellsRow.domain false w args ∧ laidMetH Tryz.prog Rows.consoleTellsRow.laid w) ∧ sizedMet enc Tryz.prog Tryz.f3 (OpenSpec.ofChange Rows.consoleTellsSpec) false w args)
      (Rows.consoleTellsSpec.post enc Tryz.prog Tryz.f3 false true false false) := by
  refine returnsInHanded_of_change_and (C := Tryz.checked) (X := fun w _ => laidMetH Tryz.prog Rows.consoleTellsRow.laid w) (fun _ _ _ hh h => h.of_heap hh) own started (by kernel_rfl) Tryz.func3
    (ChangeSpec.witness_shaped (enc := enc) (C := Tryz.checked) (os := os) (X := fun w _ => laidMetH Tryz.prog Rows.consoleTellsRow.laid w) false (World.laidAll Tryz.prog os Rows.consoleTellsRow.laid) #[.agg #[.string ⟨#[]⟩, .slice none 0 0, .int .i64 0, .int .i64 0, .int .i64 0, .int .i64 0, .int .i64 0, .int .i64 0, .int .i64 0, .int .i64 0, .slice none 0 0], .string .empty, .slice none 0 0, .agg #[.int .i64 0, .int .i64 0, .int .i64 0, .int .i64 0, .int .i64 0, .int .i64 0, .int .i64 0, .int .i64 0, .string ⟨#[]⟩], .int .i64 0, .int .u8 0] 8 (World.laidAll_os _ _ _)
      (World.shaped_of_ZipB (by kernel_rfl) (by kernel_rfl)) (by kernel_rfl) (by kernel_rfl) (by kernel_rfl)
      (by rw [MakeChecks.laidMetH_plain _ _ _ (by kernel_rfl)]; exact laidMet_laidAll _ (by kernel_rfl) (by kernel_rfl))) ?_
  intro W base args ds gs before hval0 hW hcnd hZ hL _
  have hval : ∀ (j : Nat) t v, Tryz.f3.params[j]? = some t → args[j]? = some v → Value.okWide Tryz.prog W .any base t v := hval0
  have hW' := hW
  obtain ⟨p, q, hA0, hV, rfl, hfz, hnd⟩ := hW
  have hA : DataW.TrodAll enc Tryz.prog W 0 (fun _ => true) true Tryz.f3.params.toList args.toList ds p := hA0
  rw [Tryz.params3] at hA hval
  have hA1 : DataW.TrodAll enc Tryz.prog W 0 (fun _ => true) true [25, 9, 26, 28, 3, 5] args.toList ds p := hA
  obtain ⟨v0, v1, v2, v3, v4, v5, d0, d1, d2, d3, d4, d5, p0, p1, p2, p3, p4, p5, rfl, rfl, rfl, h0, h1, h2, h3, h4, h5⟩ := trodAll_six hA
  obtain ⟨rfl, rfl⟩ := trodVars_none hV
  have hZ0 : Sx.InReach (d0.weights Tryz.prog 25) := by
    rw [Tryz.params3] at hZ
    exact Sx.wEach_get hZ 0 _ d0 rfl rfl
  obtain ⟨ds0, f1, f2⟩ := Sx.argS_struct kids 2 (by decide +kernel) Tryz.underlying25 (by kernel_rfl) (hval 0 25 v0 rfl rfl) h0 hZ0
  obtain ⟨x, hx, hraw, hsml⟩ := prd f1
  obtain ⟨s, rfl, rfl, rfl, hs⟩ := open_string Tryz.underlying9 (hval 1 9 v1 rfl rfl) h1
  obtain ⟨els, e1, e2, e3⟩ := Sx.arg_slice kids 1 (by decide +kernel) Tryz.underlying26 (by kernel_rfl) (hval 2 26 v2 rfl rfl) h2
  obtain ⟨ws, rfl, hws⟩ := Sx.map_of (f := fun w : List UInt8 => [Sx.D.v (.string (Sx.sb w))]) (Q := fun w => w.length ≤ 9223372036854775807) (l := els) fun el hel => by
    obtain ⟨z, rfl, hz⟩ := Sx.shp_string Tryz.underlying9 (e3 el hel)
    obtain ⟨w, rfl⟩ := sb_of z
    rw [Sx.sb_size] at hz
    exact ⟨w, rfl, by unfold maxLen at hz; omega⟩
  rw [List.length_map] at e2
  obtain ⟨ds1, g1, g2⟩ := Sx.arg_struct kids 2 (by decide +kernel) Tryz.underlying28 (by kernel_rfl) (hval 3 28 v3 rfl rfl) h3
  obtain ⟨c, hc, hcr, hcl⟩ := cmd g1
  obtain ⟨n, rfl, rfl, rfl, wn⟩ := open_int Tryz.underlying3 (hval 4 3 v4 rfl rfl) h4
  obtain ⟨u, rfl, rfl, rfl, wu⟩ := open_int Tryz.underlying5 (hval 5 5 v5 rfl rfl) h5
  obtain ⟨tn, rfl, htn⟩ : ∃ tn : Nat, u = (tn : Int) ∧ tn < 256 := by
    have hu : 0 ≤ u ∧ u < 256 := by
      have := bounds_u8 wu
      omega
    exact ⟨u.toNat, by omega, by omega⟩
  rw [MakeChecks.laidMetH_plain _ _ _ (by kernel_rfl)] at hL
  have hgt := Sx.gtab_laid hL
  have hlt := hW'.lt
  simp only [List.append_nil] at hW' hlt hA1
  rw [hx] at f2
  rw [hc] at g2
  have hsl : s = Sx.sb s.data.toList := rfl
  have hlen : s.data.toList.length ≤ 9223372036854775807 := by
    have e : s.data.toList.length = s.size := rfl
    rw [e]
    unfold maxLen at hs
    omega
  have c1 : Tryz.prog.cellsOf 9 = 1 := by kernel_rfl
  rw [c1] at e1
  refine (walk ⟨x, s.data.toList, ws, c, n, tn⟩ ⟨hraw, hsml, hcr, bounds_i64 wn, htn, hlen, by unfold maxLen at e2; omega, hws, hcl⟩ W hgt ?_).mono fun e W' ⟨he, hg⟩ => ?_
  · simp only [Sx.ctellC, Sx.con1, Sx.VRL]
    exact ⟨_, _, rfl, f2, _, _, rfl, by simp only [Sx.VR, Sx.DR]; exact ⟨by rw [← hsl], rfl⟩, _, _, rfl, by simp only [Sx.VR]; exact e1, _, _, rfl, g2, _, _, rfl, by simp only [Sx.VR, Sx.DR]; exact ⟨trivial, rfl⟩, _, _, rfl, by simp only [Sx.VR, Sx.DR]; exact ⟨trivial, rfl⟩, rfl⟩
  subst he
  refine ⟨_, rfl, Sx.post_of_below (pa := p0 ++ p2 ++ p3) (pv := []) hW' (fun _ _ _ => (trodAll_cons_mk (shut_bool Tryz.underlying4 _) trodAll_mk0)) (fun sp hsp => ?_) (fun _ _ => rfl) (by simp)
    hg (ok_one (by kernel_rfl) rfl (okWide_bool_mk Tryz.underlying4 _))⟩
  exact Sx.args_stay kids full hg (by decide +kernel) hA1 (fun x hx => hlt x (by simpa using hx)) hsp

theorem over : Rows.ConsoleTellsSaid :=
  OpenClaim.holds_of_wide 3 Tryz.f3 rfl rfl rfl rfl rfl rfl rfl ⟨rfl, rfl, rfl, rfl, rfl⟩ rfl rfl rfl rfl rfl (by kernel_rfl) Tryz.func3 (by kernel_rfl)
    (of_decide_eq_true (by kernel_rfl)) (by unfold Func.isWrapper; first | (rw [if_pos (by decide +kernel)]; kernel_rfl) | (rw [if_neg (by decide +kernel)]; exact ⟨rfl, rfl⟩))
    (fun os started H enc _ => lifted os started H enc)

/-- The statement. -/
theorem proved : Rows.ConsoleTellsCardSaid :=
  Claim7.holds_tied_plain_at .later [] [.data, .data, .data, .data, .pinned] true Rows.consoleTellsCard.stood.harness true over (fun _ h => by cases h) (by kernel_rfl) (fun _ h => by cases h) consoleTells_row_tie rfl ⟨rfl, rfl⟩ (by kernel_rfl) rfl
    (fun f fn hf hfn => by
      obtain rfl : f = 3 := Option.some.inj ((show Tryz.prog.funcNamed Rows.consoleTellsRow.func = some 3 by kernel_rfl).symm.trans hf) |>.symm
      obtain rfl : fn = Tryz.f3 := (Option.some.inj (Tryz.func3.symm.trans hfn)).symm
      exact ⟨by kernel_rfl, fun j t ht => by
        rw [Tryz.params3] at ht
        have hm : t ∈ [25, 9, 26, 28, 3, 5] := by simpa using Array.mem_of_getElem? ht
        have hall : ([25, 9, 26, 28, 3, 5].all fun u => !Tryz.prog.wantsStandIn u) = true := by kernel_rfl
        exact (show Tryz.prog.wantsStandIn t = false by simpa using List.all_eq_true.1 hall t hm)⟩)
    (by kernel_rfl)
#print axioms proved
end Go.Proofs.YthlgpiinapiiaaaGreatDoor.consoleTells
