/- ConsoleDigits returns true, for every number and text, the tables of the decoder laid as the program's text lays them; the arguments read as before. -/
import Derived.Test.YthlgpiinapiiaaaDoorM9
import Derived.Test.YthlgpiinapiiaaaDoorCards
import Derived.Test.YthlgpiinapiiaaaDoorTie
import Derived.WalkKit
import Derived.ProofKit
import Derived.OpenShut
import Derived.ChangeMaps5
import Derived.LaidMore
import Derived.Lay
import Derived.SevenTiedAt
import Derived.Stop.Joined
namespace Go.Proofs.YthlgpiinapiiaaaDoor.consoleDigits
open Go.ChangeShapes Go.WideShapes Go.ChangeAt Go.RowKit Go.ChangeMaps
set_option linter.unusedVariables false
set_option maxRecDepth 100000

theorem own : ownKnob Tryd.prog.godebug = none := by kernel_rfl
theorem kids : Kids Tryd.prog (· < Tryd.prog.types.size) := kids_rows (by kernel_rfl) (by kernel_rfl)
theorem full : ∀ t e, t < Tryd.prog.types.size → Tryd.prog.underlying t = some (.slice e) → 0 < Tryd.prog.cellsOf e := slices_full_of Tryd.prog (by kernel_rfl)

theorem walk (i : Sx.CdI) (hc : Sx.cdigC.cnd i) (w : World) (hG0 : Sx.GTab fun b => w.heap[b]?) {v0 v1 : Value} (hv : Sx.VRL (Sx.E0 w) (Sx.cdigC.pat i) [v0, v1]) :
    Calls Tryd.prog 4 #[v0, v1] w fun e w' => e = .returned (.bool true) ∧ Below w.heap.size w w' := by
  have hG := Sx.gokc Sx.rdig_ok (Sx.gokc Sx.num_ok (Sx.gokc Sx.head_ok (Sx.gokc Sx.known27_ok Sx.gok0)))
  refine (Sx.calls_of_walk (ys := [v0, v1]) Sx.mixed _ hG 0 Sx.cdigJ Sx.cdigA Tryd.func4 (by kernel_rfl) (by kernel_rfl) (by kernel_rfl) (Eq.mp (Sx.eqcdig i) (Sx.vcdig i hc)) hG0 hv).mono ?_
  rintro e w' ⟨y, rfl, hb, a, ha, o, _, E', hv⟩
  obtain rfl := List.mem_singleton.1 ha
  simp only [Sx.VR, Sx.DR] at hv
  exact ⟨by rw [hv.1], hb⟩

theorem lifted (os : Os) (started : os.Started) (H : Type) (enc : TypeId × Value → H) :
    ReturnsInHanded {} Tryd.checked os 4 .any (fun w args => (Rows.consoleDigitsSpec.pre enc Tryd.prog Tryd.f4 Rows.consoleDigitsRow.domain false w args ∧ laidMetH Tryd.prog Rows.consoleDigitsRow.laid w) ∧ sizedMet enc Tryd.prog Tryd.f4 (OpenSpec.ofChange Rows.consoleDigitsSpec) false w args)
      (Rows.consoleDigitsSpec.post enc Tryd.prog Tryd.f4 false true false false) := by
  refine returnsInHanded_of_change_and (C := Tryd.checked) (X := fun w _ => laidMetH Tryd.prog Rows.consoleDigitsRow.laid w) (fun _ _ _ hh h => h.of_heap hh) own started (by kernel_rfl) Tryd.func4
    (ChangeSpec.witness_shaped (enc := enc) (C := Tryd.checked) (os := os) (X := fun w _ => laidMetH Tryd.prog Rows.consoleDigitsRow.laid w) false (World.laidAll Tryd.prog os Rows.consoleDigitsRow.laid) #[.int .i64 0, .string .empty] 8 (World.laidAll_os _ _ _)
      (World.shaped_of_ZipB (by kernel_rfl) (by kernel_rfl)) (by kernel_rfl) (by kernel_rfl) (by kernel_rfl)
      (by rw [MakeChecks.laidMetH_plain _ _ _ (by kernel_rfl)]; exact laidMet_laidAll _ (by kernel_rfl) (by kernel_rfl))) ?_
  intro W base args ds gs before hval0 hW hcnd _ hL _
  have hval : ∀ (j : Nat) t v, Tryd.f4.params[j]? = some t → args[j]? = some v → Value.okWide Tryd.prog W .any base t v := hval0
  have hW' := hW
  obtain ⟨p, q, hA0, hV, rfl, hfz, hnd⟩ := hW
  have hA : DataW.TrodAll enc Tryd.prog W 0 (fun _ => true) true Tryd.f4.params.toList args.toList ds p := hA0
  rw [Tryd.params4] at hA hval
  have hA1 : DataW.TrodAll enc Tryd.prog W 0 (fun _ => true) true [2, 9] args.toList ds p := hA
  obtain ⟨v0, v1, d0, d1, p0, p1, rfl, rfl, rfl, h0, h1⟩ := trodAll_two hA
  obtain ⟨rfl, rfl⟩ := trodVars_none hV
  obtain ⟨n, rfl, rfl, rfl, wn⟩ := open_int Tryd.underlying2 (hval 0 2 v0 rfl rfl) h0
  obtain ⟨s, rfl, rfl, rfl, hs⟩ := open_string Tryd.underlying9 (hval 1 9 v1 rfl rfl) h1
  rw [MakeChecks.laidMetH_plain _ _ _ (by kernel_rfl)] at hL
  have hgt := Sx.gtab_laid hL
  simp only [List.append_nil] at hW' hA1
  have hsl : s = Sx.sb s.data.toList := rfl
  have hlen : s.data.toList.length ≤ 9223372036854775807 := by
    have e : s.data.toList.length = s.size := rfl
    rw [e]
    unfold maxLen at hs
    omega
  refine (walk ⟨n, s.data.toList⟩ ⟨bounds_i64 wn, hlen⟩ W hgt ?_).mono fun e W' ⟨he, hg⟩ => ?_
  · simp only [Sx.cdigC, Sx.VRL, Sx.VR, Sx.DR]
    exact ⟨_, _, rfl, ⟨rfl, rfl⟩, _, _, rfl, ⟨by rw [← hsl], rfl⟩, rfl⟩
  subst he
  refine ⟨_, rfl, Sx.post_of_below (pa := []) (pv := []) hW' (fun _ _ _ => (trodAll_cons_mk (shut_bool Tryd.underlying4 _) trodAll_mk0)) (fun sp hsp => ?_) (fun _ _ => rfl) (by simp)
    hg (ok_one (by kernel_rfl) rfl (okWide_bool_mk Tryd.underlying4 _))⟩
  exact Sx.args_stay kids full hg (by decide +kernel) hA1 (fun x hx => by simp at hx) hsp

theorem over : Rows.ConsoleDigitsSaid :=
  OpenClaim.holds_of_wide 4 Tryd.f4 rfl rfl rfl rfl rfl rfl rfl ⟨rfl, rfl, rfl, rfl, rfl⟩ rfl rfl rfl rfl rfl (by kernel_rfl) Tryd.func4 (by kernel_rfl)
    (of_decide_eq_true (by kernel_rfl)) (by unfold Func.isWrapper; first | (rw [if_pos (by decide +kernel)]; kernel_rfl) | (rw [if_neg (by decide +kernel)]; exact ⟨rfl, rfl⟩))
    (fun os started H enc _ => lifted os started H enc)

/-- The statement. -/
theorem proved : Rows.ConsoleDigitsCardSaid :=
  Claim7.holds_tied_plain_at .later [] [.data, .pinned] true Rows.consoleDigitsCard.stood.harness true over (fun _ h => by cases h) (by kernel_rfl) (fun _ h => by cases h) consoleDigits_row_tie rfl ⟨rfl, rfl⟩ (by kernel_rfl) rfl
    (fun f fn hf hfn => by
      obtain rfl : f = 4 := Option.some.inj ((show Tryd.prog.funcNamed Rows.consoleDigitsRow.func = some 4 by kernel_rfl).symm.trans hf) |>.symm
      obtain rfl : fn = Tryd.f4 := (Option.some.inj (Tryd.func4.symm.trans hfn)).symm
      exact ⟨by kernel_rfl, fun j t ht => by
        rw [Tryd.params4] at ht
        have hm : t ∈ [2, 9] := by simpa using Array.mem_of_getElem? ht
        have hall : ([2, 9].all fun u => !Tryd.prog.wantsStandIn u) = true := by kernel_rfl
        exact (show Tryd.prog.wantsStandIn t = false by simpa using List.all_eq_true.1 hall t hm)⟩)
    (by kernel_rfl)
#print axioms proved
end Go.Proofs.YthlgpiinapiiaaaDoor.consoleDigits
