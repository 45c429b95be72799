/- Texts of ours, one behind the other: a walk that the kernel reckons, and contracts of functions. No condition. -/
import Derived.Lib.LaidU8
import Derived.Stop.LaidErr
import Derived.Test.YthlgpiinapiiaaaGreatDoorRows
import Derived.Test.YthlgpiinapiiaaaGreatDoorM11

namespace Sx
set_option linter.unusedVariables false
set_option linter.unusedSimpArgs false
set_option maxRecDepth 100000
open Go Go.RowKit Go.Proofs Go.Lib

theorem layU8 : U8Extra Tryz.prog shelfRen := {
  n3 := by kernel_rfl
  n4 := by kernel_rfl
  y3 := by kernel_rfl
  y4 := by kernel_rfl
  c5 := by kernel_rfl
  c119 := by kernel_rfl
  c138 := by kernel_rfl }
theorem row_of_cells {w : World} {g n : Nat} {v : Nat → Value} (hn : 0 < n) (h : ∀ c, c < n → w.cell? ⟨g, c, none⟩ = some (v c)) : ∃ o, w.heap[g]? = some o ∧ ∃ l T fr, o = .cells l T fr ∧ ∀ c, c < n → l[c]? = some (v c) := by
  have h0 := h 0 hn
  unfold World.cell? at h0
  dsimp only at h0
  split at h0
  · rename_i l T fr hg
    refine ⟨_, hg, l, T, fr, rfl, fun c hc => ?_⟩
    have := h c hc
    unfold World.cell? at this
    dsimp only at this
    rw [hg] at this
    simpa using this
  · cases h0
theorem gtab_of {w : World} (h : Lib.Utf8Tabs (shelfRen.g 3) (shelfRen.g 4) w) (h5 : Lib.TabIs Tryz.prog w "internal/strconv.uint64pow10" .u64 Lib.pow10Tab) : GTab fun b => w.heap[b]? := by
  obtain ⟨h1, h2⟩ := h
  intro g hg
  rcases List.mem_cons.1 hg with rfl | hg
  · exact row_of_cells (n := 256) (v := fun c => .int .u8 (firstT c)) (by decide) h1
  rcases List.mem_cons.1 hg with rfl | hg
  · have h3 : ∀ c, c < 32 → w.cell? ⟨shelfRen.g 4, c, none⟩ = some (if c % 2 = 0 then Value.int .u8 (accLo (c / 2)) else Value.int .u8 (accHi (c / 2))) := by
      intro c hc
      obtain ⟨q1, q2⟩ := h2 (c / 2) (by omega)
      by_cases he : c % 2 = 0
      · rw [if_pos he, ← q1]; congr 2; omega
      · rw [if_neg he, ← q2]; congr 2; omega
    obtain ⟨o, e1, l, T, fr, rfl, e2⟩ := row_of_cells (n := 32) (v := fun c => if c % 2 = 0 then Value.int .u8 (accLo (c / 2)) else Value.int .u8 (accHi (c / 2))) (by decide) h3
    refine ⟨_, e1, l, T, fr, rfl, fun i hi => ⟨?_, ?_⟩⟩
    · have := e2 (2 * i) (by omega)
      rw [this, if_pos (by omega), show 2 * i / 2 = i by omega]
    · have := e2 (2 * i + 1) (by omega)
      rw [this, if_neg (by omega), show (2 * i + 1) / 2 = i by omega]
  rcases List.mem_cons.1 hg with rfl | hg
  · have hg2 : Tryz.prog.globalNamed "internal/strconv.uint64pow10" = some 0 := by kernel_rfl
    have h5 : (Tryz.prog.globalNamed "internal/strconv.uint64pow10").bind _ = _ := h5
    rw [hg2, Option.bind_some] at h5
    dsimp only
    split at h5
    · rename_i cs T fr hc
      cases h5
      exact ⟨_, hc, T, fr, rfl⟩
    · cases h5
  · cases hg
theorem first_eq : YthlgpiinapiiaaaGreatDoor.Rows.laid_unicode_utf8_first = firstData := by kernel_rfl
theorem accept_eq : (YthlgpiinapiiaaaGreatDoor.Rows.laid_unicode_utf8_acceptRanges : DataW Unit) = acceptData := by kernel_rfl
theorem gtab_laid {w : World} (h : laidMet Tryz.prog YthlgpiinapiiaaaGreatDoor.Rows.consoleTellsRow.laid w) : GTab fun b => w.heap[b]? := by
  have h4 := laidMet.reads h (List.mem_cons_of_mem _ (List.mem_cons_of_mem _ (List.mem_cons_of_mem _ (List.mem_cons_self))))
  have h3 := laidMet.reads h (List.mem_cons_of_mem _ (List.mem_cons_of_mem _ (List.mem_cons_of_mem _ (List.mem_cons_of_mem _ List.mem_cons_self))))
  rw [accept_eq] at h4
  rw [first_eq] at h3
  have h5 : laidMet Tryz.prog (("internal/strconv.uint64pow10", tabData .u64 pow10Tab) :: _) w := laidMet.tail (laidMet.tail h)
  exact gtab_of (utf8Tabs_of_reads layn260 layU8 h3 h4) (tabIs_of_head (g := 0) (by kernel_rfl) rfl rfl rfl (by kernel_rfl) (by kernel_rfl) h5)

end Sx

