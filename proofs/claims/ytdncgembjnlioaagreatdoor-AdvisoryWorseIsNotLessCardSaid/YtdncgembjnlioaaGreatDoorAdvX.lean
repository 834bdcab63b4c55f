/-
  told answers true.
-/
import Derived.Test.YtdncgembjnlioaaGreatDoorAdvV
namespace Go.Proofs.YtdncgembjnlioaaGreatDoor
open Go.RowKit Go.Maps

theorem scoreV_told : scoreV ⟨#[78, 72, 76, 76, 78, 78]⟩ = (34, 0) := by decide +kernel

set_option maxRecDepth 100000 in
theorem told_true (w : World) : Calls Tryz.prog 6 #[] w fun e w' => e = .returned (.bool true) ∧ Below w.heap.size w w' := by
  go_enter Tryz.func6, Tryz.ntmps6
  go_wp2_with (first
    | (go_at_call 5; refine (score_any _ _ (by decide)).mono ?_; rintro e w1 hp; unfold ScorePost at hp; rw [scoreV_told] at hp; obtain ⟨rfl, hb1⟩ := hp)
    | (go_at_call 12; refine (new_A _ _ (heap_alloc_new _ _)).mono ?_; rintro e w2 hq; obtain ⟨g, cap, g4, cap4, rfl, hb2⟩ := hq; have BL2 : Below w.heap.size w w2 := below_then' hb2 (hb1.alloc hb1.size _) (by have := hb1.size; simp; omega); have z2 := BL2.size))
  go_ret
  exact ⟨rfl, by go_grown⟩
#print axioms told_true
end Go.Proofs.YtdncgembjnlioaaGreatDoor
