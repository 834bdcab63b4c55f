/-
  told: the two calls that every statement of provenderlaw5 makes answer as the document tells.
-/
import Derived.Test.YtdncgembjnlioaaGreatDoorAdvS
import Derived.Handy
namespace Go.Proofs.YtdncgembjnlioaaGreatDoor
open Go.RowKit Go.Maps

theorem bcell {W w1 : World} (hb : Below W.heap.size W w1) : (∀ b o, b < W.heap.size → w1.cell? ⟨b, o, none⟩ = W.cell? ⟨b, o, none⟩) ∧ (∀ b o, b < W.heap.size → w1.frozen? ⟨b, o, none⟩ = W.frozen? ⟨b, o, none⟩) :=
  ⟨fun b o h => hb.cell (p := ⟨b, o, none⟩) h, fun b o h => hb.frozen (p := ⟨b, o, none⟩) h⟩

theorem isId_A (w : World) : Calls Tryz.prog 37 #[.string ⟨#[65]⟩] w fun e w' => e = .returned (.bool true) ∧ w = w' := by
  go_enter Tryz.func37, Tryz.ntmps37
  go_wp2
  refine wp_loop_rounds 2 ?_
  rw [rounds_succ]
  go_wp2
  rw [rounds_succ]
  go_wp2
  go_ret
  exact ⟨rfl, rfl⟩
theorem isId_x (w : World) : Calls Tryz.prog 37 #[.string ⟨#[120]⟩] w fun e w' => e = .returned (.bool true) ∧ w = w' := by
  go_enter Tryz.func37, Tryz.ntmps37
  go_wp2
  refine wp_loop_rounds 2 ?_
  rw [rounds_succ]
  go_wp2
  rw [rounds_succ]
  go_wp2
  go_ret
  exact ⟨rfl, rfl⟩
/-- the advisory of told -/
def advA : Value := .agg #[.string ⟨#[65]⟩, .slice none 0 0, .string ⟨#[120]⟩, .int .i64 0, .bool false, .string ⟨#[]⟩, .slice none 0 0]
theorem checkAliases_A (w : World) : Calls Tryz.prog 38 #[.agg #[.string ⟨#[65]⟩, .slice none 0 0, .string ⟨#[120]⟩, .int .i64 0, .bool false, .string ⟨#[]⟩, .slice none 0 0]] w fun e w' => e = .returned (.int .i64 0) ∧ Below w.heap.size w w' := by
  go_enter Tryz.func38, Tryz.ntmps38
  go_wp2
  refine wp_loop_rounds 1 ?_
  rw [rounds_succ]
  go_wp2
  go_ret
  exact ⟨rfl, (Below.refl _ _).alloc (Nat.le_refl _) _⟩
set_option maxRecDepth 100000 in
theorem ranges_A (w : World) : Calls Tryz.prog 25 #[.agg #[.string ⟨#[65]⟩, .slice none 0 0, .string ⟨#[120]⟩, .int .i64 0, .bool false, .string ⟨#[]⟩, .slice none 0 0]] w fun e w' => e = .returned (.tuple #[.slice none 0 0, .int .i64 0]) ∧ Below w.heap.size w w' := by
  go_enter Tryz.func25, Tryz.ntmps25
  go_wp2_with (first
    | (go_at_call 37; first | ((with_reducible refine (isId_A _).mono ?_); rintro e w' ⟨rfl, rfl⟩) | ((with_reducible refine (isId_x _).mono ?_); rintro e w' ⟨rfl, rfl⟩))
    | (go_at_call 38; refine (checkAliases_A _).mono ?_; rintro e w1 ⟨rfl, hb1⟩; obtain ⟨hc, hf⟩ := bcell hb1; have hz : w.heap.size + 1 ≤ w1.heap.size := by have := hb1.size; simpa using this))
  refine wp_loop_rounds 1 ?_
  rw [rounds_succ]
  go_wp2
  go_ret2
  exact ⟨rfl, ((Below.refl _ _).alloc (Nat.le_refl _) _).trans (hb1.mono (by simp))⟩
theorem check_A (w : World) : Calls Tryz.prog 19 #[.agg #[.string ⟨#[65]⟩, .slice none 0 0, .string ⟨#[120]⟩, .int .i64 0, .bool false, .string ⟨#[]⟩, .slice none 0 0]] w fun e w' => e = .returned (.int .i64 0) ∧ Below w.heap.size w w' := by
  go_enter Tryz.func19, Tryz.ntmps19
  go_wp2_with (first
    | (go_at_call 25; refine (ranges_A _).mono ?_; rintro e w1 ⟨rfl, hb1⟩))
  go_ret
  exact ⟨rfl, ((Below.refl _ _).alloc (Nat.le_refl _) _).trans (hb1.mono (by simp))⟩
/-- a list of the one advisory -/
theorem checkList_A (b : Nat) (w : World) (t : TypeId) (hb : w.heap[b]? = some (.cells #[.string ⟨#[65]⟩, .slice none 0 0, .string ⟨#[120]⟩, .int .i64 0, .bool false, .string ⟨#[]⟩, .slice none 0 0] t (0, 0))) :
    Calls Tryz.prog 15 #[.slice (some ⟨b, 0, none⟩) 1 1] w fun e w' => e = .returned (.int .i64 0) ∧ Below w.heap.size w w' := by
  have c0 := cell_of_row w b 0 _ _ _ hb
  have c1 := cell_of_row w b 1 _ _ _ hb
  have c2 := cell_of_row w b 2 _ _ _ hb
  have c3 := cell_of_row w b 3 _ _ _ hb
  have c4 := cell_of_row w b 4 _ _ _ hb
  have c5 := cell_of_row w b 5 _ _ _ hb
  have c6 := cell_of_row w b 6 _ _ _ hb
  have hlt : b < w.heap.size := (Array.getElem?_eq_some_iff.1 hb).1
  simp at c0 c1 c2 c3 c4 c5 c6
  clear hb
  go_enter Tryz.func15, Tryz.ntmps15
  go_wp2
  refine wp_loop_rounds 2 ?_
  rw [rounds_succ]
  go_wp2_with (first
    | (go_at_call 19; refine (check_A _).mono ?_; rintro e w1 ⟨rfl, hb1⟩))
  rw [rounds_succ]
  go_wp2
  go_ret
  exact ⟨rfl, ((Below.refl _ _).alloc (Nat.le_refl _) _).trans (hb1.mono (by simp))⟩
end Go.Proofs.YtdncgembjnlioaaGreatDoor
