/-
  told: the two calls that every statement of provenderlaw5 makes answer as the document tells: copies, and a sort of one.
-/
import Derived.Test.YtdncgembjnlioaaGreatDoorAdvT
import Derived.Lib.SliceRun
namespace Go.Proofs.YtdncgembjnlioaaGreatDoor
open Go.RowKit Go.Maps

theorem insertion_one (s : Value) (f : Value) (w : World) : Calls Tryz.prog 26 #[s, .int .i64 0, .int .i64 1, f] w fun e w' => e = .returned (.tuple #[]) ∧ w = w' := by
  go_enter Tryz.func26, Tryz.ntmps26
  go_wp2
  refine wp_loop_rounds 1 ?_
  rw [rounds_succ]
  go_wp2
  go_end0
  exact ⟨rfl, rfl⟩
set_option maxRecDepth 100000 in
theorem pdq_one (s : Value) (f : Value) (n : Int) (w : World) : Calls Tryz.prog 22 #[s, .int .i64 0, .int .i64 1, .int .i64 n, f] w fun e w' => e = .returned (.tuple #[]) ∧ w = w' := by
  go_enter Tryz.func22, Tryz.ntmps22
  go_wp2
  refine wp_loop_rounds 1 ?_
  rw [rounds_succ]
  go_wp2_with (go_at_call 26; refine (insertion_one _ _ _).mono ?_; rintro e w' ⟨rfl, rfl⟩)
  first | go_end0 | go_returns
  exact ⟨rfl, rfl⟩
set_option maxRecDepth 100000 in
theorem len_one (w : World) : Calls Tryz.prog 23 #[.int .u64 1] w fun e w' => ∃ n : Int, e = .returned (.int .i64 n) ∧ w = w' := by
  go_enter Tryz.func23, Tryz.ntmps23
  go_wp2
  go_ret
  exact ⟨_, rfl, rfl⟩
theorem sort_one (a : Option Addr) (c : Nat) (f : Value) (w : World) : Calls Tryz.prog 17 #[.slice a 1 c, f] w fun e w' => e = .returned (.tuple #[]) ∧ w = w' := by
  go_enter Tryz.func17, Tryz.ntmps17
  go_wp2_with (first
    | (go_at_call 23; refine (len_one _).mono ?_; rintro e w' ⟨n, rfl, rfl⟩)
    | (go_at_call 22; refine (pdq_one _ _ _ _).mono ?_; rintro e w' ⟨rfl, rfl⟩))
  go_end0
  exact ⟨rfl, rfl⟩
theorem clone_nil (w : World) : Calls Tryz.prog 20 #[.slice none 0 0] w fun e w' => e = .returned (.slice none 0 0) ∧ w = w' := by
  have q : ∀ (w : World) (a : Option Addr) (n c n' c' : Nat), (binOp .eql 43 (.slice a n c) (.slice none n' c')).run Tryz.prog w = .ok (.bool a.isNone) w := fun w a n c n' c' => Lib.run_eql_slice_nil w _ _ a n c n' c' Tryz.underlying43
  go_enter Tryz.func20, Tryz.ntmps20
  go_wp2
  go_ret
  exact ⟨rfl, rfl⟩
theorem copied_A (w : World) : Calls Tryz.prog 16 #[.agg #[.string ⟨#[65]⟩, .slice none 0 0, .string ⟨#[120]⟩, .int .i64 0, .bool false, .string ⟨#[]⟩, .slice none 0 0]] w fun e w' => e = .returned (.agg #[.string ⟨#[65]⟩, .slice none 0 0, .string ⟨#[120]⟩, .int .i64 0, .bool false, .string ⟨#[]⟩, .slice none 0 0]) ∧ Below w.heap.size w w' := by
  go_enter Tryz.func16, Tryz.ntmps16
  go_wp2_with (go_at_call 20; refine (clone_nil _).mono ?_; rintro e w' ⟨rfl, rfl⟩)
  refine wp_loop_rounds 1 ?_
  rw [rounds_succ]
  go_wp2
  go_returns
  exact ⟨rfl, by go_grown⟩
end Go.Proofs.YtdncgembjnlioaaGreatDoor
