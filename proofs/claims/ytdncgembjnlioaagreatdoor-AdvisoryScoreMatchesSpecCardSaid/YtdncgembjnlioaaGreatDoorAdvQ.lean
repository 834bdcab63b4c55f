/-
  What the reference's weight, returns.
-/
import Derived.Test.YtdncgembjnlioaaGreatDoorAdvS
import Derived.Handy
import Derived.Deep.Light
namespace Go.Proofs.YtdncgembjnlioaaGreatDoor
open Go.RowKit Go.Maps

theorem weight_0 (u : UInt8) (w : World) : Calls Tryz.prog 13 #[.int .i64 0, .int .u8 (u.toNat : Int)] w fun e w' => e = .returned (.int .i64 ((look L0 u.toNat).getD (-1))) ∧ Below w.heap.size w w' := by
  go_enter Tryz.func13, Tryz.ntmps13
  go_wp2
  refine wp_loop_rounds 5 ?_
  repeat any_goals (rw [rounds_succ]; go_wp2)
  all_goals go_ret
  all_goals refine ⟨?_, by go_grown⟩
  all_goals go_light
  all_goals simp [look, L0, List.find?]
  all_goals simp [ByteArray.getElem_eq_getElem_data] at *
  all_goals generalize u.toNat = n at *
  all_goals ((repeat' split) <;> (try simp_all) <;> (try omega))
theorem weight_1 (u : UInt8) (w : World) : Calls Tryz.prog 13 #[.int .i64 1, .int .u8 (u.toNat : Int)] w fun e w' => e = .returned (.int .i64 ((look L1 u.toNat).getD (-1))) ∧ Below w.heap.size w w' := by
  go_enter Tryz.func13, Tryz.ntmps13
  go_wp2
  refine wp_loop_rounds 3 ?_
  repeat any_goals (rw [rounds_succ]; go_wp2)
  all_goals go_ret
  all_goals refine ⟨?_, by go_grown⟩
  all_goals go_light
  all_goals simp [look, L1, List.find?]
  all_goals simp [ByteArray.getElem_eq_getElem_data] at *
  all_goals generalize u.toNat = n at *
  all_goals ((repeat' split) <;> (try simp_all) <;> (try omega))
theorem weight_2 (u : UInt8) (w : World) : Calls Tryz.prog 13 #[.int .i64 2, .int .u8 (u.toNat : Int)] w fun e w' => e = .returned (.int .i64 ((look L2 u.toNat).getD (-1))) ∧ Below w.heap.size w w' := by
  go_enter Tryz.func13, Tryz.ntmps13
  go_wp2
  refine wp_loop_rounds 4 ?_
  repeat any_goals (rw [rounds_succ]; go_wp2)
  all_goals go_ret
  all_goals refine ⟨?_, by go_grown⟩
  all_goals go_light
  all_goals simp [look, L2, List.find?]
  all_goals simp [ByteArray.getElem_eq_getElem_data] at *
  all_goals generalize u.toNat = n at *
  all_goals ((repeat' split) <;> (try simp_all) <;> (try omega))
theorem weight_3 (u : UInt8) (w : World) : Calls Tryz.prog 13 #[.int .i64 3, .int .u8 (u.toNat : Int)] w fun e w' => e = .returned (.int .i64 ((look L3 u.toNat).getD (-1))) ∧ Below w.heap.size w w' := by
  go_enter Tryz.func13, Tryz.ntmps13
  go_wp2
  refine wp_loop_rounds 4 ?_
  repeat any_goals (rw [rounds_succ]; go_wp2)
  all_goals go_ret
  all_goals refine ⟨?_, by go_grown⟩
  all_goals go_light
  all_goals simp [look, L3, List.find?]
  all_goals simp [ByteArray.getElem_eq_getElem_data] at *
  all_goals generalize u.toNat = n at *
  all_goals ((repeat' split) <;> (try simp_all) <;> (try omega))
theorem weight_4 (u : UInt8) (w : World) : Calls Tryz.prog 13 #[.int .i64 4, .int .u8 (u.toNat : Int)] w fun e w' => e = .returned (.int .i64 ((look L3 u.toNat).getD (-1))) ∧ Below w.heap.size w w' := by
  go_enter Tryz.func13, Tryz.ntmps13
  go_wp2
  refine wp_loop_rounds 4 ?_
  repeat any_goals (rw [rounds_succ]; go_wp2)
  all_goals go_ret
  all_goals refine ⟨?_, by go_grown⟩
  all_goals go_light
  all_goals simp [look, L3, List.find?]
  all_goals simp [ByteArray.getElem_eq_getElem_data] at *
  all_goals generalize u.toNat = n at *
  all_goals ((repeat' split) <;> (try simp_all) <;> (try omega))
theorem weight_5 (u : UInt8) (w : World) : Calls Tryz.prog 13 #[.int .i64 5, .int .u8 (u.toNat : Int)] w fun e w' => e = .returned (.int .i64 ((look L3 u.toNat).getD (-1))) ∧ Below w.heap.size w w' := by
  go_enter Tryz.func13, Tryz.ntmps13
  go_wp2
  refine wp_loop_rounds 4 ?_
  repeat any_goals (rw [rounds_succ]; go_wp2)
  all_goals go_ret
  all_goals refine ⟨?_, by go_grown⟩
  all_goals go_light
  all_goals simp [look, L3, List.find?]
  all_goals simp [ByteArray.getElem_eq_getElem_data] at *
  all_goals generalize u.toNat = n at *
  all_goals ((repeat' split) <;> (try simp_all) <;> (try omega))
end Go.Proofs.YtdncgembjnlioaaGreatDoor
