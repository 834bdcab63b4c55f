/-
  The walk of the law on scores, at the last three places.
-/
import Derived.Test.YtdncgembjnlioaaGreatDoorAdvY
namespace Go.Proofs.YtdncgembjnlioaaGreatDoor
open Go.RowKit

theorem form3 (s : ByteArray) (_hs : s.size = 6) (u : UInt8) : s.extract 0 3 ++ ⟨#[u]⟩ ++ s.extract 4 6 = repl s 3 u := by
  rfl
theorem sidx3 (m0 m1 m2 m3 m4 m5 : Value) (w : World) : (Instr.index 27 (.agg #[m0, m1, m2, m3, m4, m5]) (.int .i64 3)).run Tryz.prog w = .ok m3 w := by kernel_rfl
set_option maxRecDepth 100000 in
set_option maxHeartbeats 4000000 in
theorem worseLaw_3 (s : ByteArray) (u : UInt8) (w : World) (hs : s.size = 6) (he : (scoreV s).2 = 0) :
    Calls Tryz.prog 3 #[.string s, .int .i64 3, .int .u8 (u.toNat : Int)] w fun e w' => e = .returned (.bool true) ∧ Below w.heap.size w w' := by
  have HM : Hid (s.size ≤ maxLen) := Lib.hid (by unfold maxLen; omega)
  have HR : Hid ((repl s 3 u).size ≤ maxLen) := Lib.hid (by rw [repl_size hs (by omega) u]; decide)
  have kc := conv_one u
  have ki := sidx3
  have kb := fun (s : ByteArray) (W : World) => Lib.run_convert_string_bytes (P := Tryz.prog) W 9 26 5 s Tryz.underlying9 Tryz.underlying26 Tryz.underlying5
  rcases worse_3 hs he u with ⟨q1, q2⟩ | ⟨q1, q2, q3, q4⟩ | ⟨q1, q2, q3, q4⟩ | ⟨q1, q2, q3, q4⟩
  · go_enter Tryz.func3, Tryz.ntmps3
    go_wp2_with (first
      | (go_at_call 5; refine (score_any s _ HM.out).mono ?_; rintro e w1 hp; obtain ⟨rfl, hb1⟩ := hp))
    go_region
    go_wp2_with (first
      | (go_at_call 5; rw [form3 s hs u]; refine (score_any (repl s 3 u) _ HR.out).mono ?_; rintro e w2 hp; obtain ⟨rfl, hb2⟩ := hp; have B2 : Below w.heap.size w w2 := below_then' hb2 ((hb1.alloc hb1.size _).drew) (by have := hb1.size; simp; omega))
      | (go_at_call 7; refine (index_any O3 _ _ _ _ (by decide) ?_).mono ?_; (first | exact fun j hj => Lib.bytesWorld_cell _ _ _ j hj | skip); rotate_left; (rintro e w' hp; obtain ⟨rfl, rfl⟩ := hp))
      | (go_at_call 6; refine (told_true _).mono ?_; rintro e w3 ⟨rfl, hb3⟩; have B3 : Below w.heap.size w w3 := below_then' hb3 (below_bytes (below_bytes B2 B2.size _ _) (by rw [Lib.bytesWorld_size]; have := B2.size; omega) _ _) (by rw [Lib.bytesWorld_size, Lib.bytesWorld_size]; have := B2.size; omega)))
    go_ret
    exact ⟨rfl, B3⟩
  · go_enter Tryz.func3, Tryz.ntmps3
    go_wp2_with (first
      | (go_at_call 5; refine (score_any s _ HM.out).mono ?_; rintro e w1 hp; obtain ⟨rfl, hb1⟩ := hp))
    go_region
    go_wp2_with (first
      | (go_at_call 5; rw [form3 s hs u]; refine (score_any (repl s 3 u) _ HR.out).mono ?_; rintro e w2 hp; obtain ⟨rfl, hb2⟩ := hp; have B2 : Below w.heap.size w w2 := below_then' hb2 ((hb1.alloc hb1.size _).drew) (by have := hb1.size; simp; omega))
      | (go_at_call 7; refine (index_any O3 _ _ _ _ (by decide) ?_).mono ?_; (first | exact fun j hj => Lib.bytesWorld_cell _ _ _ j hj | skip); rotate_left; (rintro e w' hp; obtain ⟨rfl, rfl⟩ := hp))
      | (go_at_call 6; refine (told_true _).mono ?_; rintro e w3 ⟨rfl, hb3⟩; have B3 : Below w.heap.size w w3 := below_then' hb3 (below_bytes (below_bytes B2 B2.size _ _) (by rw [Lib.bytesWorld_size]; have := B2.size; omega) _ _) (by rw [Lib.bytesWorld_size, Lib.bytesWorld_size]; have := B2.size; omega)))
    go_ret
    exact ⟨rfl, B3⟩
  · have q5 := Int.le_of_eq q3; have q6 := Int.le_of_eq q3.symm; have q7 := Int.le_of_eq q4; have q8 := Int.le_of_eq q4.symm; clear q3 q4
    go_enter Tryz.func3, Tryz.ntmps3
    go_wp2_with (first
      | (go_at_call 5; refine (score_any s _ HM.out).mono ?_; rintro e w1 hp; obtain ⟨rfl, hb1⟩ := hp))
    go_region
    go_wp2_with (first
      | (go_at_call 5; rw [form3 s hs u]; refine (score_any (repl s 3 u) _ HR.out).mono ?_; rintro e w2 hp; obtain ⟨rfl, hb2⟩ := hp; have B2 : Below w.heap.size w w2 := below_then' hb2 ((hb1.alloc hb1.size _).drew) (by have := hb1.size; simp; omega))
      | (go_at_call 7; refine (index_any O3 _ _ _ _ (by decide) ?_).mono ?_; (first | exact fun j hj => Lib.bytesWorld_cell _ _ _ j hj | skip); rotate_left; (rintro e w' hp; obtain ⟨rfl, rfl⟩ := hp))
      | (go_at_call 6; refine (told_true _).mono ?_; rintro e w3 ⟨rfl, hb3⟩; have B3 : Below w.heap.size w w3 := below_then' hb3 (below_bytes (below_bytes B2 B2.size _ _) (by rw [Lib.bytesWorld_size]; have := B2.size; omega) _ _) (by rw [Lib.bytesWorld_size, Lib.bytesWorld_size]; have := B2.size; omega)))
    go_ret
    exact ⟨rfl, B3⟩
  · go_enter Tryz.func3, Tryz.ntmps3
    go_wp2_with (first
      | (go_at_call 5; refine (score_any s _ HM.out).mono ?_; rintro e w1 hp; obtain ⟨rfl, hb1⟩ := hp))
    go_region
    go_wp2_with (first
      | (go_at_call 5; rw [form3 s hs u]; refine (score_any (repl s 3 u) _ HR.out).mono ?_; rintro e w2 hp; obtain ⟨rfl, hb2⟩ := hp; have B2 : Below w.heap.size w w2 := below_then' hb2 ((hb1.alloc hb1.size _).drew) (by have := hb1.size; simp; omega))
      | (go_at_call 7; refine (index_any O3 _ _ _ _ (by decide) ?_).mono ?_; (first | exact fun j hj => Lib.bytesWorld_cell _ _ _ j hj | skip); rotate_left; (rintro e w' hp; obtain ⟨rfl, rfl⟩ := hp))
      | (go_at_call 6; refine (told_true _).mono ?_; rintro e w3 ⟨rfl, hb3⟩; have B3 : Below w.heap.size w w3 := below_then' hb3 (below_bytes (below_bytes B2 B2.size _ _) (by rw [Lib.bytesWorld_size]; have := B2.size; omega) _ _) (by rw [Lib.bytesWorld_size, Lib.bytesWorld_size]; have := B2.size; omega)))
    go_ret
    exact ⟨rfl, B3⟩
theorem form4 (s : ByteArray) (_hs : s.size = 6) (u : UInt8) : s.extract 0 4 ++ ⟨#[u]⟩ ++ s.extract 5 6 = repl s 4 u := by
  rfl
theorem sidx4 (m0 m1 m2 m3 m4 m5 : Value) (w : World) : (Instr.index 27 (.agg #[m0, m1, m2, m3, m4, m5]) (.int .i64 4)).run Tryz.prog w = .ok m4 w := by kernel_rfl
set_option maxRecDepth 100000 in
set_option maxHeartbeats 4000000 in
theorem worseLaw_4 (s : ByteArray) (u : UInt8) (w : World) (hs : s.size = 6) (he : (scoreV s).2 = 0) :
    Calls Tryz.prog 3 #[.string s, .int .i64 4, .int .u8 (u.toNat : Int)] w fun e w' => e = .returned (.bool true) ∧ Below w.heap.size w w' := by
  have HM : Hid (s.size ≤ maxLen) := Lib.hid (by unfold maxLen; omega)
  have HR : Hid ((repl s 4 u).size ≤ maxLen) := Lib.hid (by rw [repl_size hs (by omega) u]; decide)
  have kc := conv_one u
  have ki := sidx4
  have kb := fun (s : ByteArray) (W : World) => Lib.run_convert_string_bytes (P := Tryz.prog) W 9 26 5 s Tryz.underlying9 Tryz.underlying26 Tryz.underlying5
  rcases worse_4 hs he u with ⟨q1, q2⟩ | ⟨q1, q2, q3, q4⟩ | ⟨q1, q2, q3, q4⟩ | ⟨q1, q2, q3, q4⟩
  · go_enter Tryz.func3, Tryz.ntmps3
    go_wp2_with (first
      | (go_at_call 5; refine (score_any s _ HM.out).mono ?_; rintro e w1 hp; obtain ⟨rfl, hb1⟩ := hp))
    go_region
    go_wp2_with (first
      | (go_at_call 5; rw [form4 s hs u]; refine (score_any (repl s 4 u) _ HR.out).mono ?_; rintro e w2 hp; obtain ⟨rfl, hb2⟩ := hp; have B2 : Below w.heap.size w w2 := below_then' hb2 ((hb1.alloc hb1.size _).drew) (by have := hb1.size; simp; omega))
      | (go_at_call 7; refine (index_any O3 _ _ _ _ (by decide) ?_).mono ?_; (first | exact fun j hj => Lib.bytesWorld_cell _ _ _ j hj | skip); rotate_left; (rintro e w' hp; obtain ⟨rfl, rfl⟩ := hp))
      | (go_at_call 6; refine (told_true _).mono ?_; rintro e w3 ⟨rfl, hb3⟩; have B3 : Below w.heap.size w w3 := below_then' hb3 (below_bytes (below_bytes B2 B2.size _ _) (by rw [Lib.bytesWorld_size]; have := B2.size; omega) _ _) (by rw [Lib.bytesWorld_size, Lib.bytesWorld_size]; have := B2.size; omega)))
    go_ret
    exact ⟨rfl, B3⟩
  · go_enter Tryz.func3, Tryz.ntmps3
    go_wp2_with (first
      | (go_at_call 5; refine (score_any s _ HM.out).mono ?_; rintro e w1 hp; obtain ⟨rfl, hb1⟩ := hp))
    go_region
    go_wp2_with (first
      | (go_at_call 5; rw [form4 s hs u]; refine (score_any (repl s 4 u) _ HR.out).mono ?_; rintro e w2 hp; obtain ⟨rfl, hb2⟩ := hp; have B2 : Below w.heap.size w w2 := below_then' hb2 ((hb1.alloc hb1.size _).drew) (by have := hb1.size; simp; omega))
      | (go_at_call 7; refine (index_any O3 _ _ _ _ (by decide) ?_).mono ?_; (first | exact fun j hj => Lib.bytesWorld_cell _ _ _ j hj | skip); rotate_left; (rintro e w' hp; obtain ⟨rfl, rfl⟩ := hp))
      | (go_at_call 6; refine (told_true _).mono ?_; rintro e w3 ⟨rfl, hb3⟩; have B3 : Below w.heap.size w w3 := below_then' hb3 (below_bytes (below_bytes B2 B2.size _ _) (by rw [Lib.bytesWorld_size]; have := B2.size; omega) _ _) (by rw [Lib.bytesWorld_size, Lib.bytesWorld_size]; have := B2.size; omega)))
    go_ret
    exact ⟨rfl, B3⟩
  · have q5 := Int.le_of_eq q3; have q6 := Int.le_of_eq q3.symm; have q7 := Int.le_of_eq q4; have q8 := Int.le_of_eq q4.symm; clear q3 q4
    go_enter Tryz.func3, Tryz.ntmps3
    go_wp2_with (first
      | (go_at_call 5; refine (score_any s _ HM.out).mono ?_; rintro e w1 hp; obtain ⟨rfl, hb1⟩ := hp))
    go_region
    go_wp2_with (first
      | (go_at_call 5; rw [form4 s hs u]; refine (score_any (repl s 4 u) _ HR.out).mono ?_; rintro e w2 hp; obtain ⟨rfl, hb2⟩ := hp; have B2 : Below w.heap.size w w2 := below_then' hb2 ((hb1.alloc hb1.size _).drew) (by have := hb1.size; simp; omega))
      | (go_at_call 7; refine (index_any O3 _ _ _ _ (by decide) ?_).mono ?_; (first | exact fun j hj => Lib.bytesWorld_cell _ _ _ j hj | skip); rotate_left; (rintro e w' hp; obtain ⟨rfl, rfl⟩ := hp))
      | (go_at_call 6; refine (told_true _).mono ?_; rintro e w3 ⟨rfl, hb3⟩; have B3 : Below w.heap.size w w3 := below_then' hb3 (below_bytes (below_bytes B2 B2.size _ _) (by rw [Lib.bytesWorld_size]; have := B2.size; omega) _ _) (by rw [Lib.bytesWorld_size, Lib.bytesWorld_size]; have := B2.size; omega)))
    go_ret
    exact ⟨rfl, B3⟩
  · go_enter Tryz.func3, Tryz.ntmps3
    go_wp2_with (first
      | (go_at_call 5; refine (score_any s _ HM.out).mono ?_; rintro e w1 hp; obtain ⟨rfl, hb1⟩ := hp))
    go_region
    go_wp2_with (first
      | (go_at_call 5; rw [form4 s hs u]; refine (score_any (repl s 4 u) _ HR.out).mono ?_; rintro e w2 hp; obtain ⟨rfl, hb2⟩ := hp; have B2 : Below w.heap.size w w2 := below_then' hb2 ((hb1.alloc hb1.size _).drew) (by have := hb1.size; simp; omega))
      | (go_at_call 7; refine (index_any O3 _ _ _ _ (by decide) ?_).mono ?_; (first | exact fun j hj => Lib.bytesWorld_cell _ _ _ j hj | skip); rotate_left; (rintro e w' hp; obtain ⟨rfl, rfl⟩ := hp))
      | (go_at_call 6; refine (told_true _).mono ?_; rintro e w3 ⟨rfl, hb3⟩; have B3 : Below w.heap.size w w3 := below_then' hb3 (below_bytes (below_bytes B2 B2.size _ _) (by rw [Lib.bytesWorld_size]; have := B2.size; omega) _ _) (by rw [Lib.bytesWorld_size, Lib.bytesWorld_size]; have := B2.size; omega)))
    go_ret
    exact ⟨rfl, B3⟩
theorem form5 (s : ByteArray) (_hs : s.size = 6) (u : UInt8) : s.extract 0 5 ++ ⟨#[u]⟩ = repl s 5 u := by
  unfold repl; rw [show s.extract (5 + 1) 6 = ByteArray.empty by ext1; simp]; simp
theorem sidx5 (m0 m1 m2 m3 m4 m5 : Value) (w : World) : (Instr.index 27 (.agg #[m0, m1, m2, m3, m4, m5]) (.int .i64 5)).run Tryz.prog w = .ok m5 w := by kernel_rfl
set_option maxRecDepth 100000 in
set_option maxHeartbeats 4000000 in
theorem worseLaw_5 (s : ByteArray) (u : UInt8) (w : World) (hs : s.size = 6) (he : (scoreV s).2 = 0) :
    Calls Tryz.prog 3 #[.string s, .int .i64 5, .int .u8 (u.toNat : Int)] w fun e w' => e = .returned (.bool true) ∧ Below w.heap.size w w' := by
  have HM : Hid (s.size ≤ maxLen) := Lib.hid (by unfold maxLen; omega)
  have HR : Hid ((repl s 5 u).size ≤ maxLen) := Lib.hid (by rw [repl_size hs (by omega) u]; decide)
  have kc := conv_one u
  have ki := sidx5
  have kb := fun (s : ByteArray) (W : World) => Lib.run_convert_string_bytes (P := Tryz.prog) W 9 26 5 s Tryz.underlying9 Tryz.underlying26 Tryz.underlying5
  rcases worse_5 hs he u with ⟨q1, q2⟩ | ⟨q1, q2, q3, q4⟩ | ⟨q1, q2, q3, q4⟩ | ⟨q1, q2, q3, q4⟩
  · go_enter Tryz.func3, Tryz.ntmps3
    go_wp2_with (first
      | (go_at_call 5; refine (score_any s _ HM.out).mono ?_; rintro e w1 hp; obtain ⟨rfl, hb1⟩ := hp))
    go_region
    go_wp2_with (first
      | (go_at_call 5; rw [form5 s hs u]; refine (score_any (repl s 5 u) _ HR.out).mono ?_; rintro e w2 hp; obtain ⟨rfl, hb2⟩ := hp; have B2 : Below w.heap.size w w2 := below_then' hb2 ((hb1.alloc hb1.size _).drew) (by have := hb1.size; simp; omega))
      | (go_at_call 7; refine (index_any O3 _ _ _ _ (by decide) ?_).mono ?_; (first | exact fun j hj => Lib.bytesWorld_cell _ _ _ j hj | skip); rotate_left; (rintro e w' hp; obtain ⟨rfl, rfl⟩ := hp))
      | (go_at_call 6; refine (told_true _).mono ?_; rintro e w3 ⟨rfl, hb3⟩; have B3 : Below w.heap.size w w3 := below_then' hb3 (below_bytes (below_bytes B2 B2.size _ _) (by rw [Lib.bytesWorld_size]; have := B2.size; omega) _ _) (by rw [Lib.bytesWorld_size, Lib.bytesWorld_size]; have := B2.size; omega)))
    go_ret
    exact ⟨rfl, B3⟩
  · go_enter Tryz.func3, Tryz.ntmps3
    go_wp2_with (first
      | (go_at_call 5; refine (score_any s _ HM.out).mono ?_; rintro e w1 hp; obtain ⟨rfl, hb1⟩ := hp))
    go_region
    go_wp2_with (first
      | (go_at_call 5; rw [form5 s hs u]; refine (score_any (repl s 5 u) _ HR.out).mono ?_; rintro e w2 hp; obtain ⟨rfl, hb2⟩ := hp; have B2 : Below w.heap.size w w2 := below_then' hb2 ((hb1.alloc hb1.size _).drew) (by have := hb1.size; simp; omega))
      | (go_at_call 7; refine (index_any O3 _ _ _ _ (by decide) ?_).mono ?_; (first | exact fun j hj => Lib.bytesWorld_cell _ _ _ j hj | skip); rotate_left; (rintro e w' hp; obtain ⟨rfl, rfl⟩ := hp))
      | (go_at_call 6; refine (told_true _).mono ?_; rintro e w3 ⟨rfl, hb3⟩; have B3 : Below w.heap.size w w3 := below_then' hb3 (below_bytes (below_bytes B2 B2.size _ _) (by rw [Lib.bytesWorld_size]; have := B2.size; omega) _ _) (by rw [Lib.bytesWorld_size, Lib.bytesWorld_size]; have := B2.size; omega)))
    go_ret
    exact ⟨rfl, B3⟩
  · have q5 := Int.le_of_eq q3; have q6 := Int.le_of_eq q3.symm; have q7 := Int.le_of_eq q4; have q8 := Int.le_of_eq q4.symm; clear q3 q4
    go_enter Tryz.func3, Tryz.ntmps3
    go_wp2_with (first
      | (go_at_call 5; refine (score_any s _ HM.out).mono ?_; rintro e w1 hp; obtain ⟨rfl, hb1⟩ := hp))
    go_region
    go_wp2_with (first
      | (go_at_call 5; rw [form5 s hs u]; refine (score_any (repl s 5 u) _ HR.out).mono ?_; rintro e w2 hp; obtain ⟨rfl, hb2⟩ := hp; have B2 : Below w.heap.size w w2 := below_then' hb2 ((hb1.alloc hb1.size _).drew) (by have := hb1.size; simp; omega))
      | (go_at_call 7; refine (index_any O3 _ _ _ _ (by decide) ?_).mono ?_; (first | exact fun j hj => Lib.bytesWorld_cell _ _ _ j hj | skip); rotate_left; (rintro e w' hp; obtain ⟨rfl, rfl⟩ := hp))
      | (go_at_call 6; refine (told_true _).mono ?_; rintro e w3 ⟨rfl, hb3⟩; have B3 : Below w.heap.size w w3 := below_then' hb3 (below_bytes (below_bytes B2 B2.size _ _) (by rw [Lib.bytesWorld_size]; have := B2.size; omega) _ _) (by rw [Lib.bytesWorld_size, Lib.bytesWorld_size]; have := B2.size; omega)))
    go_ret
    exact ⟨rfl, B3⟩
  · go_enter Tryz.func3, Tryz.ntmps3
    go_wp2_with (first
      | (go_at_call 5; refine (score_any s _ HM.out).mono ?_; rintro e w1 hp; obtain ⟨rfl, hb1⟩ := hp))
    go_region
    go_wp2_with (first
      | (go_at_call 5; rw [form5 s hs u]; refine (score_any (repl s 5 u) _ HR.out).mono ?_; rintro e w2 hp; obtain ⟨rfl, hb2⟩ := hp; have B2 : Below w.heap.size w w2 := below_then' hb2 ((hb1.alloc hb1.size _).drew) (by have := hb1.size; simp; omega))
      | (go_at_call 7; refine (index_any O3 _ _ _ _ (by decide) ?_).mono ?_; (first | exact fun j hj => Lib.bytesWorld_cell _ _ _ j hj | skip); rotate_left; (rintro e w' hp; obtain ⟨rfl, rfl⟩ := hp))
      | (go_at_call 6; refine (told_true _).mono ?_; rintro e w3 ⟨rfl, hb3⟩; have B3 : Below w.heap.size w w3 := below_then' hb3 (below_bytes (below_bytes B2 B2.size _ _) (by rw [Lib.bytesWorld_size]; have := B2.size; omega) _ _) (by rw [Lib.bytesWorld_size, Lib.bytesWorld_size]; have := B2.size; omega)))
    go_ret
    exact ⟨rfl, B3⟩
end Go.Proofs.YtdncgembjnlioaaGreatDoor
