/-
  The walk of the law on scores, place by place.
-/
import Derived.Test.YtdncgembjnlioaaGreatDoorAdvX
import Derived.Test.YtdncgembjnlioaaGreatDoorAdvO
import Derived.Lib.ConvBytes
import Derived.BigQuiet
namespace Go.Proofs.YtdncgembjnlioaaGreatDoor
open Go.RowKit

theorem conv_one (u : UInt8) (W : World) : (convert 26 9 (.slice (some ⟨W.heap.size, 0, none⟩) 1 1)).run Tryz.prog (W.alloc (.cells #[.int .u8 (u.toNat : Int)] 5)).drew = .ok (.string ⟨#[u]⟩) (W.alloc (.cells #[.int .u8 (u.toNat : Int)] 5)).drew :=
  run_convert_bytes_back _ 26 9 5 ⟨W.heap.size, 0, none⟩ 1 [u] Tryz.underlying26 Tryz.underlying5 Tryz.underlying9 (by
    intro j hj
    have : j = 0 := by simp at hj; omega
    subst this
    simp [Addr.add])
theorem below_bytes {B : Nat} {w W : World} (h : Below B w W) (hB : B ≤ W.heap.size) (e : TypeId) (s : ByteArray) : Below B w (Lib.bytesWorld W e s) :=
  h.trans ⟨rfl, rfl, rfl, by rw [Lib.bytesWorld_size]; omega, fun i hi => Lib.bytesWorld_at_old W e s i (by omega)⟩

theorem form0 (s : ByteArray) (_hs : s.size = 6) (u : UInt8) : ⟨#[u]⟩ ++ s.extract 1 6 = repl s 0 u := by
  unfold repl; simp
theorem sidx0 (m0 m1 m2 m3 m4 m5 : Value) (w : World) : (Instr.index 27 (.agg #[m0, m1, m2, m3, m4, m5]) (.int .i64 0)).run Tryz.prog w = .ok m0 w := by kernel_rfl
set_option maxRecDepth 100000 in
set_option maxHeartbeats 4000000 in
theorem worseLaw_0 (s : ByteArray) (u : UInt8) (w : World) (hs : s.size = 6) (he : (scoreV s).2 = 0) :
    Calls Tryz.prog 3 #[.string s, .int .i64 0, .int .u8 (u.toNat : Int)] w fun e w' => e = .returned (.bool true) ∧ Below w.heap.size w w' := by
  have HM : Hid (s.size ≤ maxLen) := Lib.hid (by unfold maxLen; omega)
  have HR : Hid ((repl s 0 u).size ≤ maxLen) := Lib.hid (by rw [repl_size hs (by omega) u]; decide)
  have kc := conv_one u
  have ki := sidx0
  have kb := fun (s : ByteArray) (W : World) => Lib.run_convert_string_bytes (P := Tryz.prog) W 9 26 5 s Tryz.underlying9 Tryz.underlying26 Tryz.underlying5
  rcases worse_0 hs he u with ⟨q1, q2⟩ | ⟨q1, q2, q3, q4⟩ | ⟨q1, q2, q3, q4⟩ | ⟨q1, q2, q3, q4⟩
  · go_enter Tryz.func3, Tryz.ntmps3
    go_wp2_with (first
      | (go_at_call 5; refine (score_any s _ HM.out).mono ?_; rintro e w1 hp; obtain ⟨rfl, hb1⟩ := hp))
    go_region
    go_wp2_with (first
      | (go_at_call 5; rw [form0 s hs u]; refine (score_any (repl s 0 u) _ HR.out).mono ?_; rintro e w2 hp; obtain ⟨rfl, hb2⟩ := hp; have B2 : Below w.heap.size w w2 := below_then' hb2 ((hb1.alloc hb1.size _).drew) (by have := hb1.size; simp; omega))
      | (go_at_call 7; refine (index_any O0 _ _ _ _ (by decide) ?_).mono ?_; (first | exact fun j hj => Lib.bytesWorld_cell _ _ _ j hj | skip); rotate_left; (rintro e w' hp; obtain ⟨rfl, rfl⟩ := hp))
      | (go_at_call 6; refine (told_true _).mono ?_; rintro e w3 ⟨rfl, hb3⟩; have B3 : Below w.heap.size w w3 := below_then' hb3 (below_bytes (below_bytes B2 B2.size _ _) (by rw [Lib.bytesWorld_size]; have := B2.size; omega) _ _) (by rw [Lib.bytesWorld_size, Lib.bytesWorld_size]; have := B2.size; omega)))
    go_ret
    exact ⟨rfl, B3⟩
  · go_enter Tryz.func3, Tryz.ntmps3
    go_wp2_with (first
      | (go_at_call 5; refine (score_any s _ HM.out).mono ?_; rintro e w1 hp; obtain ⟨rfl, hb1⟩ := hp))
    go_region
    go_wp2_with (first
      | (go_at_call 5; rw [form0 s hs u]; refine (score_any (repl s 0 u) _ HR.out).mono ?_; rintro e w2 hp; obtain ⟨rfl, hb2⟩ := hp; have B2 : Below w.heap.size w w2 := below_then' hb2 ((hb1.alloc hb1.size _).drew) (by have := hb1.size; simp; omega))
      | (go_at_call 7; refine (index_any O0 _ _ _ _ (by decide) ?_).mono ?_; (first | exact fun j hj => Lib.bytesWorld_cell _ _ _ j hj | skip); rotate_left; (rintro e w' hp; obtain ⟨rfl, rfl⟩ := hp))
      | (go_at_call 6; refine (told_true _).mono ?_; rintro e w3 ⟨rfl, hb3⟩; have B3 : Below w.heap.size w w3 := below_then' hb3 (below_bytes (below_bytes B2 B2.size _ _) (by rw [Lib.bytesWorld_size]; have := B2.size; omega) _ _) (by rw [Lib.bytesWorld_size, Lib.bytesWorld_size]; have := B2.size; omega)))
    go_ret
    exact ⟨rfl, B3⟩
  · have q5 := Int.le_of_eq q3; have q6 := Int.le_of_eq q3.symm; have q7 := Int.le_of_eq q4; have q8 := Int.le_of_eq q4.symm; clear q3 q4
    go_enter Tryz.func3, Tryz.ntmps3
    go_wp2_with (first
      | (go_at_call 5; refine (score_any s _ HM.out).mono ?_; rintro e w1 hp; obtain ⟨rfl, hb1⟩ := hp))
    go_region
    go_wp2_with (first
      | (go_at_call 5; rw [form0 s hs u]; refine (score_any (repl s 0 u) _ HR.out).mono ?_; rintro e w2 hp; obtain ⟨rfl, hb2⟩ := hp; have B2 : Below w.heap.size w w2 := below_then' hb2 ((hb1.alloc hb1.size _).drew) (by have := hb1.size; simp; omega))
      | (go_at_call 7; refine (index_any O0 _ _ _ _ (by decide) ?_).mono ?_; (first | exact fun j hj => Lib.bytesWorld_cell _ _ _ j hj | skip); rotate_left; (rintro e w' hp; obtain ⟨rfl, rfl⟩ := hp))
      | (go_at_call 6; refine (told_true _).mono ?_; rintro e w3 ⟨rfl, hb3⟩; have B3 : Below w.heap.size w w3 := below_then' hb3 (below_bytes (below_bytes B2 B2.size _ _) (by rw [Lib.bytesWorld_size]; have := B2.size; omega) _ _) (by rw [Lib.bytesWorld_size, Lib.bytesWorld_size]; have := B2.size; omega)))
    go_ret
    exact ⟨rfl, B3⟩
  · go_enter Tryz.func3, Tryz.ntmps3
    go_wp2_with (first
      | (go_at_call 5; refine (score_any s _ HM.out).mono ?_; rintro e w1 hp; obtain ⟨rfl, hb1⟩ := hp))
    go_region
    go_wp2_with (first
      | (go_at_call 5; rw [form0 s hs u]; refine (score_any (repl s 0 u) _ HR.out).mono ?_; rintro e w2 hp; obtain ⟨rfl, hb2⟩ := hp; have B2 : Below w.heap.size w w2 := below_then' hb2 ((hb1.alloc hb1.size _).drew) (by have := hb1.size; simp; omega))
      | (go_at_call 7; refine (index_any O0 _ _ _ _ (by decide) ?_).mono ?_; (first | exact fun j hj => Lib.bytesWorld_cell _ _ _ j hj | skip); rotate_left; (rintro e w' hp; obtain ⟨rfl, rfl⟩ := hp))
      | (go_at_call 6; refine (told_true _).mono ?_; rintro e w3 ⟨rfl, hb3⟩; have B3 : Below w.heap.size w w3 := below_then' hb3 (below_bytes (below_bytes B2 B2.size _ _) (by rw [Lib.bytesWorld_size]; have := B2.size; omega) _ _) (by rw [Lib.bytesWorld_size, Lib.bytesWorld_size]; have := B2.size; omega)))
    go_ret
    exact ⟨rfl, B3⟩
theorem form1 (s : ByteArray) (_hs : s.size = 6) (u : UInt8) : s.extract 0 1 ++ ⟨#[u]⟩ ++ s.extract 2 6 = repl s 1 u := by
  rfl
theorem sidx1 (m0 m1 m2 m3 m4 m5 : Value) (w : World) : (Instr.index 27 (.agg #[m0, m1, m2, m3, m4, m5]) (.int .i64 1)).run Tryz.prog w = .ok m1 w := by kernel_rfl
set_option maxRecDepth 100000 in
set_option maxHeartbeats 4000000 in
theorem worseLaw_1 (s : ByteArray) (u : UInt8) (w : World) (hs : s.size = 6) (he : (scoreV s).2 = 0) :
    Calls Tryz.prog 3 #[.string s, .int .i64 1, .int .u8 (u.toNat : Int)] w fun e w' => e = .returned (.bool true) ∧ Below w.heap.size w w' := by
  have HM : Hid (s.size ≤ maxLen) := Lib.hid (by unfold maxLen; omega)
  have HR : Hid ((repl s 1 u).size ≤ maxLen) := Lib.hid (by rw [repl_size hs (by omega) u]; decide)
  have kc := conv_one u
  have ki := sidx1
  have kb := fun (s : ByteArray) (W : World) => Lib.run_convert_string_bytes (P := Tryz.prog) W 9 26 5 s Tryz.underlying9 Tryz.underlying26 Tryz.underlying5
  rcases worse_1 hs he u with ⟨q1, q2⟩ | ⟨q1, q2, q3, q4⟩ | ⟨q1, q2, q3, q4⟩ | ⟨q1, q2, q3, q4⟩
  · go_enter Tryz.func3, Tryz.ntmps3
    go_wp2_with (first
      | (go_at_call 5; refine (score_any s _ HM.out).mono ?_; rintro e w1 hp; obtain ⟨rfl, hb1⟩ := hp))
    go_region
    go_wp2_with (first
      | (go_at_call 5; rw [form1 s hs u]; refine (score_any (repl s 1 u) _ HR.out).mono ?_; rintro e w2 hp; obtain ⟨rfl, hb2⟩ := hp; have B2 : Below w.heap.size w w2 := below_then' hb2 ((hb1.alloc hb1.size _).drew) (by have := hb1.size; simp; omega))
      | (go_at_call 7; refine (index_any O1 _ _ _ _ (by decide) ?_).mono ?_; (first | exact fun j hj => Lib.bytesWorld_cell _ _ _ j hj | skip); rotate_left; (rintro e w' hp; obtain ⟨rfl, rfl⟩ := hp))
      | (go_at_call 6; refine (told_true _).mono ?_; rintro e w3 ⟨rfl, hb3⟩; have B3 : Below w.heap.size w w3 := below_then' hb3 (below_bytes (below_bytes B2 B2.size _ _) (by rw [Lib.bytesWorld_size]; have := B2.size; omega) _ _) (by rw [Lib.bytesWorld_size, Lib.bytesWorld_size]; have := B2.size; omega)))
    go_ret
    exact ⟨rfl, B3⟩
  · go_enter Tryz.func3, Tryz.ntmps3
    go_wp2_with (first
      | (go_at_call 5; refine (score_any s _ HM.out).mono ?_; rintro e w1 hp; obtain ⟨rfl, hb1⟩ := hp))
    go_region
    go_wp2_with (first
      | (go_at_call 5; rw [form1 s hs u]; refine (score_any (repl s 1 u) _ HR.out).mono ?_; rintro e w2 hp; obtain ⟨rfl, hb2⟩ := hp; have B2 : Below w.heap.size w w2 := below_then' hb2 ((hb1.alloc hb1.size _).drew) (by have := hb1.size; simp; omega))
      | (go_at_call 7; refine (index_any O1 _ _ _ _ (by decide) ?_).mono ?_; (first | exact fun j hj => Lib.bytesWorld_cell _ _ _ j hj | skip); rotate_left; (rintro e w' hp; obtain ⟨rfl, rfl⟩ := hp))
      | (go_at_call 6; refine (told_true _).mono ?_; rintro e w3 ⟨rfl, hb3⟩; have B3 : Below w.heap.size w w3 := below_then' hb3 (below_bytes (below_bytes B2 B2.size _ _) (by rw [Lib.bytesWorld_size]; have := B2.size; omega) _ _) (by rw [Lib.bytesWorld_size, Lib.bytesWorld_size]; have := B2.size; omega)))
    go_ret
    exact ⟨rfl, B3⟩
  · have q5 := Int.le_of_eq q3; have q6 := Int.le_of_eq q3.symm; have q7 := Int.le_of_eq q4; have q8 := Int.le_of_eq q4.symm; clear q3 q4
    go_enter Tryz.func3, Tryz.ntmps3
    go_wp2_with (first
      | (go_at_call 5; refine (score_any s _ HM.out).mono ?_; rintro e w1 hp; obtain ⟨rfl, hb1⟩ := hp))
    go_region
    go_wp2_with (first
      | (go_at_call 5; rw [form1 s hs u]; refine (score_any (repl s 1 u) _ HR.out).mono ?_; rintro e w2 hp; obtain ⟨rfl, hb2⟩ := hp; have B2 : Below w.heap.size w w2 := below_then' hb2 ((hb1.alloc hb1.size _).drew) (by have := hb1.size; simp; omega))
      | (go_at_call 7; refine (index_any O1 _ _ _ _ (by decide) ?_).mono ?_; (first | exact fun j hj => Lib.bytesWorld_cell _ _ _ j hj | skip); rotate_left; (rintro e w' hp; obtain ⟨rfl, rfl⟩ := hp))
      | (go_at_call 6; refine (told_true _).mono ?_; rintro e w3 ⟨rfl, hb3⟩; have B3 : Below w.heap.size w w3 := below_then' hb3 (below_bytes (below_bytes B2 B2.size _ _) (by rw [Lib.bytesWorld_size]; have := B2.size; omega) _ _) (by rw [Lib.bytesWorld_size, Lib.bytesWorld_size]; have := B2.size; omega)))
    go_ret
    exact ⟨rfl, B3⟩
  · go_enter Tryz.func3, Tryz.ntmps3
    go_wp2_with (first
      | (go_at_call 5; refine (score_any s _ HM.out).mono ?_; rintro e w1 hp; obtain ⟨rfl, hb1⟩ := hp))
    go_region
    go_wp2_with (first
      | (go_at_call 5; rw [form1 s hs u]; refine (score_any (repl s 1 u) _ HR.out).mono ?_; rintro e w2 hp; obtain ⟨rfl, hb2⟩ := hp; have B2 : Below w.heap.size w w2 := below_then' hb2 ((hb1.alloc hb1.size _).drew) (by have := hb1.size; simp; omega))
      | (go_at_call 7; refine (index_any O1 _ _ _ _ (by decide) ?_).mono ?_; (first | exact fun j hj => Lib.bytesWorld_cell _ _ _ j hj | skip); rotate_left; (rintro e w' hp; obtain ⟨rfl, rfl⟩ := hp))
      | (go_at_call 6; refine (told_true _).mono ?_; rintro e w3 ⟨rfl, hb3⟩; have B3 : Below w.heap.size w w3 := below_then' hb3 (below_bytes (below_bytes B2 B2.size _ _) (by rw [Lib.bytesWorld_size]; have := B2.size; omega) _ _) (by rw [Lib.bytesWorld_size, Lib.bytesWorld_size]; have := B2.size; omega)))
    go_ret
    exact ⟨rfl, B3⟩
theorem form2 (s : ByteArray) (_hs : s.size = 6) (u : UInt8) : s.extract 0 2 ++ ⟨#[u]⟩ ++ s.extract 3 6 = repl s 2 u := by
  rfl
theorem sidx2 (m0 m1 m2 m3 m4 m5 : Value) (w : World) : (Instr.index 27 (.agg #[m0, m1, m2, m3, m4, m5]) (.int .i64 2)).run Tryz.prog w = .ok m2 w := by kernel_rfl
set_option maxRecDepth 100000 in
set_option maxHeartbeats 4000000 in
theorem worseLaw_2 (s : ByteArray) (u : UInt8) (w : World) (hs : s.size = 6) (he : (scoreV s).2 = 0) :
    Calls Tryz.prog 3 #[.string s, .int .i64 2, .int .u8 (u.toNat : Int)] w fun e w' => e = .returned (.bool true) ∧ Below w.heap.size w w' := by
  have HM : Hid (s.size ≤ maxLen) := Lib.hid (by unfold maxLen; omega)
  have HR : Hid ((repl s 2 u).size ≤ maxLen) := Lib.hid (by rw [repl_size hs (by omega) u]; decide)
  have kc := conv_one u
  have ki := sidx2
  have kb := fun (s : ByteArray) (W : World) => Lib.run_convert_string_bytes (P := Tryz.prog) W 9 26 5 s Tryz.underlying9 Tryz.underlying26 Tryz.underlying5
  rcases worse_2 hs he u with ⟨q1, q2⟩ | ⟨q1, q2, q3, q4⟩ | ⟨q1, q2, q3, q4⟩ | ⟨q1, q2, q3, q4⟩
  · go_enter Tryz.func3, Tryz.ntmps3
    go_wp2_with (first
      | (go_at_call 5; refine (score_any s _ HM.out).mono ?_; rintro e w1 hp; obtain ⟨rfl, hb1⟩ := hp))
    go_region
    go_wp2_with (first
      | (go_at_call 5; rw [form2 s hs u]; refine (score_any (repl s 2 u) _ HR.out).mono ?_; rintro e w2 hp; obtain ⟨rfl, hb2⟩ := hp; have B2 : Below w.heap.size w w2 := below_then' hb2 ((hb1.alloc hb1.size _).drew) (by have := hb1.size; simp; omega))
      | (go_at_call 7; refine (index_any O2 _ _ _ _ (by decide) ?_).mono ?_; (first | exact fun j hj => Lib.bytesWorld_cell _ _ _ j hj | skip); rotate_left; (rintro e w' hp; obtain ⟨rfl, rfl⟩ := hp))
      | (go_at_call 6; refine (told_true _).mono ?_; rintro e w3 ⟨rfl, hb3⟩; have B3 : Below w.heap.size w w3 := below_then' hb3 (below_bytes (below_bytes B2 B2.size _ _) (by rw [Lib.bytesWorld_size]; have := B2.size; omega) _ _) (by rw [Lib.bytesWorld_size, Lib.bytesWorld_size]; have := B2.size; omega)))
    go_ret
    exact ⟨rfl, B3⟩
  · go_enter Tryz.func3, Tryz.ntmps3
    go_wp2_with (first
      | (go_at_call 5; refine (score_any s _ HM.out).mono ?_; rintro e w1 hp; obtain ⟨rfl, hb1⟩ := hp))
    go_region
    go_wp2_with (first
      | (go_at_call 5; rw [form2 s hs u]; refine (score_any (repl s 2 u) _ HR.out).mono ?_; rintro e w2 hp; obtain ⟨rfl, hb2⟩ := hp; have B2 : Below w.heap.size w w2 := below_then' hb2 ((hb1.alloc hb1.size _).drew) (by have := hb1.size; simp; omega))
      | (go_at_call 7; refine (index_any O2 _ _ _ _ (by decide) ?_).mono ?_; (first | exact fun j hj => Lib.bytesWorld_cell _ _ _ j hj | skip); rotate_left; (rintro e w' hp; obtain ⟨rfl, rfl⟩ := hp))
      | (go_at_call 6; refine (told_true _).mono ?_; rintro e w3 ⟨rfl, hb3⟩; have B3 : Below w.heap.size w w3 := below_then' hb3 (below_bytes (below_bytes B2 B2.size _ _) (by rw [Lib.bytesWorld_size]; have := B2.size; omega) _ _) (by rw [Lib.bytesWorld_size, Lib.bytesWorld_size]; have := B2.size; omega)))
    go_ret
    exact ⟨rfl, B3⟩
  · have q5 := Int.le_of_eq q3; have q6 := Int.le_of_eq q3.symm; have q7 := Int.le_of_eq q4; have q8 := Int.le_of_eq q4.symm; clear q3 q4
    go_enter Tryz.func3, Tryz.ntmps3
    go_wp2_with (first
      | (go_at_call 5; refine (score_any s _ HM.out).mono ?_; rintro e w1 hp; obtain ⟨rfl, hb1⟩ := hp))
    go_region
    go_wp2_with (first
      | (go_at_call 5; rw [form2 s hs u]; refine (score_any (repl s 2 u) _ HR.out).mono ?_; rintro e w2 hp; obtain ⟨rfl, hb2⟩ := hp; have B2 : Below w.heap.size w w2 := below_then' hb2 ((hb1.alloc hb1.size _).drew) (by have := hb1.size; simp; omega))
      | (go_at_call 7; refine (index_any O2 _ _ _ _ (by decide) ?_).mono ?_; (first | exact fun j hj => Lib.bytesWorld_cell _ _ _ j hj | skip); rotate_left; (rintro e w' hp; obtain ⟨rfl, rfl⟩ := hp))
      | (go_at_call 6; refine (told_true _).mono ?_; rintro e w3 ⟨rfl, hb3⟩; have B3 : Below w.heap.size w w3 := below_then' hb3 (below_bytes (below_bytes B2 B2.size _ _) (by rw [Lib.bytesWorld_size]; have := B2.size; omega) _ _) (by rw [Lib.bytesWorld_size, Lib.bytesWorld_size]; have := B2.size; omega)))
    go_ret
    exact ⟨rfl, B3⟩
  · go_enter Tryz.func3, Tryz.ntmps3
    go_wp2_with (first
      | (go_at_call 5; refine (score_any s _ HM.out).mono ?_; rintro e w1 hp; obtain ⟨rfl, hb1⟩ := hp))
    go_region
    go_wp2_with (first
      | (go_at_call 5; rw [form2 s hs u]; refine (score_any (repl s 2 u) _ HR.out).mono ?_; rintro e w2 hp; obtain ⟨rfl, hb2⟩ := hp; have B2 : Below w.heap.size w w2 := below_then' hb2 ((hb1.alloc hb1.size _).drew) (by have := hb1.size; simp; omega))
      | (go_at_call 7; refine (index_any O2 _ _ _ _ (by decide) ?_).mono ?_; (first | exact fun j hj => Lib.bytesWorld_cell _ _ _ j hj | skip); rotate_left; (rintro e w' hp; obtain ⟨rfl, rfl⟩ := hp))
      | (go_at_call 6; refine (told_true _).mono ?_; rintro e w3 ⟨rfl, hb3⟩; have B3 : Below w.heap.size w w3 := below_then' hb3 (below_bytes (below_bytes B2 B2.size _ _) (by rw [Lib.bytesWorld_size]; have := B2.size; omega) _ _) (by rw [Lib.bytesWorld_size, Lib.bytesWorld_size]; have := B2.size; omega)))
    go_ret
    exact ⟨rfl, B3⟩
end Go.Proofs.YtdncgembjnlioaaGreatDoor
