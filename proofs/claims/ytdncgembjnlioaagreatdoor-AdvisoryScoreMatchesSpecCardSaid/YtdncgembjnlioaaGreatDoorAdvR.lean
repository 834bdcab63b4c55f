/-
  What the reference's Score and Rating return; what the program's Rating returns.
-/
import Derived.Test.YtdncgembjnlioaaGreatDoorAdvQ
namespace Go.Proofs.YtdncgembjnlioaaGreatDoor
open Go.RowKit Go.Maps

/-- the weight as the walk takes it -/
def WPost (l : List (Nat × Int)) (u : UInt8) (w : World) (e : Ending) (w' : World) : Prop :=
  ∃ c : Int, e = .returned (.int .i64 c) ∧ (c = -1 ∧ (look l u.toNat).isSome = false ∨ 0 ≤ c ∧ c ≤ 100 ∧ c = (look l u.toNat).getD 0 ∧ (look l u.toNat).isSome = true) ∧ Below w.heap.size w w'
theorem wpost {l : List (Nat × Int)} (hl : Small l) {u : UInt8} {w : World} {e : Ending} {w' : World} (h : e = .returned (.int .i64 ((look l u.toNat).getD (-1))) ∧ Below w.heap.size w w') : WPost l u w e w' := by
  obtain ⟨rfl, hb⟩ := h
  refine ⟨_, rfl, ?_, hb⟩
  have := look_bound hl u.toNat
  cases hk : look l u.toNat with
  | none => exact .inl ⟨rfl, rfl⟩
  | some c => rw [hk] at this; exact .inr ⟨this.1, this.2, rfl, rfl⟩

theorem val_mul {a b c d e f : Int} (h0 : 0 ≤ a * b * c) (h1 : 0 ≤ 1000000 - (100 - d) * (100 - e) * (100 - f)) (h : ¬ 1000000 - (100 - d) * (100 - e) * (100 - f) = 0) :
    val a b c d e f = min ((642 * (1000000 - (100 - d) * (100 - e) * (100 - f)) + 822 * (a * b * c) + 10000000 - 1) / 10000000) 100 := by
  have hx : 822 * a * b * c = 822 * (a * b * c) := by rw [Int.mul_assoc 822, Int.mul_assoc 822]
  unfold val lost
  rw [if_neg h, hx, Int.min_comm]
  generalize a * b * c = x at *
  generalize 1000000 - (100 - d) * (100 - e) * (100 - f) = y at *
  have : (10 * (642 * y + 822 * x) + 100000000 - 1) / 100000000 = (642 * y + 822 * x + 10000000 - 1) / 10000000 := by omega
  rw [this]

set_option maxRecDepth 100000 in
set_option maxHeartbeats 1000000 in
theorem refScore_six (s : ByteArray) (w : World) (hs : s.size = 6) :
    Calls Tryz.prog 8 #[.string s] w (ScorePost s w) := by
  go_enter Tryz.func8, Tryz.ntmps8
  go_wp2_with fail
  refine wp_loop_rounds 7 ?_
  rw [rounds_succ]
  go_wp2_with (go_at_call 13; refine ((weight_0 _ _).mono fun _ _ h => wpost (l := L0) rfl h).mono ?_; rintro e w0 hp; obtain ⟨c0, rfl, hc0, hb0⟩ := hp; have BB0 : Below w.heap.size w w0 := hb0; rcases hc0 with ⟨rfl, no0⟩ | ⟨lo0, hi0, v0, y0⟩; (have NO0 := Lib.hid no0; clear no0); rotate_left; (have V0 := Lib.hid v0; have Y0 := Lib.hid y0; clear v0 y0); rotate_right)
  · go_ret2
    exact scorePost_six hs (score6_no hs (by simp only [fits, at6]; simp [NO0.out])) BB0
  rw [rounds_succ]
  go_wp2_with (go_at_call 13; refine ((weight_1 _ _).mono fun _ _ h => wpost (l := L1) rfl h).mono ?_; rintro e w1 hp; obtain ⟨c1, rfl, hc1, hb1⟩ := hp; have BB1 : Below w.heap.size w w1 := BB0.trans (hb1.mono BB0.size); rcases hc1 with ⟨rfl, no1⟩ | ⟨lo1, hi1, v1, y1⟩; (have NO1 := Lib.hid no1; clear no1); rotate_left; (have V1 := Lib.hid v1; have Y1 := Lib.hid y1; clear v1 y1; have p1 := mul_bd lo0 lo1 hi0 hi1); rotate_right)
  · go_ret2
    exact scorePost_six hs (score6_no hs (by simp only [fits, at6]; simp [NO1.out])) BB1
  rw [rounds_succ]
  go_wp2_with (go_at_call 13; refine ((weight_2 _ _).mono fun _ _ h => wpost (l := L2) rfl h).mono ?_; rintro e w2 hp; obtain ⟨c2, rfl, hc2, hb2⟩ := hp; have BB2 : Below w.heap.size w w2 := BB1.trans (hb2.mono BB1.size); rcases hc2 with ⟨rfl, no2⟩ | ⟨lo2, hi2, v2, y2⟩; (have NO2 := Lib.hid no2; clear no2); rotate_left; (have V2 := Lib.hid v2; have Y2 := Lib.hid y2; clear v2 y2; have p2 := mul_bd p1.1 lo2 p1.2 hi2); rotate_right)
  · go_ret2
    exact scorePost_six hs (score6_no hs (by simp only [fits, at6]; simp [NO2.out])) BB2
  rw [rounds_succ]
  go_wp2_with (go_at_call 13; refine ((weight_3 _ _).mono fun _ _ h => wpost (l := L3) rfl h).mono ?_; rintro e w3 hp; obtain ⟨c3, rfl, hc3, hb3⟩ := hp; have BB3 : Below w.heap.size w w3 := BB2.trans (hb3.mono BB2.size); rcases hc3 with ⟨rfl, no3⟩ | ⟨lo3, hi3, v3, y3⟩; (have NO3 := Lib.hid no3; clear no3); rotate_left; (have V3 := Lib.hid v3; have Y3 := Lib.hid y3; clear v3 y3); rotate_right)
  · go_ret2
    exact scorePost_six hs (score6_no hs (by simp only [fits, at6]; simp [NO3.out])) BB3
  rw [rounds_succ]
  go_wp2_with (go_at_call 13; refine ((weight_4 _ _).mono fun _ _ h => wpost (l := L3) rfl h).mono ?_; rintro e w4 hp; obtain ⟨c4, rfl, hc4, hb4⟩ := hp; have BB4 : Below w.heap.size w w4 := BB3.trans (hb4.mono BB3.size); rcases hc4 with ⟨rfl, no4⟩ | ⟨lo4, hi4, v4, y4⟩; (have NO4 := Lib.hid no4; clear no4); rotate_left; (have V4 := Lib.hid v4; have Y4 := Lib.hid y4; clear v4 y4; have p3 := mul_bd (a := 100 - c3) (b := 100 - c4) (m := 100) (n := 100) (by omega) (by omega) (by omega) (by omega)); rotate_right)
  · go_ret2
    exact scorePost_six hs (score6_no hs (by simp only [fits, at6]; simp [NO4.out])) BB4
  rw [rounds_succ]
  go_wp2_with (go_at_call 13; refine ((weight_5 _ _).mono fun _ _ h => wpost (l := L3) rfl h).mono ?_; rintro e w5 hp; obtain ⟨c5, rfl, hc5, hb5⟩ := hp; have BB5 : Below w.heap.size w w5 := BB4.trans (hb5.mono BB4.size); rcases hc5 with ⟨rfl, no5⟩ | ⟨lo5, hi5, v5, y5⟩; (have NO5 := Lib.hid no5; clear no5); rotate_left; (have V5 := Lib.hid v5; have Y5 := Lib.hid y5; clear v5 y5; have p4 := mul_bd (b := 100 - c5) (n := 100) p3.1 (by omega) p3.2 (by omega)); rotate_right)
  · go_ret2
    exact scorePost_six hs (score6_no hs (by simp only [fits, at6]; simp [NO5.out])) BB5
  rw [rounds_succ]
  go_wp2
  all_goals have hfit : fits s hs = true := by simp [fits, at6, Y0.out, Y1.out, Y2.out, Y3.out, Y4.out, Y5.out]
  · have hz : (1000000 - (100 - c3) * (100 - c4) * (100 - c5) == 0) = true := by assumption
    go_ret2
    exact scorePost_six hs (by rw [score6_yes hs V0.out V1.out V2.out V3.out V4.out V5.out hfit, val_zero (by simpa using hz)]) BB5
  · have hz : (1000000 - (100 - c3) * (100 - c4) * (100 - c5) == 0) = false := by assumption
    go_ret2
    exact scorePost_six hs (by rw [score6_yes hs V0.out V1.out V2.out V3.out V4.out V5.out hfit, val_mul p2.1 (by omega) (by simpa using hz), Int.min_eq_right (by omega)]) BB5
  · have hz : (1000000 - (100 - c3) * (100 - c4) * (100 - c5) == 0) = false := by assumption
    go_ret2
    exact scorePost_six hs (by rw [score6_yes hs V0.out V1.out V2.out V3.out V4.out V5.out hfit, val_mul p2.1 (by omega) (by simpa using hz), Int.min_eq_left (by omega)]) BB5
/-- the reference's Score, at every text -/
theorem refScore_any (s : ByteArray) (w : World) (hm : s.size ≤ maxLen) : Calls Tryz.prog 8 #[.string s] w (ScorePost s w) := by
  by_cases hs : s.size = 6
  · exact refScore_six s w hs
  · unfold maxLen at hm
    have hs' : ((s.size : Int) != 6) = true := by rw [bne_iff_ne]; omega
    have hp : scoreV s = (0, 2) := by unfold scoreV; rw [dif_neg hs]
    have hfin : ∀ w', Below w.heap.size w w' → ScorePost s w (.returned (.tuple #[.int .i64 0, .int .i64 2])) w' := fun w' h => by unfold ScorePost; rw [hp]; exact ⟨rfl, h⟩
    clear hp hs
    have HF := Lib.hid hfin
    clear hfin
    go_enter Tryz.func8, Tryz.ntmps8
    go_wp2_with fail
    go_ret2
    exact HF.out _ (Below.refl _ _)

/-! Rating -/
def ratingV (n : Int) : Int × Int := if n < 0 ∨ 100 < n then (0, 9) else if n = 0 then (0, 0) else if n < 40 then (1, 0) else if n < 70 then (2, 0) else if n < 90 then (3, 0) else (4, 0)
def RatPost (n : Int) (w : World) (e : Ending) (w' : World) : Prop := e = .returned (.tuple #[.int .i64 (ratingV n).1, .int .i64 (ratingV n).2]) ∧ w = w'
theorem ratPost {n : Int} {a b : Int} (h : ratingV n = (a, b)) (w : World) : RatPost n w (.returned (.tuple #[.int .i64 a, .int .i64 b])) w := by unfold RatPost; rw [h]; exact ⟨rfl, rfl⟩
theorem rating_any (n : Int) (w : World) : Calls Tryz.prog 10 #[.int .i64 n] w (RatPost n w) := by
  go_enter Tryz.func10, Tryz.ntmps10
  go_wp2
  all_goals go_ret2
  all_goals (refine ratPost ?_ _; unfold ratingV; try simp only [beq_iff_eq, beq_eq_false_iff_ne, ne_eq] at *)
  all_goals ((repeat' split) <;> first | rfl | (exfalso; omega))
theorem refRating_any (n : Int) (w : World) : Calls Tryz.prog 9 #[.int .i64 n] w (RatPost n w) := by
  go_enter Tryz.func9, Tryz.ntmps9
  go_wp2
  all_goals go_ret2
  all_goals (refine ratPost ?_ _; unfold ratingV; try simp only [beq_iff_eq, beq_eq_false_iff_ne, ne_eq] at *)
  all_goals ((repeat' split) <;> first | rfl | (exfalso; omega))
#print axioms refScore_any
end Go.Proofs.YtdncgembjnlioaaGreatDoor
