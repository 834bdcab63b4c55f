/-
  What advisory.Score returns.
-/
import Derived.Test.YtdncgembjnlioaaGreatDoorAdvW
import Derived.LoopN
namespace Go.Proofs.YtdncgembjnlioaaGreatDoor
open Go.RowKit Go.Maps

theorem Owns.alloc {w : World} {b : Nat} {D : DataW Unit} (h : Owns w b D) (o : Obj) : Owns (w.alloc o) b D := World.ownsMap.alloc h o
theorem Owns.lt {w : World} {b : Nat} {D : DataW Unit} (h : Owns w b D) : b < w.heap.size := World.ownsMap.lt h
theorem wf_byte (u : UInt8) : (Lit.int .u8 (u.toNat : Int)).wf = true := WalkArith.wf_u8 (by have := u.toNat_lt; omega)
def Small (l : List (Nat × Int)) : Prop := l.all (fun p => decide (0 ≤ p.2) && decide (p.2 ≤ 100)) = true

/-- a letter looked up -/
theorem wpList_look {w : World} {ops : Array Oper} {rest : List Oper} {o : Oper} {a : Act} {Q : Exit → Act → World → Prop}
    (hg : o.guard = none) (m x : Operand) (hop : o.op = Op.lookup 32 m x true) (b : Nat) (l : List (Nat × Int)) (hl : Small l)
    (hm : a.eval m = .map (some b)) (hown : Owns w b (lits l)) (u : UInt8) (hx : a.eval x = .int .u8 (u.toNat : Int))
    (hK : ∀ (c : Int) (ok : Bool), Hid (c = (look l u.toNat).getD 0) → Hid (ok = (look l u.toNat).isSome) → 0 ≤ c → c ≤ 100 → wpList Tryz.prog ops Q rest (a.put o.dst (.tuple #[.int .i64 c, .bool ok])) w) :
    wpList Tryz.prog ops Q (o :: rest) a w := by
  refine wpList_lookup_own_ok_int w hg m x 32 hop 5 3 .i64 lawByte Tryz.underlying32 Tryz.underlying3 (zeroInt _) b 10 (lits l) hm hown _ _ hx (keyOf_int_mk Tryz.underlying5 (wf_byte u)) ?_
  intro c hat _
  have hc := at_lits l u.toNat c hat
  have hb := look_bound hl u.toNat
  exact hK c _ (Lib.hid hc) (Lib.hid (has_lits l u.toNat)) (by omega) (by omega)

theorem idx0 (m0 m1 m2 m3 m4 m5 : Value) (w : World) : (Instr.index 33 (.agg #[m0, m1, m2, m3, m4, m5]) (.int .i64 0)).run Tryz.prog w = .ok m0 w := by kernel_rfl
theorem idx1 (m0 m1 m2 m3 m4 m5 : Value) (w : World) : (Instr.index 33 (.agg #[m0, m1, m2, m3, m4, m5]) (.int .i64 1)).run Tryz.prog w = .ok m1 w := by kernel_rfl
theorem idx2 (m0 m1 m2 m3 m4 m5 : Value) (w : World) : (Instr.index 33 (.agg #[m0, m1, m2, m3, m4, m5]) (.int .i64 2)).run Tryz.prog w = .ok m2 w := by kernel_rfl
theorem idx3 (m0 m1 m2 m3 m4 m5 : Value) (w : World) : (Instr.index 33 (.agg #[m0, m1, m2, m3, m4, m5]) (.int .i64 3)).run Tryz.prog w = .ok m3 w := by kernel_rfl
theorem idx4 (m0 m1 m2 m3 m4 m5 : Value) (w : World) : (Instr.index 33 (.agg #[m0, m1, m2, m3, m4, m5]) (.int .i64 4)).run Tryz.prog w = .ok m4 w := by kernel_rfl
theorem idx5 (m0 m1 m2 m3 m4 m5 : Value) (w : World) : (Instr.index 33 (.agg #[m0, m1, m2, m3, m4, m5]) (.int .i64 5)).run Tryz.prog w = .ok m5 w := by kernel_rfl

/-- the letter at a place of a vector of six -/
def at6 (s : ByteArray) (h : s.size = 6) (k : Nat) (hk : k < 6) : Nat := (s[k]'(by omega)).toNat
/-- the letters of a vector all have a weight -/
def fits (s : ByteArray) (h : s.size = 6) : Bool :=
  (look L0 (at6 s h 0 (by omega))).isSome && (look L1 (at6 s h 1 (by omega))).isSome && (look L2 (at6 s h 2 (by omega))).isSome && (look L3 (at6 s h 3 (by omega))).isSome && (look L3 (at6 s h 4 (by omega))).isSome && (look L3 (at6 s h 5 (by omega))).isSome
def lost (a b c : Int) : Int := 1000000 - (100 - a) * (100 - b) * (100 - c)
def val (a b c d e f : Int) : Int := if lost d e f = 0 then 0 else min 100 ((10 * (642 * lost d e f + 822 * a * b * c) + 100000000 - 1) / 100000000)
/-- the score of a vector of six, and its error -/
def score6 (s : ByteArray) (h : s.size = 6) : Int × Int :=
  if fits s h = true then (val ((look L0 (at6 s h 0 (by omega))).getD 0) ((look L1 (at6 s h 1 (by omega))).getD 0) ((look L2 (at6 s h 2 (by omega))).getD 0) ((look L3 (at6 s h 3 (by omega))).getD 0) ((look L3 (at6 s h 4 (by omega))).getD 0) ((look L3 (at6 s h 5 (by omega))).getD 0), 0)
  else (0, 7)
def scoreV (s : ByteArray) : Int × Int := if h : s.size = 6 then score6 s h else (0, 2)
def ScorePost (s : ByteArray) (w : World) (e : Ending) (w' : World) : Prop := e = .returned (.tuple #[.int .i64 (scoreV s).1, .int .i64 (scoreV s).2]) ∧ Below w.heap.size w w'
theorem scorePost_six {s : ByteArray} (h : s.size = 6) {w w' : World} {v c : Int} (hv : score6 s h = (v, c)) (hb : Below w.heap.size w w') : ScorePost s w (.returned (.tuple #[.int .i64 v, .int .i64 c])) w' := by
  unfold ScorePost scoreV
  rw [dif_pos h, hv]
  exact ⟨rfl, hb⟩
theorem score6_no {s : ByteArray} (h : s.size = 6) (hf : fits s h = false) : score6 s h = (0, 7) := by unfold score6; rw [hf]; rfl
theorem score6_yes {s : ByteArray} (h : s.size = 6) {a b c d e f : Int} (ha : a = (look L0 (at6 s h 0 (by omega))).getD 0) (hb : b = (look L1 (at6 s h 1 (by omega))).getD 0) (hc : c = (look L2 (at6 s h 2 (by omega))).getD 0)
    (hd : d = (look L3 (at6 s h 3 (by omega))).getD 0) (he : e = (look L3 (at6 s h 4 (by omega))).getD 0) (hf : f = (look L3 (at6 s h 5 (by omega))).getD 0) (hfit : fits s h = true) : score6 s h = (val a b c d e f, 0) := by
  unfold score6; rw [hfit, if_pos rfl, ← ha, ← hb, ← hc, ← hd, ← he, ← hf]
theorem val_zero {a b c d e f : Int} (h : 1000000 - (100 - d) * (100 - e) * (100 - f) = 0) : val a b c d e f = 0 := by unfold val lost; rw [if_pos h]
theorem val_low {a b c d e f : Int} (h : ¬ 1000000 - (100 - d) * (100 - e) * (100 - f) = 0) (hm : (10 * (642 * (1000000 - (100 - d) * (100 - e) * (100 - f)) + 822 * a * b * c) + 100000000 - 1) / 100000000 ≤ 100) :
    val a b c d e f = (10 * (642 * (1000000 - (100 - d) * (100 - e) * (100 - f)) + 822 * a * b * c) + 100000000 - 1) / 100000000 := by
  unfold val lost; rw [if_neg h, Int.min_eq_right hm]
theorem val_high {a b c d e f : Int} (h : ¬ 1000000 - (100 - d) * (100 - e) * (100 - f) = 0) (hm : 100 ≤ (10 * (642 * (1000000 - (100 - d) * (100 - e) * (100 - f)) + 822 * a * b * c) + 100000000 - 1) / 100000000) :
    val a b c d e f = 100 := by
  unfold val lost; rw [if_neg h, Int.min_eq_left hm]
theorem below_two {B : Nat} {w w1 : World} (h : Below B w w1) (hB : B ≤ w1.heap.size) (x y : Obj) : Below B w ((w1.alloc x).alloc y) := (h.alloc hB x).alloc (by simp; omega) y

theorem mul_bd {a b m n : Int} (ha : 0 ≤ a) (hb : 0 ≤ b) (ham : a ≤ m) (hbn : b ≤ n) : 0 ≤ a * b ∧ a * b ≤ m * n :=
  ⟨Int.mul_nonneg ha hb, Int.mul_le_mul ham hbn hb (Int.le_trans ha ham)⟩

set_option maxHeartbeats 1000000 in
set_option maxRecDepth 100000 in
theorem score_six (s : ByteArray) (w : World) (hs : s.size = 6) :
    Calls Tryz.prog 5 #[.string s] w (ScorePost s w) := by
  have i0 := idx0
  have i1 := idx1
  have i2 := idx2
  have i3 := idx3
  have i4 := idx4
  have i5 := idx5
  go_enter Tryz.func5, Tryz.ntmps5
  go_wp2_with (first
    | (go_at_call 11; refine (weights_any _).mono ?_; rintro e w1 hp; rw [WtsPost, DL_eq, D0_eq, D1_eq, D2_eq] at hp; obtain ⟨bL, b0, b1, b2, rfl, oL, o0, o1, o2, hb⟩ := hp; have l0 := o0.lt; have l1 := o1.lt; have l2 := o2.lt; have lL := oL.lt))
  refine wp_loop_rounds 7 ?_
  rw [rounds_succ]
  go_wp2_with (first
    | (at_lookup; refine wpList_look rfl _ _ rfl b0 L0 rfl rfl ((o0.alloc _).alloc _) _ rfl ?_; intro c0 ok0 hc0 hok0 hlo0 hhi0; cases ok0))
  · go_ret2
    exact scorePost_six hs (score6_no hs (by simp [fits, at6, ← hok0.out])) (below_two hb hb.size _ _)
  rw [rounds_succ]
  go_wp2_with (first
    | (at_lookup; refine wpList_look rfl _ _ rfl b1 L1 rfl rfl ((o1.alloc _).alloc _) _ rfl ?_; intro c1 ok1 hc1 hok1 hlo1 hhi1; cases ok1))
  · go_ret2
    exact scorePost_six hs (score6_no hs (by simp [fits, at6, ← hok1.out])) (below_two hb hb.size _ _)
  rw [rounds_succ]
  go_wp2_with (first
    | (at_lookup; refine wpList_look rfl _ _ rfl b2 L2 rfl rfl ((o2.alloc _).alloc _) _ rfl ?_; intro c2 ok2 hc2 hok2 hlo2 hhi2; cases ok2))
  · go_ret2
    exact scorePost_six hs (score6_no hs (by simp [fits, at6, ← hok2.out])) (below_two hb hb.size _ _)
  rw [rounds_succ]
  go_wp2_with (first
    | (at_lookup; refine wpList_look rfl _ _ rfl bL L3 rfl rfl ((oL.alloc _).alloc _) _ rfl ?_; intro c3 ok3 hc3 hok3 hlo3 hhi3; cases ok3))
  · go_ret2
    exact scorePost_six hs (score6_no hs (by simp [fits, at6, ← hok3.out])) (below_two hb hb.size _ _)
  rw [rounds_succ]
  go_wp2_with (first
    | (at_lookup; refine wpList_look rfl _ _ rfl bL L3 rfl rfl ((oL.alloc _).alloc _) _ rfl ?_; intro c4 ok4 hc4 hok4 hlo4 hhi4; cases ok4))
  · go_ret2
    exact scorePost_six hs (score6_no hs (by simp [fits, at6, ← hok4.out])) (below_two hb hb.size _ _)
  rw [rounds_succ]
  go_wp2_with (first
    | (at_lookup; refine wpList_look rfl _ _ rfl bL L3 rfl rfl ((oL.alloc _).alloc _) _ rfl ?_; intro c5 ok5 hc5 hok5 hlo5 hhi5; cases ok5))
  · go_ret2
    exact scorePost_six hs (score6_no hs (by simp [fits, at6, ← hok5.out])) (below_two hb hb.size _ _)
  rw [rounds_succ]
  have p1 := mul_bd (a := 100 - c3) (b := 100 - c4) (m := 100) (n := 100) (by omega) (by omega) (by omega) (by omega)
  have p2 := mul_bd (b := 100 - c5) (n := 100) p1.1 (by omega) p1.2 (by omega)
  have p3 := mul_bd (a := 822 * c0) (b := c1) (m := 82200) (n := 100) (by omega) (by omega) (by omega) (by omega)
  have p4 := mul_bd (b := c2) (n := 100) p3.1 (by omega) p3.2 (by omega)
  go_wp2
  all_goals go_ret2
  all_goals have hfit : fits s hs = true := by simp [fits, at6, ← hok0.out, ← hok1.out, ← hok2.out, ← hok3.out, ← hok4.out, ← hok5.out]
  · have hz : (1000000 - (100 - c3) * (100 - c4) * (100 - c5) == 0) = true := by assumption
    exact scorePost_six hs (by rw [score6_yes hs hc0.out hc1.out hc2.out hc3.out hc4.out hc5.out hfit, val_zero (by simpa using hz)]) (below_two hb hb.size _ _)
  · have hz : (1000000 - (100 - c3) * (100 - c4) * (100 - c5) == 0) = false := by assumption
    exact scorePost_six hs (by rw [score6_yes hs hc0.out hc1.out hc2.out hc3.out hc4.out hc5.out hfit, val_low (by simpa using hz) (by omega)]) (below_two hb hb.size _ _)
  · have hz : (1000000 - (100 - c3) * (100 - c4) * (100 - c5) == 0) = false := by assumption
    exact scorePost_six hs (by rw [score6_yes hs hc0.out hc1.out hc2.out hc3.out hc4.out hc5.out hfit, val_high (by simpa using hz) (by omega)]) (below_two hb hb.size _ _)

/-- advisory.Score, at every text -/
theorem score_any (s : ByteArray) (w : World) (hm : s.size ≤ maxLen) : Calls Tryz.prog 5 #[.string s] w (ScorePost s w) := by
  by_cases hs : s.size = 6
  · exact score_six s w hs
  · unfold maxLen at hm
    have hs' : ((s.size : Int) != 6) = true := by rw [bne_iff_ne]; omega
    have hp : scoreV s = (0, 2) := by unfold scoreV; rw [dif_neg hs]
    have hfin : ∀ w', Below w.heap.size w w' → ScorePost s w (.returned (.tuple #[.int .i64 0, .int .i64 2])) w' := fun w' h => by unfold ScorePost; rw [hp]; exact ⟨rfl, h⟩
    clear hp hs
    have HF := Lib.hid hfin
    clear hfin
    go_enter Tryz.func5, Tryz.ntmps5
    go_wp2_with (first
      | (go_at_call 11; refine (weights_any _).mono ?_; rintro e w1 hp; obtain ⟨bL, b0, b1, b2, rfl, oL, o0, o1, o2, hb⟩ := hp))
    go_ret2
    exact HF.out _ (hb.alloc hb.size _)
#print axioms score_any
end Go.Proofs.YtdncgembjnlioaaGreatDoor
