/-
  What advisory.weights returns: six maps, of which the last three are one, read as the lists of weights; nothing that was there before is changed.
-/
import Derived.Test.YtdncgembjnlioaaGreatDoorProg
import Derived.WalkKit
import Derived.Maps.OwnSet
import Derived.WalkSpells
import Derived.KernelRfl
import Derived.Lib.Hide
import Derived.Laws.Rows
namespace Go.Proofs.YtdncgembjnlioaaGreatDoor
open Go.RowKit Go.Maps

theorem wpList_insert_own {H : Type} {P : Program} (w : World) {ops : Array Oper} {rest : List Oper} {o : Oper} {a : Act} {Q : Exit → Act → World → Prop}
    (hg : o.guard = none) (m x v : Operand) (t : TypeId) (hop : o.op = Op.insert t m x v)
    (k e : TypeId) (K : Keyed P k) (ht : P.underlying t = some (.map k e)) (R : Value → Option (DataW H × List MemPlace)) (b n : Nat) (D : DataW H)
    (hm : a.eval m = .map (some b)) (hown : w.ownsMap P k R b n D) (hn : n < maxLen) (key val : Value) (kl : Lit) (hx : a.eval x = key) (hv : a.eval v = val) (hkey : keyOf P k key = some kl)
    (d : DataW H) (ps : List MemPlace) (hval : R val = some (d, ps))
    (hK : ∀ w', w'.ownsMap P k R b (n + 1) (D.put kl d) → w.grownBy w' (some b) → wpList P ops Q rest (a.put o.dst undef) w') :
    wpList P ops Q (o :: rest) a w := by
  refine wpList_plain hg fun K' hK' => ?_
  obtain ⟨w', hrun, r1, r2⟩ := hown.update K ht hn hkey hval
  unfold Oper.wp
  simp [execOp, hop, hm, hx, hv, hrun, Result.andThen]
  exact hK' _ _ (hK w' r1 r2)

theorem lawByte : Keyed Tryz.prog 5 := int_keyed Tryz.underlying5
theorem zeroInt (w : World) : (zeroValue 3).run Tryz.prog w = .ok (.int .i64 0) w := by kernel_rfl
theorem made_eq {H : Type} {P : Program} {k : TypeId} {R : Value → Option (DataW H × List MemPlace)} {W : World} {n : Nat} (hn : W.heap.size = n) : (W.alloc (.map #[] 0)).ownsMap P k R n 0 (.map []) := by
  subst hn; exact World.ownsMap_made _ _ _ _
theorem gb {w w' : World} {row : Option Nat} {i : Nat} {o : Obj} (hg : w.grownBy w' row) (h : w.heap[i]? = some o) (hne : some i ≠ row) : w'.heap[i]? = some o :=
  (hg.block i (Array.getElem?_eq_some_iff.1 h).1 hne).trans h
theorem ab {w : World} {i : Nat} {o : Obj} (o' : Obj) (h : w.heap[i]? = some o) : (w.alloc o').heap[i]? = some o :=
  (Below.heap_alloc w o' i (Array.getElem?_eq_some_iff.1 h).1).trans h
theorem grownBy_setRow (w : World) (g : Nat) (cs : Array Value) : w.grownBy (w.setRow g cs) (some g) :=
  ⟨rfl, rfl, rfl, by simp, fun i _ hne => setRow_other w g i cs (fun e => hne (by rw [e]))⟩
/-- one more write to a row of the call's own -/
theorem bgrow {B : Nat} {a w w' : World} {g : Nat} (h : Below B a w) (hg : w.grownBy w' (some g)) (hB : B ≤ w.heap.size) (hr : B ≤ g) : Below B a w' :=
  h.grown hg hB (fun k hk => by cases hk; exact hr)

def DL : DataW Unit := ((((DataW.map []).put (.int .u8 72) (.lit (.int .i64 56))).put (.int .u8 76) (.lit (.int .i64 22))).put (.int .u8 78) (.lit (.int .i64 0)))
def D0 : DataW Unit := (((((DataW.map []).put (.int .u8 78) (.lit (.int .i64 85))).put (.int .u8 65) (.lit (.int .i64 62))).put (.int .u8 76) (.lit (.int .i64 55))).put (.int .u8 80) (.lit (.int .i64 20)))
def D1 : DataW Unit := (((DataW.map []).put (.int .u8 76) (.lit (.int .i64 77))).put (.int .u8 72) (.lit (.int .i64 44)))
def D2 : DataW Unit := ((((DataW.map []).put (.int .u8 78) (.lit (.int .i64 85))).put (.int .u8 76) (.lit (.int .i64 62))).put (.int .u8 72) (.lit (.int .i64 27)))
def Owns (w : World) (b : Nat) (D : DataW Unit) : Prop := w.ownsMap Tryz.prog 5 (plainElem Tryz.prog 3) b 10 D
def WtsPost (w : World) (e : Ending) (w' : World) : Prop := ∃ bL b0 b1 b2, e = .returned (.agg #[.map (some b0), .map (some b1), .map (some b2), .map (some bL), .map (some bL), .map (some bL)]) ∧
  Owns w' bL DL ∧ Owns w' b0 D0 ∧ Owns w' b1 D1 ∧ Owns w' b2 D2 ∧ Below w.heap.size w w'

set_option maxHeartbeats 1000000 in
theorem weights_any (w : World) :
    Calls Tryz.prog 11 #[] w (WtsPost w) := by
  have hmm := @run_makeMap Tryz.prog
  go_enter Tryz.func11, Tryz.ntmps11
  go_wp2_with (first
    | (refine wpList_insert_own (H := Unit) _ rfl (.tmp 2) (.const (.int .u8 72)) (.const (.int .i64 56)) 32 rfl 5 3 lawByte Tryz.underlying32 (plainElem Tryz.prog 3) _ 0 _ rfl (made_eq (by first | rfl | simp)) (by unfold maxLen; omega) _ _ (.int .u8 72) rfl rfl (keyOf_int_mk Tryz.underlying5 (by decide)) _ [] (plainElem_int Tryz.underlying3 (by decide)) ?_; intro w2_1 h2_1 g2_1; have s2_1 := g2_1.size; (try simp at s2_1))
    | (refine wpList_insert_own (H := Unit) _ rfl (.tmp 2) (.const (.int .u8 76)) (.const (.int .i64 22)) 32 rfl 5 3 lawByte Tryz.underlying32 (plainElem Tryz.prog 3) _ 1 _ rfl h2_1 (by unfold maxLen; omega) _ _ (.int .u8 76) rfl rfl (keyOf_int_mk Tryz.underlying5 (by decide)) _ [] (plainElem_int Tryz.underlying3 (by decide)) ?_; intro w2_2 h2_2 g2_2; have s2_2 := g2_2.size; (try simp at s2_2))
    | (refine wpList_insert_own (H := Unit) _ rfl (.tmp 2) (.const (.int .u8 78)) (.const (.int .i64 0)) 32 rfl 5 3 lawByte Tryz.underlying32 (plainElem Tryz.prog 3) _ 2 _ rfl h2_2 (by unfold maxLen; omega) _ _ (.int .u8 78) rfl rfl (keyOf_int_mk Tryz.underlying5 (by decide)) _ [] (plainElem_int Tryz.underlying3 (by decide)) ?_; intro w2_3 h2_3 g2_3; have s2_3 := g2_3.size; (try simp at s2_3))
    | (refine wpList_insert_own (H := Unit) _ rfl (.tmp 4) (.const (.int .u8 78)) (.const (.int .i64 85)) 32 rfl 5 3 lawByte Tryz.underlying32 (plainElem Tryz.prog 3) _ 0 _ rfl (made_eq (by first | rfl | simp)) (by unfold maxLen; omega) _ _ (.int .u8 78) rfl rfl (keyOf_int_mk Tryz.underlying5 (by decide)) _ [] (plainElem_int Tryz.underlying3 (by decide)) ?_; intro w4_1 h4_1 g4_1; have s4_1 := g4_1.size; (try simp at s4_1))
    | (refine wpList_insert_own (H := Unit) _ rfl (.tmp 4) (.const (.int .u8 65)) (.const (.int .i64 62)) 32 rfl 5 3 lawByte Tryz.underlying32 (plainElem Tryz.prog 3) _ 1 _ rfl h4_1 (by unfold maxLen; omega) _ _ (.int .u8 65) rfl rfl (keyOf_int_mk Tryz.underlying5 (by decide)) _ [] (plainElem_int Tryz.underlying3 (by decide)) ?_; intro w4_2 h4_2 g4_2; have s4_2 := g4_2.size; (try simp at s4_2))
    | (refine wpList_insert_own (H := Unit) _ rfl (.tmp 4) (.const (.int .u8 76)) (.const (.int .i64 55)) 32 rfl 5 3 lawByte Tryz.underlying32 (plainElem Tryz.prog 3) _ 2 _ rfl h4_2 (by unfold maxLen; omega) _ _ (.int .u8 76) rfl rfl (keyOf_int_mk Tryz.underlying5 (by decide)) _ [] (plainElem_int Tryz.underlying3 (by decide)) ?_; intro w4_3 h4_3 g4_3; have s4_3 := g4_3.size; (try simp at s4_3))
    | (refine wpList_insert_own (H := Unit) _ rfl (.tmp 4) (.const (.int .u8 80)) (.const (.int .i64 20)) 32 rfl 5 3 lawByte Tryz.underlying32 (plainElem Tryz.prog 3) _ 3 _ rfl h4_3 (by unfold maxLen; omega) _ _ (.int .u8 80) rfl rfl (keyOf_int_mk Tryz.underlying5 (by decide)) _ [] (plainElem_int Tryz.underlying3 (by decide)) ?_; intro w4_4 h4_4 g4_4; have s4_4 := g4_4.size; (try simp at s4_4))
    | (refine wpList_insert_own (H := Unit) _ rfl (.tmp 6) (.const (.int .u8 76)) (.const (.int .i64 77)) 32 rfl 5 3 lawByte Tryz.underlying32 (plainElem Tryz.prog 3) _ 0 _ rfl (made_eq (by first | rfl | simp)) (by unfold maxLen; omega) _ _ (.int .u8 76) rfl rfl (keyOf_int_mk Tryz.underlying5 (by decide)) _ [] (plainElem_int Tryz.underlying3 (by decide)) ?_; intro w6_1 h6_1 g6_1; have s6_1 := g6_1.size; (try simp at s6_1))
    | (refine wpList_insert_own (H := Unit) _ rfl (.tmp 6) (.const (.int .u8 72)) (.const (.int .i64 44)) 32 rfl 5 3 lawByte Tryz.underlying32 (plainElem Tryz.prog 3) _ 1 _ rfl h6_1 (by unfold maxLen; omega) _ _ (.int .u8 72) rfl rfl (keyOf_int_mk Tryz.underlying5 (by decide)) _ [] (plainElem_int Tryz.underlying3 (by decide)) ?_; intro w6_2 h6_2 g6_2; have s6_2 := g6_2.size; (try simp at s6_2))
    | (refine wpList_insert_own (H := Unit) _ rfl (.tmp 8) (.const (.int .u8 78)) (.const (.int .i64 85)) 32 rfl 5 3 lawByte Tryz.underlying32 (plainElem Tryz.prog 3) _ 0 _ rfl (made_eq (by first | rfl | simp)) (by unfold maxLen; omega) _ _ (.int .u8 78) rfl rfl (keyOf_int_mk Tryz.underlying5 (by decide)) _ [] (plainElem_int Tryz.underlying3 (by decide)) ?_; intro w8_1 h8_1 g8_1; have s8_1 := g8_1.size; (try simp at s8_1))
    | (refine wpList_insert_own (H := Unit) _ rfl (.tmp 8) (.const (.int .u8 76)) (.const (.int .i64 62)) 32 rfl 5 3 lawByte Tryz.underlying32 (plainElem Tryz.prog 3) _ 1 _ rfl h8_1 (by unfold maxLen; omega) _ _ (.int .u8 76) rfl rfl (keyOf_int_mk Tryz.underlying5 (by decide)) _ [] (plainElem_int Tryz.underlying3 (by decide)) ?_; intro w8_2 h8_2 g8_2; have s8_2 := g8_2.size; (try simp at s8_2))
    | (refine wpList_insert_own (H := Unit) _ rfl (.tmp 8) (.const (.int .u8 72)) (.const (.int .i64 27)) 32 rfl 5 3 lawByte Tryz.underlying32 (plainElem Tryz.prog 3) _ 2 _ rfl h8_2 (by unfold maxLen; omega) _ _ (.int .u8 72) rfl rfl (keyOf_int_mk Tryz.underlying5 (by decide)) _ [] (plainElem_int Tryz.underlying3 (by decide)) ?_; intro w8_3 h8_3 g8_3; have s8_3 := g8_3.size; (try simp at s8_3))
    | (have HG := (gb g8_3 (gb g8_2 (gb g8_1 (ab _ (gb g6_2 (gb g6_1 (ab _ (gb g4_4 (gb g4_3 (gb g4_2 (gb g4_1 (ab _ (gb g2_3 (gb g2_2 (gb g2_1 (ab _ (heap_alloc_new w _)) (by simp; try omega)) (by simp; try omega)) (by simp; try omega))) (by simp; try omega)) (by simp; try omega)) (by simp; try omega)) (by simp; try omega))) (by simp; try omega)) (by simp; try omega))) (by simp; try omega)) (by simp; try omega)) (by simp; try omega)); refine wpList_store_row rfl 33 (.tmp 0) (.tmp 13) rfl w.heap.size _ rfl rfl 33 _ HG (by kernel_rfl) (by rfl) (by simp [Value.oneCell']) ?_))
  refine bodyPost_ret (v := .agg #[.map (some w2_3.heap.size), .map (some w4_4.heap.size), .map (some w6_2.heap.size), .map (some (w.heap.size + 1)), .map (some (w.heap.size + 1)), .map (some (w.heap.size + 1))])
    (results_cell_row rfl _ _ w.heap.size 33 _ (0, 0) _ rfl (setRow_heap _ _ _ _ _ _ HG) Tryz.underlying33 rfl (by kernel_rfl)) rfl ?_
  exact ⟨_, _, _, _, rfl, ((((((((((((((h2_3.alloc _).kept g4_1 (by simp; try omega)).kept g4_2 (by simp; try omega)).kept g4_3 (by simp; try omega)).kept g4_4 (by simp; try omega)).alloc _).kept g6_1 (by simp; try omega)).kept g6_2 (by simp; try omega)).alloc _).kept g8_1 (by simp; try omega)).kept g8_2 (by simp; try omega)).kept g8_3 (by simp; try omega)).kept (grownBy_setRow _ w.heap.size _) (by simp; try omega)).mono (by omega)), (((((((((h4_4.alloc _).kept g6_1 (by simp; try omega)).kept g6_2 (by simp; try omega)).alloc _).kept g8_1 (by simp; try omega)).kept g8_2 (by simp; try omega)).kept g8_3 (by simp; try omega)).kept (grownBy_setRow _ w.heap.size _) (by simp; try omega)).mono (by omega)), ((((((h6_2.alloc _).kept g8_1 (by simp; try omega)).kept g8_2 (by simp; try omega)).kept g8_3 (by simp; try omega)).kept (grownBy_setRow _ w.heap.size _) (by simp; try omega)).mono (by omega)), ((h8_3.kept (grownBy_setRow _ w.heap.size _) (by simp; try omega)).mono (by omega)), bgrow (bgrow (bgrow (bgrow ((bgrow (bgrow ((bgrow (bgrow (bgrow (bgrow ((bgrow (bgrow (bgrow (((Below.refl w.heap.size w).alloc (Nat.le_refl _) _).alloc (by first | omega | (simp; done) | (simp; omega)) _) g2_1 (by first | omega | (simp; done) | (simp; omega)) (by first | omega | (simp; done) | (simp; omega))) g2_2 (by first | omega | (simp; done) | (simp; omega)) (by first | omega | (simp; done) | (simp; omega))) g2_3 (by first | omega | (simp; done) | (simp; omega)) (by first | omega | (simp; done) | (simp; omega))).alloc (by first | omega | (simp; done) | (simp; omega)) _) g4_1 (by first | omega | (simp; done) | (simp; omega)) (by first | omega | (simp; done) | (simp; omega))) g4_2 (by first | omega | (simp; done) | (simp; omega)) (by first | omega | (simp; done) | (simp; omega))) g4_3 (by first | omega | (simp; done) | (simp; omega)) (by first | omega | (simp; done) | (simp; omega))) g4_4 (by first | omega | (simp; done) | (simp; omega)) (by first | omega | (simp; done) | (simp; omega))).alloc (by first | omega | (simp; done) | (simp; omega)) _) g6_1 (by first | omega | (simp; done) | (simp; omega)) (by first | omega | (simp; done) | (simp; omega))) g6_2 (by first | omega | (simp; done) | (simp; omega)) (by first | omega | (simp; done) | (simp; omega))).alloc (by first | omega | (simp; done) | (simp; omega)) _) g8_1 (by first | omega | (simp; done) | (simp; omega)) (by first | omega | (simp; done) | (simp; omega))) g8_2 (by first | omega | (simp; done) | (simp; omega)) (by first | omega | (simp; done) | (simp; omega))) g8_3 (by first | omega | (simp; done) | (simp; omega)) (by first | omega | (simp; done) | (simp; omega))) (grownBy_setRow _ w.heap.size _) (by first | omega | (simp; done) | (simp; omega)) (by first | omega | (simp; done) | (simp; omega))⟩

/-! What the maps hold. -/
def L0 : List (Nat × Int) := [(65, 62), (76, 55), (78, 85), (80, 20)]
def L1 : List (Nat × Int) := [(72, 44), (76, 77)]
def L2 : List (Nat × Int) := [(72, 27), (76, 62), (78, 85)]
def L3 : List (Nat × Int) := [(72, 56), (76, 22), (78, 0)]
def lits (l : List (Nat × Int)) : DataW Unit := .map (l.map fun p => (.int .u8 (p.1 : Int), .lit (.int .i64 p.2)))
theorem D0_eq : D0 = lits L0 := by rfl
theorem D1_eq : D1 = lits L1 := by rfl
theorem D2_eq : D2 = lits L2 := by rfl
theorem DL_eq : DL = lits L3 := by rfl
/-- the weight of letter x in a list -/
def look (l : List (Nat × Int)) (x : Nat) : Option Int := (l.find? (fun p => p.1 == x)).map (·.2)
theorem has_lits (l : List (Nat × Int)) (x : Nat) : Maps.has (lits l) (.int .u8 (x : Int)) = (look l x).isSome := by
  induction l with
  | nil => rfl
  | cons p l ih =>
    simp only [lits, look, Maps.has, List.map_cons, List.any_cons, List.find?_cons, Option.isSome_map] at ih ⊢
    by_cases h : p.1 = x
    · subst h; simp [Lit.sameKey]
    · have e : (Lit.int .u8 (p.1 : Int)).sameKey (.int .u8 (x : Int)) = false := by simp [Lit.sameKey]; omega
      rw [e, Bool.false_or, ih]
      have e2 : (p.1 == x) = false := by simpa using h
      rw [e2]
theorem at_lits (l : List (Nat × Int)) (x : Nat) (c : Int) (h : (lits l).atKey (.int .u8 (x : Int)) (.lit (.int .i64 0)) = .lit (.int .i64 c)) :
    c = (look l x).getD 0 := by
  induction l with
  | nil => simp [lits, DataW.atKey] at h; simp [h, look]
  | cons p l ih =>
    simp only [lits, look, DataW.atKey, List.map_cons, List.find?_cons] at ih h ⊢
    by_cases hp : p.1 = x
    · subst hp; simp [Lit.sameKey] at h; simp [h]
    · have e : (Lit.int .u8 (p.1 : Int)).sameKey (.int .u8 (x : Int)) = false := by simp [Lit.sameKey]; omega
      have e2 : (p.1 == x) = false := by simpa using hp
      rw [e] at h
      rw [e2]
      exact ih h
theorem look_bound {l : List (Nat × Int)} (h : l.all (fun p => decide (0 ≤ p.2) && decide (p.2 ≤ 100)) = true) (x : Nat) : 0 ≤ (look l x).getD 0 ∧ (look l x).getD 0 ≤ 100 := by
  unfold look
  cases hf : l.find? (fun p => p.1 == x) with
  | none => simp
  | some p =>
    have := List.all_eq_true.1 h p (List.mem_of_find?_eq_some hf)
    simpa using this
#print axioms weights_any
end Go.Proofs.YtdncgembjnlioaaGreatDoor
