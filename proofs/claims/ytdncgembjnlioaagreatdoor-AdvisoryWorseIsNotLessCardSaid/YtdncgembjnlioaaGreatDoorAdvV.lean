/-
  told: the two calls that every statement of provenderlaw5 makes answer as the document tells: a base of one advisory.
-/
import Derived.Test.YtdncgembjnlioaaGreatDoorAdvU
import Derived.Deep.RegionHeld3
import Derived.Deep.AppendLies
import Derived.Deep.RegionLaw
namespace Go.Proofs.YtdncgembjnlioaaGreatDoor
open Go.RowKit Go.Maps

theorem infoAdv : (Tryz.prog.info? 46).map (fun i => (i.zero, i.size, i.bytes)) = some (some (.agg #[.string ⟨#[]⟩, .slice none 0 0, .string ⟨#[]⟩, .int .i64 0, .bool false, .string ⟨#[]⟩, .slice none 0 0]), 7, 112) := by kernel_rfl
theorem infoInt : (Tryz.prog.info? 3).map (fun i => (i.zero, i.size, i.bytes)) = some (some (.int .i64 0), 1, 8) := by kernel_rfl
theorem below_then' {B : Nat} {a w w' : World} (h2 : Below w.heap.size w w') (h1 : Below B a w) (hB : B ≤ w.heap.size) : Below B a w' := h1.trans (h2.mono hB)
theorem below_grow' {B : Nat} {a w w' : World} {row : Option Nat} (h2 : w.grownBy w' row) (h1 : Below B a w) (hB : B ≤ w.heap.size) (hr : ∀ k, row = some k → B ≤ k) : Below B a w' := h1.grown h2 hB hr
theorem heap_new_eq {W : World} {o : Obj} {n : Nat} (h : W.heap.size = n) : (W.alloc o).heap[n]? = some o := by subst h; exact heap_alloc_new W o
theorem hbb {B i : Nat} {w w' : World} {o : Obj} (h : Below B w w') (hi : i < B) (ho : w.heap[i]? = some o) : w'.heap[i]? = some o := (h.block i hi).trans ho
theorem row7 {w : World} {b : Nat} {t : TypeId} (hb : w.heap[b]? = some (.cells #[.string ⟨#[65]⟩, .slice none 0 0, .string ⟨#[120]⟩, .int .i64 0, .bool false, .string ⟨#[]⟩, .slice none 0 0] t (0, 0))) :
    w.cell? ⟨b, 0, none⟩ = some (Value.string ⟨#[65]⟩) ∧ w.cell? ⟨b, 1, none⟩ = some (Value.slice none 0 0) ∧ w.cell? ⟨b, 2, none⟩ = some (Value.string ⟨#[120]⟩) ∧ w.cell? ⟨b, 3, none⟩ = some (Value.int .i64 0) ∧ w.cell? ⟨b, 4, none⟩ = some (Value.bool false) ∧ w.cell? ⟨b, 5, none⟩ = some (Value.string ⟨#[]⟩) ∧ w.cell? ⟨b, 6, none⟩ = some (Value.slice none 0 0) := by
  simp [cell_of_row w b _ _ _ _ hb]
/-- what New returns -/
def NewPost (w : World) (e : Ending) (w' : World) : Prop := ∃ g cap g4 cap4, e = .returned (.tuple #[.agg #[.int .i64 0, .slice (some ⟨g, 0, none⟩) 1 cap, .slice (some ⟨g4, 0, none⟩) 1 cap4], .int .i64 0]) ∧ Below w.heap.size w w'

set_option maxRecDepth 100000 in
set_option maxHeartbeats 1000000 in
theorem new_A (b : Nat) (w : World) (hb : w.heap[b]? = some (.cells #[.string ⟨#[65]⟩, .slice none 0 0, .string ⟨#[120]⟩, .int .i64 0, .bool false, .string ⟨#[]⟩, .slice none 0 0] 46 (0, 0))) :
    Calls Tryz.prog 12 #[.slice (some ⟨b, 0, none⟩) 1 1] w (NewPost w) := by
  obtain ⟨ia, hia, hia0, hia1, hia2⟩ := info_parts infoAdv
  obtain ⟨ii, hii, hii0, hii1, hii2⟩ := info_parts infoInt
  have HB := Lib.hid hb
  have hlt : b < w.heap.size := (Array.getElem?_eq_some_iff.1 hb).1
  clear hb
  go_enter Tryz.func12, Tryz.ntmps12
  go_wp2_with (first
    | (go_at_call 15; refine (checkList_A b _ _ (by exact ab _ HB.out)).mono ?_; rintro e w1 ⟨rfl, hb1⟩; have R1 := Lib.hid (hbb hb1 (by simp) (heap_alloc_new w _)); have BL1 : Below w.heap.size w w1 := below_then' hb1 (by go_grown) (by simp); have HB1 := Lib.hid (hbb hb1 (by simp; omega) (ab _ HB.out)); obtain ⟨d0, d1, d2, d3, d4, d5, d6⟩ := row7 HB1.out; have hl1 : b < w1.heap.size := (by have := hb1.size; simp at this; omega); have hz : w.heap.size + 1 ≤ w1.heap.size := by have := hb1.size; simpa using this))
  refine wp_loop_rounds 2 ?_
  rw [rounds_succ]
  go_wp2_with fail
  go_region_law (first
    | (refine step_append_lies _ (by rfl) _ _ _ (by rfl) w.heap.size 46 ia _ 7 112 Tryz.underlying37 hia hia0 hia1 hia2 rfl (by omega) (.slice none 0 0) 0 [] (by rfl) (World.ownsRow_nil _ _ _ _) ⟨w2.heap.size, 0, none⟩ 1 1 [.string ⟨#[65]⟩, .slice none 0 0, .string ⟨#[120]⟩, .int .i64 0, .bool false, .string ⟨#[]⟩, .slice none 0 0] (by rfl) (by rfl) (World.news_of_block (cs := #[.string ⟨#[65]⟩, .slice none 0 0, .string ⟨#[120]⟩, .int .i64 0, .bool false, .string ⟨#[]⟩, .slice none 0 0]) (t := 46) (fr := (0, 0)) (heap_alloc_new w2 _)) (by simp [Value.oneCell']) (by omega) (by unfold maxLen; omega) (by omega) (by simp; omega) (w2.heap.size + 1) (by simp) ?_; intro g cap w3 hown3 hgrow3 hat3 hlt3; have R3 := Lib.hid (gb hgrow3 (ab _ R2.out) (by simp [Value.ownBlock])); have G3 := Lib.hid (gb hgrow3 (ab _ G1.out) (by simp [Value.ownBlock])); have f3 : w3.cell? ⟨w1.heap.size, 1, none⟩ = some (Value.slice none 0 0) := cell_of_row w3 _ 1 _ _ _ G3.out; have f4 : w3.frozen? ⟨w1.heap.size, 1, none⟩ = false := frozen_of_row w3 _ 1 _ _ G3.out; have f5 : w3.cell? ⟨w1.heap.size, 2, none⟩ = some (Value.slice none 0 0) := cell_of_row w3 _ 2 _ _ _ G3.out; have f6 : w3.frozen? ⟨w1.heap.size, 2, none⟩ = false := frozen_of_row w3 _ 2 _ _ G3.out; have BL3 : Below w.heap.size w w3 := below_grow' hgrow3 (by go_grown) (by simp; omega) (by simp [Value.ownBlock]); have hz3 : w2.heap.size + 1 ≤ w3.heap.size := (by have := hgrow3.size; simpa using this))
    | (go_simp; go_at_call 16; refine (copied_A _).mono ?_; rintro e w2 ⟨rfl, hb2⟩; have R2 := Lib.hid (hbb hb2 (by simp; omega) (ab _ (ab _ R1.out))); have G1 := Lib.hid (hbb hb2 (by simp; omega) (ab _ (heap_alloc_new w1 _))); have G2 := Lib.hid (hbb hb2 (by simp) (heap_alloc2_new w1 _ _)); have f1 : w2.cell? ⟨w1.heap.size, 1, none⟩ = some (Value.slice none 0 0) := cell_of_row w2 _ 1 _ _ _ G1.out;  have hz2 : w1.heap.size + 2 ≤ w2.heap.size := (by have := hb2.size; simpa using this); have hz2' : w1.heap.size < w2.heap.size := (by omega); have BL2 : Below w.heap.size w w2 := below_then' hb2 (by go_grown) (by simp; omega)))
  all_goals go_wp2_with (first
    | (refine wpList_append_lies _ rfl (.tmp 29) (.tmp 30) 38 rfl w.heap.size 3 ii _ 1 8 Tryz.underlying38 hii hii0 hii1 hii2 rfl (by omega) (.slice none 0 0) 0 [] rfl (World.ownsRow_nil _ _ _ _) ⟨w3.heap.size, 0, none⟩ 1 1 [.int .i64 0] rfl rfl (World.news_of_block (cs := #[.int .i64 0]) (t := 3) (fr := (0, 0)) (heap_new_eq (by first | rfl | (simp; done)))) (by simp [Value.oneCell']) (by omega) (by unfold maxLen; omega) (by omega) (by simp; omega) (w3.heap.size + 1) (by simp) ?_; intro g4 cap4 w4 hown4 hgrow4 hat4 hlt4; have R4 := Lib.hid (gb hgrow4 (ab _ ((heap_setCell_other _ _ _ _ (by simp; omega)).trans R3.out)) (by simp [Value.ownBlock])); have G4 := Lib.hid (gb hgrow4 (ab _ (heap_setCell_same _ _ 1 _ _ _ G3.out)) (by simp [Value.ownBlock])); have k0 : w4.cell? ⟨w1.heap.size, 0, none⟩ = some (Value.int .i64 0) := cell_of_row w4 _ 0 _ _ _ G4.out; have k1 : w4.cell? ⟨w1.heap.size, 1, none⟩ = some (Value.slice (some ⟨g, 0, none⟩) 1 cap) := cell_of_row w4 _ 1 _ _ _ G4.out; have k2 : w4.cell? ⟨w1.heap.size, 2, none⟩ = some (Value.slice none 0 0) := cell_of_row w4 _ 2 _ _ _ G4.out; have r0 : w4.cell? ⟨w.heap.size, 0, none⟩ = some (Value.int .i64 0) := cell_of_row w4 _ 0 _ _ _ R4.out; have q0 : w4.frozen? ⟨w.heap.size, 0, none⟩ = false := frozen_of_row w4 _ 0 _ _ R4.out; have r1 : w4.cell? ⟨w.heap.size, 1, none⟩ = some (Value.slice none 0 0) := cell_of_row w4 _ 1 _ _ _ R4.out; have q1 : w4.frozen? ⟨w.heap.size, 1, none⟩ = false := frozen_of_row w4 _ 1 _ _ R4.out; have r2 : w4.cell? ⟨w.heap.size, 2, none⟩ = some (Value.slice none 0 0) := cell_of_row w4 _ 2 _ _ _ R4.out; have q2 : w4.frozen? ⟨w.heap.size, 2, none⟩ = false := frozen_of_row w4 _ 2 _ _ R4.out; have m2 : w4.frozen? ⟨w1.heap.size, 2, none⟩ = false := frozen_of_row w4 _ 2 _ _ G4.out; have hz4 : w3.heap.size + 1 ≤ w4.heap.size := (by have := hgrow4.size; simpa using this); have hz5 : w.heap.size < w1.heap.size := (by omega); have BL4 : Below w.heap.size w w4 := below_grow' hgrow4 (by go_grown) (by simp; omega) (by simp [Value.ownBlock])))
  all_goals (rw [rounds_succ]; go_wp2_with (go_at_call 17; refine (sort_one _ _ _ _).mono ?_; rintro e w' ⟨rfl, rfl⟩))
  all_goals (refine wp_loop_rounds 1 ?_; rw [rounds_succ]; go_wp2)
  all_goals refine bodyPost_ret (v := .tuple #[.agg #[.int .i64 0, .slice (some ⟨g, 0, none⟩) 1 cap, .slice (some ⟨g4, 0, none⟩) 1 cap4], .int .i64 0]) ?_ rfl ⟨g, cap, g4, cap4, rfl, by go_grown⟩
  all_goals simp [results, Tryz.results12, go_sem, *]
#print axioms new_A
end Go.Proofs.YtdncgembjnlioaaGreatDoor
