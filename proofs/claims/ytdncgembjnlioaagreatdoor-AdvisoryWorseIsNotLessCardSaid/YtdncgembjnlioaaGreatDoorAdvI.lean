/-
  slices.Index of bytes: the place of the first byte that is asked for, or -1.
-/
import Derived.Test.YtdncgembjnlioaaGreatDoorProg
import Derived.WalkKit
import Derived.Lib.Hide
import Derived.Deep.Light
namespace Go.Proofs.YtdncgembjnlioaaGreatDoor
open Go.RowKit

/-- the place of the first u in l from n on, or -1 -/
def idxFrom (u : UInt8) : List UInt8 → Nat → Int
  | [], _ => -1
  | x :: l, n => if x = u then n else idxFrom u l (n + 1)
def idx (l : List UInt8) (u : UInt8) : Int := idxFrom u l 0
theorem idxFrom_drop (u : UInt8) : ∀ (l : List UInt8) (n k : Nat), (∀ j, j < k → l[j]? ≠ some u) → idxFrom u l n = idxFrom u (l.drop k) (n + k)
  | [], n, k, _ => by simp [idxFrom]
  | x :: l, n, 0, _ => by simp
  | x :: l, n, k + 1, h => by
    have hx : x ≠ u := fun e => h 0 (by omega) (by simp [e])
    rw [idxFrom, if_neg hx, List.drop_succ_cons, idxFrom_drop u l (n + 1) k (fun j hj => by have := h (j + 1) (by omega); simpa using this)]
    congr 1; omega
theorem idx_at {l : List UInt8} {u : UInt8} {k : Nat} (h : ∀ j, j < k → l[j]? ≠ some u) (hk : l[k]? = some u) : idx l u = k := by
  have hlt := (List.getElem?_eq_some_iff.1 hk)
  rw [idx, idxFrom_drop u l 0 k h, List.drop_eq_getElem_cons hlt.1, idxFrom, if_pos hlt.2]; simp
theorem idx_none {l : List UInt8} {u : UInt8} (h : ∀ j, j < l.length → l[j]? ≠ some u) : idx l u = -1 := by
  rw [idx, idxFrom_drop u l 0 l.length h, List.drop_length, idxFrom]

def IdxPost (l : List UInt8) (u : UInt8) (w : World) (e : Ending) (w' : World) : Prop := e = .returned (.int .i64 (idx l u)) ∧ w = w'

set_option maxHeartbeats 400000 in
theorem index_any (l : List UInt8) (u : UInt8) (b c : Nat) (w : World) (hs : l.length ≤ 1000) (hc : ∀ j, j < l.length → w.cell? ⟨b, j, none⟩ = some (.int .u8 ((l.getD j 0).toNat : Int))) :
    Calls Tryz.prog 7 #[.slice (some ⟨b, 0, none⟩) l.length c, .int .u8 (u.toNat : Int)] w (IdxPost l u w) := by
  have HC := Lib.hid hc
  clear hc
  go_enter Tryz.func7, Tryz.ntmps7
  go_wp2
  go_loop [8] (fun i => ∃ k : Nat, k ≤ l.length ∧ i = .int .i64 k ∧ Hid (∀ j, j < k → l[j]? ≠ some u)) (fun i => l.length - (intOf i).toNat)
  case atStart => exact ⟨0, Nat.zero_le _, rfl, Lib.hid (fun j hj => absurd hj (by omega))⟩
  case round =>
    obtain ⟨k, hk, rfl, HK⟩ := hrel
    by_cases hlt : k < l.length
    · have hcell := HC.out k hlt
      have hget : l[k]? = some (l.getD k 0) := by simp [List.getD, List.getElem?_eq_getElem hlt]
      have HG := Lib.hid hget
      clear hget
      obtain ⟨x, hx⟩ : ∃ x, x = l.getD k 0 := ⟨_, rfl⟩
      rw [← hx] at hcell
      have HX := Lib.hid hx
      clear hx
      go_wp2
      · have ht : (((u.toNat : Int) == (x.toNat : Int))) = true := by assumption
        have hxu : x = u := by
          have h : (u.toNat : Int) = x.toNat := by simpa using ht
          have : u.toNat = x.toNat := by omega
          exact UInt8.toNat_inj.1 this.symm
        go_ret
        exact ⟨by show Ending.returned (.int .i64 (k : Int)) = .returned (.int .i64 (idx l u)); rw [idx_at HK.out (by rw [HG.out, ← HX.out, hxu])], rfl⟩
      · have ht : (((u.toNat : Int) == (x.toNat : Int))) = false := by assumption
        have hxu : x ≠ u := by
          intro e
          rw [e, beq_self_eq_true] at ht
          cases ht
        go_round
        case rel =>
          refine ⟨k + 1, by omega, by go_num, Lib.hid (fun j hj => ?_)⟩
          rcases Nat.lt_succ_iff_lt_or_eq.1 hj with h | h
          · exact HK.out j h
          · subst h
            rw [HG.out, ← HX.out]
            intro e
            exact hxu (Option.some.inj e)
        case measure => simp [intOf]; omega
    · go_wp2
      go_ret
      exact ⟨by show Ending.returned (.int .i64 (-1)) = .returned (.int .i64 (idx l u)); rw [idx_none (fun j hj => HK.out j (by omega))], rfl⟩
#print axioms index_any
end Go.Proofs.YtdncgembjnlioaaGreatDoor
