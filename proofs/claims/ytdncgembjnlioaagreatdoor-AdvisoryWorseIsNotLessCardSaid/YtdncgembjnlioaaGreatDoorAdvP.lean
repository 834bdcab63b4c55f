/-
  The plain law: with a letter of greater weight in the place of another one the score is not less.
-/
import Derived.Test.YtdncgembjnlioaaGreatDoorAdvS
import Derived.Test.YtdncgembjnlioaaGreatDoorAdvI
namespace Go.Proofs.YtdncgembjnlioaaGreatDoor

theorem val_nonneg (a b c d e f : Int) (h : 0 ≤ 642 * lost d e f + 822 * a * b * c) : 0 ≤ val a b c d e f := by
  unfold val
  split
  · exact Int.le_refl _
  · generalize 642 * lost d e f + 822 * a * b * c = x at *
    omega
theorem mul_mono {a b c d : Int} (hab : a ≤ b) (hcd : c ≤ d) (hc : 0 ≤ c) (hb : 0 ≤ b) : a * c ≤ b * d := Int.mul_le_mul hab hcd hc hb
theorem val_mono {a b c d e f a' b' c' d' e' f' : Int} (ha : 0 ≤ a) (hb : 0 ≤ b) (hc : 0 ≤ c) (hd : 0 ≤ d) (he : 0 ≤ e) (hf : 0 ≤ f) (hd' : d' ≤ 100) (he' : e' ≤ 100) (hf' : f' ≤ 100)
    (h0 : a ≤ a') (h1 : b ≤ b') (h2 : c ≤ c') (h3 : d ≤ d') (h4 : e ≤ e') (h5 : f ≤ f') : val a b c d e f ≤ val a' b' c' d' e' f' := by
  have q1 : 0 ≤ (100 - d') * (100 - e') := Int.mul_nonneg (by omega) (by omega)
  have q2 : 0 ≤ (100 - d) * (100 - e) := Int.mul_nonneg (by omega) (by omega)
  have p1 : (100 - d') * (100 - e') ≤ (100 - d) * (100 - e) := mul_mono (by omega) (by omega) (by omega) (by omega)
  have p2 : (100 - d') * (100 - e') * (100 - f') ≤ (100 - d) * (100 - e) * (100 - f) := mul_mono p1 (by omega) (by omega) q2
  have p3 : (100 - d) * (100 - e) ≤ 100 * 100 := mul_mono (by omega) (by omega) (by omega) (by omega)
  have p4 : (100 - d) * (100 - e) * (100 - f) ≤ 100 * 100 * 100 := mul_mono p3 (by omega) (by omega) (by omega)
  have r0 : 0 ≤ 822 * a * b := Int.mul_nonneg (by omega) hb
  have r1 : 822 * a * b ≤ 822 * a' * b' := mul_mono (by omega) h1 hb (by omega)
  have r2 : 822 * a * b * c ≤ 822 * a' * b' * c' := mul_mono r1 h2 hc (by omega)
  have r3 : 0 ≤ 822 * a * b * c := Int.mul_nonneg r0 hc
  have hl : lost d e f ≤ lost d' e' f' := by unfold lost; omega
  have hl0 : 0 ≤ lost d e f := by unfold lost; omega
  have n' := val_nonneg a' b' c' d' e' f' (by omega)
  unfold val at n' ⊢
  generalize lost d e f = x at *
  generalize lost d' e' f' = y at *
  generalize 822 * a * b * c = u at *
  generalize 822 * a' * b' * c' = v at *
  by_cases hx : x = 0
  · rw [if_pos hx]; exact n'
  · rw [if_neg hx, if_neg (by omega)]
    omega

/-! The orders of the letters. -/
def O0 : List UInt8 := [78, 65, 76, 80]
def O1 : List UInt8 := [76, 72]
def O2 : List UInt8 := [78, 76, 72]
def O3 : List UInt8 := [72, 76, 78]
/-- in the order the weights fall -/
def Falls (O : List UInt8) (L : List (Nat × Int)) : Prop := ∀ u : UInt8, (idx O u < 0 ∧ (look L u.toNat).isSome = false) ∨
  (0 ≤ idx O u ∧ (look L u.toNat).isSome = true ∧ ∀ v : UInt8, 0 ≤ idx O v → (idx O u ≤ idx O v → (look L v.toNat).getD 0 ≤ (look L u.toNat).getD 0) ∧ (idx O v ≤ idx O u → (look L u.toNat).getD 0 ≤ (look L v.toNat).getD 0))
theorem falls_of {O : List UInt8} {L : List (Nat × Int)} (h : ∀ n : Fin 256, let u := UInt8.ofNat n.1; (decide (idx O u < 0) && !(look L u.toNat).isSome || decide (0 ≤ idx O u) && (look L u.toNat).isSome) = true)
    (hm : ∀ n : Fin 256, ∀ m : Fin 256, let u := UInt8.ofNat n.1; let v := UInt8.ofNat m.1; (decide (idx O u < 0) || decide (idx O v < 0) || decide (idx O v < idx O u) || decide ((look L v.toNat).getD 0 ≤ (look L u.toNat).getD 0)) = true) : Falls O L := by
  have hof : ∀ u : UInt8, UInt8.ofNat u.toNat = u := fun u => by simp
  intro u
  have h1 := h ⟨u.toNat, u.toNat_lt⟩
  simp only [hof] at h1
  have hmm : ∀ u v : UInt8, (decide (idx O u < 0) || decide (idx O v < 0) || decide (idx O v < idx O u) || decide ((look L v.toNat).getD 0 ≤ (look L u.toNat).getD 0)) = true := fun u v => by
    have := hm ⟨u.toNat, u.toNat_lt⟩ ⟨v.toNat, v.toNat_lt⟩
    simpa only [hof] using this
  by_cases hu : idx O u < 0
  · left
    refine ⟨hu, ?_⟩
    simpa [hu, show ¬ 0 ≤ idx O u by omega] using h1
  · right
    refine ⟨by omega, by simpa [hu, show 0 ≤ idx O u by omega] using h1, fun v hv => ⟨fun hle => ?_, fun hle => ?_⟩⟩
    · have := hmm u v
      simpa [hu, show ¬ idx O v < 0 by omega, show ¬ idx O v < idx O u by omega] using this
    · have := hmm v u
      simpa [hu, show ¬ idx O v < 0 by omega, show ¬ idx O u < idx O v by omega] using this
theorem falls0 : Falls O0 L0 := falls_of (by decide +kernel) (by decide +kernel)
theorem falls1 : Falls O1 L1 := falls_of (by decide +kernel) (by decide +kernel)
theorem falls2 : Falls O2 L2 := falls_of (by decide +kernel) (by decide +kernel)
theorem falls3 : Falls O3 L3 := falls_of (by decide +kernel) (by decide +kernel)
end Go.Proofs.YtdncgembjnlioaaGreatDoor
