/-
  The plain law at each place of a vector: with a letter of greater weight in the place of another one the score is not less.
-/
import Derived.Test.YtdncgembjnlioaaGreatDoorAdvP
namespace Go.Proofs.YtdncgembjnlioaaGreatDoor

/-- the score of six letters, and its error -/
def six (a b c d e f : Nat) : Int × Int :=
  if ((look L0 a).isSome && (look L1 b).isSome && (look L2 c).isSome && (look L3 d).isSome && (look L3 e).isSome && (look L3 f).isSome) = true then
    (val ((look L0 a).getD 0) ((look L1 b).getD 0) ((look L2 c).getD 0) ((look L3 d).getD 0) ((look L3 e).getD 0) ((look L3 f).getD 0), 0)
  else (0, 7)
theorem score_is_six {s : ByteArray} (h : s.size = 6) : scoreV s = six (at6 s h 0 (by omega)) (at6 s h 1 (by omega)) (at6 s h 2 (by omega)) (at6 s h 3 (by omega)) (at6 s h 4 (by omega)) (at6 s h 5 (by omega)) := by
  unfold scoreV; rw [dif_pos h]; rfl
theorem six_yes {a b c d e f : Nat} (h : (six a b c d e f).2 = 0) : (look L0 a).isSome = true ∧ (look L1 b).isSome = true ∧ (look L2 c).isSome = true ∧ (look L3 d).isSome = true ∧ (look L3 e).isSome = true ∧ (look L3 f).isSome = true := by
  unfold six at h
  split at h
  · rename_i hc
    simpa [Bool.and_eq_true, and_assoc] using hc
  · cases h
/-- what the law asks, of the scores of the vector and of the other one -/
def Asked (i j : Int) (a b : Int × Int) : Prop := (i < 0 ∧ b.2 = 7) ∨ (0 ≤ i ∧ b.2 = 0 ∧ i < j ∧ a.1 ≤ b.1) ∨ (0 ≤ i ∧ b.2 = 0 ∧ i = j ∧ a.1 = b.1) ∨ (0 ≤ i ∧ b.2 = 0 ∧ j < i ∧ b.1 ≤ a.1)
theorem asked_of {i j : Int} {a b : Int × Int} (hi : 0 ≤ i) (hb : b.2 = 0) (h1 : i ≤ j → a.1 ≤ b.1) (h2 : j ≤ i → b.1 ≤ a.1) : Asked i j a b := by
  right
  rcases Int.lt_trichotomy i j with h | h | h
  · exact .inl ⟨hi, hb, h, h1 (by omega)⟩
  · exact .inr (.inl ⟨hi, hb, h, Int.le_antisymm (h1 (by omega)) (h2 (by omega))⟩)
  · exact .inr (.inr ⟨hi, hb, h, h2 (by omega)⟩)
theorem bdL0 (x : Nat) : 0 ≤ (look L0 x).getD 0 ∧ (look L0 x).getD 0 ≤ 100 := look_bound (by rfl) x
theorem bdL1 (x : Nat) : 0 ≤ (look L1 x).getD 0 ∧ (look L1 x).getD 0 ≤ 100 := look_bound (by rfl) x
theorem bdL2 (x : Nat) : 0 ≤ (look L2 x).getD 0 ∧ (look L2 x).getD 0 ≤ 100 := look_bound (by rfl) x
theorem bdL3 (x : Nat) : 0 ≤ (look L3 x).getD 0 ∧ (look L3 x).getD 0 ≤ 100 := look_bound (by rfl) x

theorem asked_0 (u v : UInt8) (b c d e f : Nat) (h : (six v.toNat b c d e f).2 = 0) : Asked (idx O0 u) (idx O0 v) (six v.toNat b c d e f) (six u.toNat b c d e f) := by
  obtain ⟨h0, h1, h2, h3, h4, h5⟩ := six_yes h
  have hx : six v.toNat b c d e f = (val ((look L0 v.toNat).getD 0) ((look L1 b).getD 0) ((look L2 c).getD 0) ((look L3 d).getD 0) ((look L3 e).getD 0) ((look L3 f).getD 0), 0) := by unfold six; rw [if_pos (by simp only [h0, h1, h2, h3, h4, h5]; rfl)]
  rcases falls0 u with ⟨hu, hn⟩ | ⟨hu, hy, hf⟩
  · refine .inl ⟨hu, ?_⟩
    unfold six
    rw [if_neg (by simp only [hn]; simp)]
  · have hz : six u.toNat b c d e f = (val ((look L0 u.toNat).getD 0) ((look L1 b).getD 0) ((look L2 c).getD 0) ((look L3 d).getD 0) ((look L3 e).getD 0) ((look L3 f).getD 0), 0) := by unfold six; rw [if_pos (by simp only [h1, h2, h3, h4, h5, hy]; rfl)]
    have hv : 0 ≤ idx O0 v := by
      rcases falls0 v with ⟨_, hn⟩ | ⟨hv, _⟩
      · rw [hn] at h0; cases h0
      · exact hv
    obtain ⟨m1, m2⟩ := hf v hv
    rw [hx, hz]
    exact asked_of hu rfl (fun hle0 => by have hle := m1 hle0; exact val_mono (bdL0 _).1 (bdL1 _).1 (bdL2 _).1 (bdL3 _).1 (bdL3 _).1 (bdL3 _).1 (bdL3 _).2 (bdL3 _).2 (bdL3 _).2 (hle) (Int.le_refl _) (Int.le_refl _) (Int.le_refl _) (Int.le_refl _) (Int.le_refl _)) (fun hle0 => by have hle := m2 hle0; exact val_mono (bdL0 _).1 (bdL1 _).1 (bdL2 _).1 (bdL3 _).1 (bdL3 _).1 (bdL3 _).1 (bdL3 _).2 (bdL3 _).2 (bdL3 _).2 (hle) (Int.le_refl _) (Int.le_refl _) (Int.le_refl _) (Int.le_refl _) (Int.le_refl _))
theorem asked_1 (u v : UInt8) (a c d e f : Nat) (h : (six a v.toNat c d e f).2 = 0) : Asked (idx O1 u) (idx O1 v) (six a v.toNat c d e f) (six a u.toNat c d e f) := by
  obtain ⟨h0, h1, h2, h3, h4, h5⟩ := six_yes h
  have hx : six a v.toNat c d e f = (val ((look L0 a).getD 0) ((look L1 v.toNat).getD 0) ((look L2 c).getD 0) ((look L3 d).getD 0) ((look L3 e).getD 0) ((look L3 f).getD 0), 0) := by unfold six; rw [if_pos (by simp only [h0, h1, h2, h3, h4, h5]; rfl)]
  rcases falls1 u with ⟨hu, hn⟩ | ⟨hu, hy, hf⟩
  · refine .inl ⟨hu, ?_⟩
    unfold six
    rw [if_neg (by simp only [hn]; simp)]
  · have hz : six a u.toNat c d e f = (val ((look L0 a).getD 0) ((look L1 u.toNat).getD 0) ((look L2 c).getD 0) ((look L3 d).getD 0) ((look L3 e).getD 0) ((look L3 f).getD 0), 0) := by unfold six; rw [if_pos (by simp only [h0, h2, h3, h4, h5, hy]; rfl)]
    have hv : 0 ≤ idx O1 v := by
      rcases falls1 v with ⟨_, hn⟩ | ⟨hv, _⟩
      · rw [hn] at h1; cases h1
      · exact hv
    obtain ⟨m1, m2⟩ := hf v hv
    rw [hx, hz]
    exact asked_of hu rfl (fun hle0 => by have hle := m1 hle0; exact val_mono (bdL0 _).1 (bdL1 _).1 (bdL2 _).1 (bdL3 _).1 (bdL3 _).1 (bdL3 _).1 (bdL3 _).2 (bdL3 _).2 (bdL3 _).2 (Int.le_refl _) (hle) (Int.le_refl _) (Int.le_refl _) (Int.le_refl _) (Int.le_refl _)) (fun hle0 => by have hle := m2 hle0; exact val_mono (bdL0 _).1 (bdL1 _).1 (bdL2 _).1 (bdL3 _).1 (bdL3 _).1 (bdL3 _).1 (bdL3 _).2 (bdL3 _).2 (bdL3 _).2 (Int.le_refl _) (hle) (Int.le_refl _) (Int.le_refl _) (Int.le_refl _) (Int.le_refl _))
theorem asked_2 (u v : UInt8) (a b d e f : Nat) (h : (six a b v.toNat d e f).2 = 0) : Asked (idx O2 u) (idx O2 v) (six a b v.toNat d e f) (six a b u.toNat d e f) := by
  obtain ⟨h0, h1, h2, h3, h4, h5⟩ := six_yes h
  have hx : six a b v.toNat d e f = (val ((look L0 a).getD 0) ((look L1 b).getD 0) ((look L2 v.toNat).getD 0) ((look L3 d).getD 0) ((look L3 e).getD 0) ((look L3 f).getD 0), 0) := by unfold six; rw [if_pos (by simp only [h0, h1, h2, h3, h4, h5]; rfl)]
  rcases falls2 u with ⟨hu, hn⟩ | ⟨hu, hy, hf⟩
  · refine .inl ⟨hu, ?_⟩
    unfold six
    rw [if_neg (by simp only [hn]; simp)]
  · have hz : six a b u.toNat d e f = (val ((look L0 a).getD 0) ((look L1 b).getD 0) ((look L2 u.toNat).getD 0) ((look L3 d).getD 0) ((look L3 e).getD 0) ((look L3 f).getD 0), 0) := by unfold six; rw [if_pos (by simp only [h0, h1, h3, h4, h5, hy]; rfl)]
    have hv : 0 ≤ idx O2 v := by
      rcases falls2 v with ⟨_, hn⟩ | ⟨hv, _⟩
      · rw [hn] at h2; cases h2
      · exact hv
    obtain ⟨m1, m2⟩ := hf v hv
    rw [hx, hz]
    exact asked_of hu rfl (fun hle0 => by have hle := m1 hle0; exact val_mono (bdL0 _).1 (bdL1 _).1 (bdL2 _).1 (bdL3 _).1 (bdL3 _).1 (bdL3 _).1 (bdL3 _).2 (bdL3 _).2 (bdL3 _).2 (Int.le_refl _) (Int.le_refl _) (hle) (Int.le_refl _) (Int.le_refl _) (Int.le_refl _)) (fun hle0 => by have hle := m2 hle0; exact val_mono (bdL0 _).1 (bdL1 _).1 (bdL2 _).1 (bdL3 _).1 (bdL3 _).1 (bdL3 _).1 (bdL3 _).2 (bdL3 _).2 (bdL3 _).2 (Int.le_refl _) (Int.le_refl _) (hle) (Int.le_refl _) (Int.le_refl _) (Int.le_refl _))
theorem asked_3 (u v : UInt8) (a b c e f : Nat) (h : (six a b c v.toNat e f).2 = 0) : Asked (idx O3 u) (idx O3 v) (six a b c v.toNat e f) (six a b c u.toNat e f) := by
  obtain ⟨h0, h1, h2, h3, h4, h5⟩ := six_yes h
  have hx : six a b c v.toNat e f = (val ((look L0 a).getD 0) ((look L1 b).getD 0) ((look L2 c).getD 0) ((look L3 v.toNat).getD 0) ((look L3 e).getD 0) ((look L3 f).getD 0), 0) := by unfold six; rw [if_pos (by simp only [h0, h1, h2, h3, h4, h5]; rfl)]
  rcases falls3 u with ⟨hu, hn⟩ | ⟨hu, hy, hf⟩
  · refine .inl ⟨hu, ?_⟩
    unfold six
    rw [if_neg (by simp only [hn]; simp)]
  · have hz : six a b c u.toNat e f = (val ((look L0 a).getD 0) ((look L1 b).getD 0) ((look L2 c).getD 0) ((look L3 u.toNat).getD 0) ((look L3 e).getD 0) ((look L3 f).getD 0), 0) := by unfold six; rw [if_pos (by simp only [h0, h1, h2, h4, h5, hy]; rfl)]
    have hv : 0 ≤ idx O3 v := by
      rcases falls3 v with ⟨_, hn⟩ | ⟨hv, _⟩
      · rw [hn] at h3; cases h3
      · exact hv
    obtain ⟨m1, m2⟩ := hf v hv
    rw [hx, hz]
    exact asked_of hu rfl (fun hle0 => by have hle := m1 hle0; exact val_mono (bdL0 _).1 (bdL1 _).1 (bdL2 _).1 (bdL3 _).1 (bdL3 _).1 (bdL3 _).1 (bdL3 _).2 (bdL3 _).2 (bdL3 _).2 (Int.le_refl _) (Int.le_refl _) (Int.le_refl _) (hle) (Int.le_refl _) (Int.le_refl _)) (fun hle0 => by have hle := m2 hle0; exact val_mono (bdL0 _).1 (bdL1 _).1 (bdL2 _).1 (bdL3 _).1 (bdL3 _).1 (bdL3 _).1 (bdL3 _).2 (bdL3 _).2 (bdL3 _).2 (Int.le_refl _) (Int.le_refl _) (Int.le_refl _) (hle) (Int.le_refl _) (Int.le_refl _))
theorem asked_4 (u v : UInt8) (a b c d f : Nat) (h : (six a b c d v.toNat f).2 = 0) : Asked (idx O3 u) (idx O3 v) (six a b c d v.toNat f) (six a b c d u.toNat f) := by
  obtain ⟨h0, h1, h2, h3, h4, h5⟩ := six_yes h
  have hx : six a b c d v.toNat f = (val ((look L0 a).getD 0) ((look L1 b).getD 0) ((look L2 c).getD 0) ((look L3 d).getD 0) ((look L3 v.toNat).getD 0) ((look L3 f).getD 0), 0) := by unfold six; rw [if_pos (by simp only [h0, h1, h2, h3, h4, h5]; rfl)]
  rcases falls3 u with ⟨hu, hn⟩ | ⟨hu, hy, hf⟩
  · refine .inl ⟨hu, ?_⟩
    unfold six
    rw [if_neg (by simp only [hn]; simp)]
  · have hz : six a b c d u.toNat f = (val ((look L0 a).getD 0) ((look L1 b).getD 0) ((look L2 c).getD 0) ((look L3 d).getD 0) ((look L3 u.toNat).getD 0) ((look L3 f).getD 0), 0) := by unfold six; rw [if_pos (by simp only [h0, h1, h2, h3, h5, hy]; rfl)]
    have hv : 0 ≤ idx O3 v := by
      rcases falls3 v with ⟨_, hn⟩ | ⟨hv, _⟩
      · rw [hn] at h4; cases h4
      · exact hv
    obtain ⟨m1, m2⟩ := hf v hv
    rw [hx, hz]
    exact asked_of hu rfl (fun hle0 => by have hle := m1 hle0; exact val_mono (bdL0 _).1 (bdL1 _).1 (bdL2 _).1 (bdL3 _).1 (bdL3 _).1 (bdL3 _).1 (bdL3 _).2 (bdL3 _).2 (bdL3 _).2 (Int.le_refl _) (Int.le_refl _) (Int.le_refl _) (Int.le_refl _) (hle) (Int.le_refl _)) (fun hle0 => by have hle := m2 hle0; exact val_mono (bdL0 _).1 (bdL1 _).1 (bdL2 _).1 (bdL3 _).1 (bdL3 _).1 (bdL3 _).1 (bdL3 _).2 (bdL3 _).2 (bdL3 _).2 (Int.le_refl _) (Int.le_refl _) (Int.le_refl _) (Int.le_refl _) (hle) (Int.le_refl _))
theorem asked_5 (u v : UInt8) (a b c d e : Nat) (h : (six a b c d e v.toNat).2 = 0) : Asked (idx O3 u) (idx O3 v) (six a b c d e v.toNat) (six a b c d e u.toNat) := by
  obtain ⟨h0, h1, h2, h3, h4, h5⟩ := six_yes h
  have hx : six a b c d e v.toNat = (val ((look L0 a).getD 0) ((look L1 b).getD 0) ((look L2 c).getD 0) ((look L3 d).getD 0) ((look L3 e).getD 0) ((look L3 v.toNat).getD 0), 0) := by unfold six; rw [if_pos (by simp only [h0, h1, h2, h3, h4, h5]; rfl)]
  rcases falls3 u with ⟨hu, hn⟩ | ⟨hu, hy, hf⟩
  · refine .inl ⟨hu, ?_⟩
    unfold six
    rw [if_neg (by simp only [hn]; simp)]
  · have hz : six a b c d e u.toNat = (val ((look L0 a).getD 0) ((look L1 b).getD 0) ((look L2 c).getD 0) ((look L3 d).getD 0) ((look L3 e).getD 0) ((look L3 u.toNat).getD 0), 0) := by unfold six; rw [if_pos (by simp only [h0, h1, h2, h3, h4, hy]; rfl)]
    have hv : 0 ≤ idx O3 v := by
      rcases falls3 v with ⟨_, hn⟩ | ⟨hv, _⟩
      · rw [hn] at h5; cases h5
      · exact hv
    obtain ⟨m1, m2⟩ := hf v hv
    rw [hx, hz]
    exact asked_of hu rfl (fun hle0 => by have hle := m1 hle0; exact val_mono (bdL0 _).1 (bdL1 _).1 (bdL2 _).1 (bdL3 _).1 (bdL3 _).1 (bdL3 _).1 (bdL3 _).2 (bdL3 _).2 (bdL3 _).2 (Int.le_refl _) (Int.le_refl _) (Int.le_refl _) (Int.le_refl _) (Int.le_refl _) (hle)) (fun hle0 => by have hle := m2 hle0; exact val_mono (bdL0 _).1 (bdL1 _).1 (bdL2 _).1 (bdL3 _).1 (bdL3 _).1 (bdL3 _).1 (bdL3 _).2 (bdL3 _).2 (bdL3 _).2 (Int.le_refl _) (Int.le_refl _) (Int.le_refl _) (Int.le_refl _) (Int.le_refl _) (hle))

/-- the vector with another letter at a place -/
def repl (s : ByteArray) (p : Nat) (u : UInt8) : ByteArray := s.extract 0 p ++ ⟨#[u]⟩ ++ s.extract (p + 1) 6
theorem repl_size {s : ByteArray} (hs : s.size = 6) {p : Nat} (hp : p < 6) (u : UInt8) : (repl s p u).size = 6 := by
  have h1 : (⟨#[u]⟩ : ByteArray).size = 1 := rfl
  unfold repl
  rw [ByteArray.size_append, ByteArray.size_append, ByteArray.size_extract, ByteArray.size_extract, h1, hs]
  omega
theorem repl_at {s : ByteArray} (hs : s.size = 6) {p : Nat} (hp : p < 6) (u : UInt8) {k : Nat} (hk : k < 6) : at6 (repl s p u) (repl_size hs hp u) k hk = if k = p then u.toNat else at6 s hs k hk := by
  have h1 : (⟨#[u]⟩ : ByteArray).size = 1 := rfl
  have hd : s.data.size = 6 := hs
  unfold at6 repl
  rw [ByteArray.getElem_eq_getElem_data]
  simp only [ByteArray.data_append, ByteArray.data_extract]
  rw [Array.getElem_append]
  by_cases hkp : k < p
  · rw [dif_pos (by simp; omega), Array.getElem_append, dif_pos (by simp; omega), if_neg (by omega), Array.getElem_extract]
    simp [ByteArray.getElem_eq_getElem_data]
  · by_cases hke : k = p
    · subst hke
      rw [dif_pos (by simp; omega), Array.getElem_append, dif_neg (by simp; omega), if_pos rfl]
      simp
    · rw [dif_neg (by simp; omega), if_neg hke, Array.getElem_extract]
      simp [ByteArray.getElem_eq_getElem_data, hd]
      congr 2
      omega
theorem worse_0 {s : ByteArray} (hs : s.size = 6) (he : (scoreV s).2 = 0) (u : UInt8) : Asked (idx O0 u) (idx O0 (s[0]'(by omega))) (scoreV s) (scoreV (repl s 0 u)) := by
  rw [score_is_six hs] at he ⊢
  rw [score_is_six (repl_size hs (by omega) u)]
  have e := fun (k : Nat) (hk : k < 6) => repl_at hs (p := 0) (by omega) u (k := k) hk
  rw [e 0 (by omega), e 1 (by omega), e 2 (by omega), e 3 (by omega), e 4 (by omega), e 5 (by omega)]
  exact asked_0 u (s[0]'(by omega)) _ _ _ _ _ he
theorem worse_1 {s : ByteArray} (hs : s.size = 6) (he : (scoreV s).2 = 0) (u : UInt8) : Asked (idx O1 u) (idx O1 (s[1]'(by omega))) (scoreV s) (scoreV (repl s 1 u)) := by
  rw [score_is_six hs] at he ⊢
  rw [score_is_six (repl_size hs (by omega) u)]
  have e := fun (k : Nat) (hk : k < 6) => repl_at hs (p := 1) (by omega) u (k := k) hk
  rw [e 0 (by omega), e 1 (by omega), e 2 (by omega), e 3 (by omega), e 4 (by omega), e 5 (by omega)]
  exact asked_1 u (s[1]'(by omega)) _ _ _ _ _ he
theorem worse_2 {s : ByteArray} (hs : s.size = 6) (he : (scoreV s).2 = 0) (u : UInt8) : Asked (idx O2 u) (idx O2 (s[2]'(by omega))) (scoreV s) (scoreV (repl s 2 u)) := by
  rw [score_is_six hs] at he ⊢
  rw [score_is_six (repl_size hs (by omega) u)]
  have e := fun (k : Nat) (hk : k < 6) => repl_at hs (p := 2) (by omega) u (k := k) hk
  rw [e 0 (by omega), e 1 (by omega), e 2 (by omega), e 3 (by omega), e 4 (by omega), e 5 (by omega)]
  exact asked_2 u (s[2]'(by omega)) _ _ _ _ _ he
theorem worse_3 {s : ByteArray} (hs : s.size = 6) (he : (scoreV s).2 = 0) (u : UInt8) : Asked (idx O3 u) (idx O3 (s[3]'(by omega))) (scoreV s) (scoreV (repl s 3 u)) := by
  rw [score_is_six hs] at he ⊢
  rw [score_is_six (repl_size hs (by omega) u)]
  have e := fun (k : Nat) (hk : k < 6) => repl_at hs (p := 3) (by omega) u (k := k) hk
  rw [e 0 (by omega), e 1 (by omega), e 2 (by omega), e 3 (by omega), e 4 (by omega), e 5 (by omega)]
  exact asked_3 u (s[3]'(by omega)) _ _ _ _ _ he
theorem worse_4 {s : ByteArray} (hs : s.size = 6) (he : (scoreV s).2 = 0) (u : UInt8) : Asked (idx O3 u) (idx O3 (s[4]'(by omega))) (scoreV s) (scoreV (repl s 4 u)) := by
  rw [score_is_six hs] at he ⊢
  rw [score_is_six (repl_size hs (by omega) u)]
  have e := fun (k : Nat) (hk : k < 6) => repl_at hs (p := 4) (by omega) u (k := k) hk
  rw [e 0 (by omega), e 1 (by omega), e 2 (by omega), e 3 (by omega), e 4 (by omega), e 5 (by omega)]
  exact asked_4 u (s[4]'(by omega)) _ _ _ _ _ he
theorem worse_5 {s : ByteArray} (hs : s.size = 6) (he : (scoreV s).2 = 0) (u : UInt8) : Asked (idx O3 u) (idx O3 (s[5]'(by omega))) (scoreV s) (scoreV (repl s 5 u)) := by
  rw [score_is_six hs] at he ⊢
  rw [score_is_six (repl_size hs (by omega) u)]
  have e := fun (k : Nat) (hk : k < 6) => repl_at hs (p := 5) (by omega) u (k := k) hk
  rw [e 0 (by omega), e 1 (by omega), e 2 (by omega), e 3 (by omega), e 4 (by omega), e 5 (by omega)]
  exact asked_5 u (s[5]'(by omega)) _ _ _ _ _ he
#print axioms worse_3
end Go.Proofs.YtdncgembjnlioaaGreatDoor
