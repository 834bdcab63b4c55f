/-
  For every vector, place and letter: with a letter of greater weight in the place of another one the score is not less.
-/
import Derived.Test.YtdncgembjnlioaaGreatDoorCards
import Derived.Test.YtdncgembjnlioaaGreatDoorTie
import Derived.Test.YtdncgembjnlioaaGreatDoorAdvYb
import Derived.ProofKit
import Derived.OpenShut
import Derived.LaidMore
import Derived.Lay
import Derived.SevenTiedAt
import Derived.Stop.Joined
namespace Go.Proofs.YtdncgembjnlioaaGreatDoor
open Go.ChangeShapes Go.WideShapes Go.ChangeAt Go.RowKit
open Go.ChangeMaps (open_string shut_string)

set_option maxRecDepth 100000 in
theorem worseLaw_err (s : ByteArray) (p x : Int) (w : World) (hm : s.size ≤ maxLen) (he : ((scoreV s).2 != 0) = true) :
    Calls Tryz.prog 3 #[.string s, .int .i64 p, .int .u8 x] w fun e w' => e = .returned (.bool true) ∧ Below w.heap.size w w' := by
  go_enter Tryz.func3, Tryz.ntmps3
  go_wp2_with (first
    | (go_at_call 5; refine (score_any s _ hm).mono ?_; rintro e w1 hp; obtain ⟨rfl, hb1⟩ := hp)
    | (go_at_call 6; refine (told_true _).mono ?_; rintro e w3 ⟨rfl, hb3⟩))
  go_ret
  exact ⟨rfl, below_then' hb3 hb1 hb1.size⟩
set_option maxRecDepth 100000 in
theorem worseLaw_out (s : ByteArray) (p x : Int) (w : World) (hm : s.size ≤ maxLen) (he : (scoreV s).2 = 0) (hp : p < 0 ∨ 5 < p) :
    Calls Tryz.prog 3 #[.string s, .int .i64 p, .int .u8 x] w fun e w' => e = .returned (.bool true) ∧ Below w.heap.size w w' := by
  rcases hp with hp | hp
  · go_enter Tryz.func3, Tryz.ntmps3
    go_wp2_with (first
      | (go_at_call 5; refine (score_any s _ hm).mono ?_; rintro e w1 hp; obtain ⟨rfl, hb1⟩ := hp)
      | (go_at_call 6; refine (told_true _).mono ?_; rintro e w3 ⟨rfl, hb3⟩))
    go_ret
    exact ⟨rfl, below_then' hb3 hb1 hb1.size⟩
  · have hp0 : ¬ p < 0 := by omega
    go_enter Tryz.func3, Tryz.ntmps3
    go_wp2_with (first
      | (go_at_call 5; refine (score_any s _ hm).mono ?_; rintro e w1 hp; obtain ⟨rfl, hb1⟩ := hp)
      | (go_at_call 6; refine (told_true _).mono ?_; rintro e w3 ⟨rfl, hb3⟩))
    go_ret
    exact ⟨rfl, below_then' hb3 hb1 hb1.size⟩
theorem size_six {s : ByteArray} (h : (scoreV s).2 = 0) : s.size = 6 := by
  unfold scoreV at h
  split at h
  · assumption
  · cases h
theorem worseLaw_any (s : ByteArray) (p : Int) (u : UInt8) (w : World) (hm : s.size ≤ maxLen) :
    Calls Tryz.prog 3 #[.string s, .int .i64 p, .int .u8 (u.toNat : Int)] w fun e w' => e = .returned (.bool true) ∧ Below w.heap.size w w' := by
  by_cases he : (scoreV s).2 = 0
  · by_cases hp : p < 0 ∨ 5 < p
    · exact worseLaw_out s p _ w hm he hp
    · have hs := size_six he
      have : p = 0 ∨ p = 1 ∨ p = 2 ∨ p = 3 ∨ p = 4 ∨ p = 5 := by omega
      rcases this with rfl | rfl | rfl | rfl | rfl | rfl
      · exact worseLaw_0 s u w hs he
      · exact worseLaw_1 s u w hs he
      · exact worseLaw_2 s u w hs he
      · exact worseLaw_3 s u w hs he
      · exact worseLaw_4 s u w hs he
      · exact worseLaw_5 s u w hs he
  · exact worseLaw_err s p _ w hm (by rw [bne_iff_ne]; exact he)
theorem byte_of_wf {x : Int} (h : (Lit.int .u8 x).wf = true) : ∃ u : UInt8, x = (u.toNat : Int) := by
  have hmin : IntKind.u8.min = 0 := rfl
  have hmax : IntKind.u8.max = 255 := rfl
  simp only [Lit.wf, Bool.and_eq_true, decide_eq_true_eq, hmin, hmax] at h
  refine ⟨UInt8.ofNat x.toNat, ?_⟩
  rw [UInt8.toNat_ofNat']
  omega

theorem own : ownKnob Tryz.prog.godebug = none := by kernel_rfl

set_option maxRecDepth 100000 in
theorem worse_lifted (os : Os) (started : os.Started) (H : Type) (enc : TypeId × Value → H) :
    ReturnsInHanded {} Tryz.checked os 3 .any (fun w args => (Rows.advisoryWorseIsNotLessSpec.pre enc Tryz.prog Tryz.f3 Rows.advisoryWorseIsNotLessRow.domain false w args ∧ laidMetH Tryz.prog Rows.advisoryWorseIsNotLessRow.laid w) ∧ sizedMet enc Tryz.prog Tryz.f3 (OpenSpec.ofChange Rows.advisoryWorseIsNotLessSpec) false w args)
      (Rows.advisoryWorseIsNotLessSpec.post enc Tryz.prog Tryz.f3 false true false false) := by
  refine returnsInHanded_of_change_and (C := Tryz.checked) (X := fun w _ => laidMetH Tryz.prog Rows.advisoryWorseIsNotLessRow.laid w) (fun _ _ _ hh h => h.of_heap hh) own started (by kernel_rfl) Tryz.func3
    (ChangeSpec.witness_shaped (enc := enc) (C := Tryz.checked) (os := os) (X := fun w _ => laidMetH Tryz.prog Rows.advisoryWorseIsNotLessRow.laid w) false (World.laidAll Tryz.prog os Rows.advisoryWorseIsNotLessRow.laid) #[.string ⟨#[]⟩, .int .i64 0, .int .u8 0] 8 (World.laidAll_os _ _ _)
      (World.shaped_of_ZipB (by kernel_rfl) (by kernel_rfl)) (by kernel_rfl) (by kernel_rfl) (by kernel_rfl)
      (by rw [MakeChecks.laidMetH_plain _ _ _ (by kernel_rfl)]; exact laidMet_laidAll _ (by kernel_rfl) (by kernel_rfl))) ?_
  intro W base args ds gs before hval0 hW hc _ hL _
  have hval : ∀ (j : Nat) t v, Tryz.f3.params[j]? = some t → args[j]? = some v → Value.okWide Tryz.prog W .any base t v := hval0
  have hW' := hW
  obtain ⟨p, q, hA0, hV, rfl, _, _⟩ := hW
  have hA : DataW.TrodAll enc Tryz.prog W 0 (fun _ => true) true Tryz.f3.params.toList args.toList ds p := hA0
  rw [Tryz.params3] at hA hval
  obtain ⟨v0, v1, v2, d0, d1, d2, p0, p1, p2, rfl, rfl, rfl, h0, h1, h2⟩ := trodAll_three hA
  obtain ⟨rfl, rfl⟩ := trodVars_none hV
  obtain ⟨s, rfl, rfl, rfl, hs⟩ := open_string Tryz.underlying9 (hval 0 9 v0 rfl rfl) h0
  obtain ⟨n, rfl, rfl, rfl, wn⟩ := open_int Tryz.underlying3 (hval 1 3 v1 rfl rfl) h1
  obtain ⟨x, rfl, rfl, rfl, wx⟩ := open_int Tryz.underlying5 (hval 2 5 v2 rfl rfl) h2
  obtain ⟨u, rfl⟩ := byte_of_wf wx
  simp only [List.append_nil] at hW'
  refine (worseLaw_any s n u W hs).mono fun e W' ⟨he, hw⟩ => ?_
  subst he
  have e1 : Rows.advisoryWorseIsNotLessSpec.fn H ([.lit (.string s.data.toList), .lit (.int .i64 n), .lit (.int .u8 (u.toNat : Int))] ++ []) = { results := [.lit (.bool true)], args := [.lit (.string s.data.toList), .lit (.int .i64 n), .lit (.int .u8 (u.toNat : Int))] } := by simp [Rows.advisoryWorseIsNotLessSpec]
  refine ⟨_, rfl, _, _, _, [], [], [], hW', ?_, ?_, ?_, hw.frame _, fun h => by cases h⟩
  · rw [e1]; exact trodAll_mk1 (shut_bool Tryz.underlying4 true)
  · rw [e1]; exact trodAll_mk3 (shut_string Tryz.underlying9 hs) (shut_int Tryz.underlying3 wn) (shut_int Tryz.underlying5 wx)
  · rw [e1]; rfl

theorem worse_said : Rows.AdvisoryWorseIsNotLessSaid :=
  OpenClaim.holds_of_wide 3 Tryz.f3 rfl rfl rfl rfl rfl rfl rfl ⟨rfl, rfl, rfl, rfl, rfl⟩ rfl rfl rfl rfl rfl (by kernel_rfl) Tryz.func3 (by kernel_rfl)
    (of_decide_eq_true (by kernel_rfl)) (by unfold Func.isWrapper; first | (rw [if_pos (by decide +kernel)]; kernel_rfl) | (rw [if_neg (by decide +kernel)]; exact ⟨rfl, rfl⟩))
    (fun os started H enc _ => worse_lifted os started H enc)

theorem worse_plain (f : FuncId) (fn : Func) (hf : Tryz.pinned.checked.prog.funcNamed "provender/provenderlaw5.AdvisoryWorseIsNotLess" = some f) (hfn : Tryz.pinned.checked.prog.funcs[f]? = some fn) :
    true = Tryz.pinned.checked.prog.looks [] ∧ ∀ (j : Nat) t, fn.params[j]? = some t → Tryz.pinned.checked.prog.wantsStandIn t = false := by
  obtain rfl : f = 3 := Option.some.inj ((show Tryz.prog.funcNamed "provender/provenderlaw5.AdvisoryWorseIsNotLess" = some 3 by kernel_rfl).symm.trans hf) |>.symm
  obtain rfl : fn = Tryz.f3 := (Option.some.inj (Tryz.func3.symm.trans hfn)).symm
  refine ⟨by kernel_rfl, fun j t ht => ?_⟩
  rw [Tryz.params3] at ht
  have hm : t ∈ [9, 3, 5] := by simpa using Array.mem_of_getElem? ht
  have hall : ([9, 3, 5].all fun u => !Tryz.prog.wantsStandIn u) = true := by kernel_rfl
  exact (show Tryz.prog.wantsStandIn t = false by simpa using List.all_eq_true.1 hall t hm)

theorem worse_holds : Rows.AdvisoryWorseIsNotLessCardSaid :=
  Claim7.holds_tied_plain_at .later [] _ _ _ _ worse_said (fun _ h => by cases h) (by kernel_rfl) (fun _ h => by cases h) advisoryWorseIsNotLess_row_tie rfl ⟨rfl, rfl⟩ (by kernel_rfl) rfl worse_plain (by kernel_rfl)
#print axioms worse_holds
end Go.Proofs.YtdncgembjnlioaaGreatDoor
