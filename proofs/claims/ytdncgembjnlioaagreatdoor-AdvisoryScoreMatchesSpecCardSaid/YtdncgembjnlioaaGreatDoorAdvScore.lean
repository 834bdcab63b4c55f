/-
  For every text and every number: advisory.Score and advisory.Rating return what the reference's Score and Rating return, and told is true.
-/
import Derived.Test.YtdncgembjnlioaaGreatDoorCards
import Derived.Test.YtdncgembjnlioaaGreatDoorTie
import Derived.Test.YtdncgembjnlioaaGreatDoorAdvR
import Derived.Test.YtdncgembjnlioaaGreatDoorAdvX
import Derived.ProofKit
import Derived.OpenShut
import Derived.LaidMore
import Derived.Lay
import Derived.SevenTiedAt
import Derived.Stop.Joined
namespace Go.Proofs.YtdncgembjnlioaaGreatDoor
open Go.ChangeShapes Go.WideShapes Go.ChangeAt Go.RowKit
open Go.ChangeMaps (open_string shut_string)

set_option maxRecDepth 100000 in
theorem scoreLaw_any (s : ByteArray) (n : Int) (w : World) (hm : s.size ≤ maxLen) :
    Calls Tryz.prog 4 #[.string s, .int .i64 n] w fun e w' => e = .returned (.bool true) ∧ Below w.heap.size w w' := by
  go_enter Tryz.func4, Tryz.ntmps4
  go_wp2_with (first
    | (go_at_call 8; refine (refScore_any _ _ hm).mono ?_; rintro e w1 hp; obtain ⟨rfl, hb1⟩ := hp)
    | (go_at_call 5; refine (score_any _ _ hm).mono ?_; rintro e w2 hp; obtain ⟨rfl, hb2⟩ := hp)
    | (go_at_call 9; refine (refRating_any _ _).mono ?_; rintro e w' hp; obtain ⟨rfl, rfl⟩ := hp)
    | (go_at_call 10; refine (rating_any _ _).mono ?_; rintro e w' hp; obtain ⟨rfl, rfl⟩ := hp)
    | (go_at_call 6; refine (told_true _).mono ?_; rintro e w3 ⟨rfl, hb3⟩))
  go_ret
  exact ⟨rfl, (hb1.trans (hb2.mono hb1.size)).trans (hb3.mono (Nat.le_trans hb1.size hb2.size))⟩

theorem own : ownKnob Tryz.prog.godebug = none := by kernel_rfl

set_option maxRecDepth 100000 in
theorem score_lifted (os : Os) (started : os.Started) (H : Type) (enc : TypeId × Value → H) :
    ReturnsInHanded {} Tryz.checked os 4 .any (fun w args => (Rows.advisoryScoreMatchesSpecSpec.pre enc Tryz.prog Tryz.f4 Rows.advisoryScoreMatchesSpecRow.domain false w args ∧ laidMetH Tryz.prog Rows.advisoryScoreMatchesSpecRow.laid w) ∧ sizedMet enc Tryz.prog Tryz.f4 (OpenSpec.ofChange Rows.advisoryScoreMatchesSpecSpec) false w args)
      (Rows.advisoryScoreMatchesSpecSpec.post enc Tryz.prog Tryz.f4 false true false false) := by
  refine returnsInHanded_of_change_and (C := Tryz.checked) (X := fun w _ => laidMetH Tryz.prog Rows.advisoryScoreMatchesSpecRow.laid w) (fun _ _ _ hh h => h.of_heap hh) own started (by kernel_rfl) Tryz.func4
    (ChangeSpec.witness_shaped (enc := enc) (C := Tryz.checked) (os := os) (X := fun w _ => laidMetH Tryz.prog Rows.advisoryScoreMatchesSpecRow.laid w) false (World.laidAll Tryz.prog os Rows.advisoryScoreMatchesSpecRow.laid) #[.string ⟨#[]⟩, .int .i64 0] 8 (World.laidAll_os _ _ _)
      (World.shaped_of_ZipB (by kernel_rfl) (by kernel_rfl)) (by kernel_rfl) (by kernel_rfl) (by kernel_rfl)
      (by rw [MakeChecks.laidMetH_plain _ _ _ (by kernel_rfl)]; exact laidMet_laidAll _ (by kernel_rfl) (by kernel_rfl))) ?_
  intro W base args ds gs before hval0 hW hc _ hL _
  have hval : ∀ (j : Nat) t v, Tryz.f4.params[j]? = some t → args[j]? = some v → Value.okWide Tryz.prog W .any base t v := hval0
  have hW' := hW
  obtain ⟨p, q, hA0, hV, rfl, _, _⟩ := hW
  have hA : DataW.TrodAll enc Tryz.prog W 0 (fun _ => true) true Tryz.f4.params.toList args.toList ds p := hA0
  rw [Tryz.params4] at hA hval
  obtain ⟨v0, v1, d0, d1, p0, p1, rfl, rfl, rfl, h0, h1⟩ := trodAll_two hA
  obtain ⟨rfl, rfl⟩ := trodVars_none hV
  obtain ⟨s, rfl, rfl, rfl, hs⟩ := open_string Tryz.underlying9 (hval 0 9 v0 rfl rfl) h0
  obtain ⟨n, rfl, rfl, rfl, wn⟩ := open_int Tryz.underlying3 (hval 1 3 v1 rfl rfl) h1
  simp only [List.append_nil] at hW'
  refine (scoreLaw_any s n W hs).mono fun e W' ⟨he, hw⟩ => ?_
  subst he
  have e1 : Rows.advisoryScoreMatchesSpecSpec.fn H ([.lit (.string s.data.toList), .lit (.int .i64 n)] ++ []) = { results := [.lit (.bool true)], args := [.lit (.string s.data.toList), .lit (.int .i64 n)] } := by simp [Rows.advisoryScoreMatchesSpecSpec]
  refine ⟨_, rfl, _, _, _, [], [], [], hW', ?_, ?_, ?_, hw.frame _, fun h => by cases h⟩
  · rw [e1]; exact trodAll_mk1 (shut_bool Tryz.underlying4 true)
  · rw [e1]; exact trodAll_mk2 (shut_string Tryz.underlying9 hs) (shut_int Tryz.underlying3 wn)
  · rw [e1]; rfl

theorem score_said : Rows.AdvisoryScoreMatchesSpecSaid :=
  OpenClaim.holds_of_wide 4 Tryz.f4 rfl rfl rfl rfl rfl rfl rfl ⟨rfl, rfl, rfl, rfl, rfl⟩ rfl rfl rfl rfl rfl (by kernel_rfl) Tryz.func4 (by kernel_rfl)
    (of_decide_eq_true (by kernel_rfl)) (by unfold Func.isWrapper; first | (rw [if_pos (by decide +kernel)]; kernel_rfl) | (rw [if_neg (by decide +kernel)]; exact ⟨rfl, rfl⟩))
    (fun os started H enc _ => score_lifted os started H enc)

theorem score_plain (f : FuncId) (fn : Func) (hf : Tryz.pinned.checked.prog.funcNamed "provender/provenderlaw5.AdvisoryScoreMatchesSpec" = some f) (hfn : Tryz.pinned.checked.prog.funcs[f]? = some fn) :
    true = Tryz.pinned.checked.prog.looks [] ∧ ∀ (j : Nat) t, fn.params[j]? = some t → Tryz.pinned.checked.prog.wantsStandIn t = false := by
  obtain rfl : f = 4 := Option.some.inj ((show Tryz.prog.funcNamed "provender/provenderlaw5.AdvisoryScoreMatchesSpec" = some 4 by kernel_rfl).symm.trans hf) |>.symm
  obtain rfl : fn = Tryz.f4 := (Option.some.inj (Tryz.func4.symm.trans hfn)).symm
  refine ⟨by kernel_rfl, fun j t ht => ?_⟩
  rw [Tryz.params4] at ht
  have hm : t ∈ [9, 3] := by simpa using Array.mem_of_getElem? ht
  have hall : ([9, 3].all fun u => !Tryz.prog.wantsStandIn u) = true := by kernel_rfl
  exact (show Tryz.prog.wantsStandIn t = false by simpa using List.all_eq_true.1 hall t hm)

theorem score_holds : Rows.AdvisoryScoreMatchesSpecCardSaid :=
  Claim7.holds_tied_plain_at .later [] _ _ _ _ score_said (fun _ h => by cases h) (by kernel_rfl) (fun _ h => by cases h) advisoryScoreMatchesSpec_row_tie rfl ⟨rfl, rfl⟩ (by kernel_rfl) rfl score_plain (by kernel_rfl)
#print axioms score_holds
end Go.Proofs.YtdncgembjnlioaaGreatDoor
