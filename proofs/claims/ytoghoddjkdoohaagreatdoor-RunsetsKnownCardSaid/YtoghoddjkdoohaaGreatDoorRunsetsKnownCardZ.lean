/-
  THE TIED CARD OF RunsetsKnown: for every input the law returns true, and the input reads as it did. Conditions: the listed package variables hold what the program's text lays (tied). (Printed by wip/gen/card.py.)
-/
import Derived.Test.YtoghoddjkdoohaaGreatDoorTie
import Derived.Test.YtoghoddjkdoohaaGreatDoorCards
import Derived.Test.YtoghoddjkdoohaaGreatDoorZKn1
import Derived.Test.YtoghoddjkdoohaaGreatDoorZKn2
import Derived.Test.YtoghoddjkdoohaaGreatDoorZKn3
import Derived.Test.YtoghoddjkdoohaaGreatDoorZKn4
import Derived.Test.YtoghoddjkdoohaaGreatDoorZKn5
import Derived.Test.YtoghoddjkdoohaaGreatDoorZKn6
import Derived.Test.YtoghoddjkdoohaaGreatDoorZKn7
import Derived.Test.YtoghoddjkdoohaaGreatDoorZKn8
import Derived.Test.YtoghoddjkdoohaaGreatDoorZKn9
import Derived.Test.YtoghoddjkdoohaaGreatDoorZKn10
import Derived.Test.YtoghoddjkdoohaaGreatDoorZKn11
import Derived.Test.YtoghoddjkdoohaaGreatDoorZKn12
import Derived.Test.YtoghoddjkdoohaaGreatDoorZKn13
import Derived.Test.YtoghoddjkdoohaaGreatDoorZKn14
import Derived.Test.YtoghoddjkdoohaaGreatDoorZKn15
import Derived.Test.YtoghoddjkdoohaaGreatDoorZKn16
import Derived.Test.YtoghoddjkdoohaaGreatDoorZKn17
import Derived.Test.YtoghoddjkdoohaaGreatDoorZKn18
import Derived.Test.YtoghoddjkdoohaaGreatDoorZKn19
import Derived.Test.YtoghoddjkdoohaaGreatDoorZKn20
import Derived.Test.YtoghoddjkdoohaaGreatDoorZKn21
import Derived.Test.YtoghoddjkdoohaaGreatDoorZKn22
import Derived.Test.YtoghoddjkdoohaaGreatDoorZKn23
import Derived.Test.YtoghoddjkdoohaaGreatDoorZKn24
import Derived.Test.YtoghoddjkdoohaaGreatDoorZKn25
import Derived.Test.YtoghoddjkdoohaaGreatDoorZKn26
import Derived.Test.YtoghoddjkdoohaaGreatDoorZKn27
import Derived.ProofKit
import Derived.LaidMore
import Derived.Lay
import Derived.OpenShut
import Derived.Stop.Joined
import Derived.SevenTiedAt
namespace Go.Proofs.YtoghoddjkdoohaaGreatDoor.runsetsKnownP
open Go.ChangeShapes Go.WideShapes Go.ChangeAt Go.WideMaps Go.WideElems Go.RowKit
set_option linter.unusedVariables false

theorem own : ownKnob Tryz.prog.godebug = none := by kernel_rfl
theorem laidOut : laidOutB Tryz.prog = true := by kernel_rfl

set_option maxRecDepth 100000 in
theorem lifted (os : Os) (started : os.Started) (H : Type) (enc : TypeId × Value → H) :
    ReturnsInHanded {} Tryz.checked os 8 .any (fun w args => (Rows.runsetsKnownSpec.pre enc Tryz.prog Tryz.f8 [] false w args ∧ laidMetH Tryz.prog Rows.runsetsKnownRow.laid w) ∧ sizedMet enc Tryz.prog Tryz.f8 (OpenSpec.ofChange Rows.runsetsKnownSpec) false w args)
      (Rows.runsetsKnownSpec.post enc Tryz.prog Tryz.f8 false true false false) := by
  refine handed_shaped (C := Tryz.checked) (X := fun w _ => laidMetH Tryz.prog Rows.runsetsKnownRow.laid w) (fun _ _ _ hh h => h.of_heap hh) own started (by kernel_rfl) Tryz.func8
    (ChangeSpec.witness_shaped (enc := enc) (C := Tryz.checked) (os := os) (X := fun w _ => laidMetH Tryz.prog Rows.runsetsKnownRow.laid w) false (World.laidAll Tryz.prog os Rows.runsetsKnownRow.laid) #[] 8 (World.laidAll_os _ _ _) (World.shaped_of_ZipB (by kernel_rfl) (by kernel_rfl)) (by kernel_rfl) (by kernel_rfl) (by kernel_rfl) (by rw [MakeChecks.laidMetH_plain _ _ _ (by kernel_rfl)]; exact laidMet_laidAll _ (by kernel_rfl) (by kernel_rfl))) ?_
  intro W base args ds gs before hsh hval0 hW _ _ hL _
  have hval : ∀ (j : Nat) t v, Tryz.f8.params[j]? = some t → args[j]? = some v → Value.okWide Tryz.prog W .any base t v := hval0
  have hW' := hW
  obtain ⟨p, q, hA0, hV, rfl, hfz, hnd⟩ := hW
  have hA : DataW.TrodAll enc Tryz.prog W 0 (fun _ => true) true Tryz.f8.params.toList args.toList ds p := hA0
  rw [Tryz.params8] at hA hval
  obtain ⟨hargs, rfl, rfl⟩ := trodAll_nil hA
  obtain rfl : args = #[] := by cases args; simp_all
  obtain ⟨rfl, rfl⟩ := trodVars_none hV
  have hE := envT_of_laid (by kernel_rfl) hL hsh
  clear hA0 hval0
  simp only [List.append_nil] at hW'
  refine (runsetsKnown_true  W  hE).mono fun e W' ⟨he, hu⟩ => ?_
  subst he
  exact ⟨_, rfl, ⟨_, _, _, [], _, [], hW', trodAll_cons_mk (shut_bool Tryz.underlying4 _) trodAll_mk0, trodAll_mk0, rfl, hu.below.frame _, fun h => by cases h⟩⟩

theorem holds : Rows.RunsetsKnownSaid :=
  OpenClaim.holds_of_wide 8 Tryz.f8 rfl rfl rfl rfl rfl rfl rfl ⟨rfl, rfl, rfl, rfl, rfl⟩ rfl rfl rfl rfl rfl (by kernel_rfl) Tryz.func8 (by kernel_rfl)
    (of_decide_eq_true (by kernel_rfl)) (by unfold Func.isWrapper; first | (rw [if_pos (by decide +kernel)]; kernel_rfl) | (rw [if_neg (by decide +kernel)]; exact ⟨rfl, rfl⟩))
    (fun os started H enc _ => lifted os started H enc)

theorem card_holds : Rows.RunsetsKnownCardSaid :=
  Claim7.holds_tied_plain_at .later [] [.data, .data, .data, .data, .sentinel, .sentinel, .pinned] true (true, "dc3f7a81e7ea8f3632c54e49b2534d30189606c436018f2699244fa225a11652") true
    holds (fun _ h => by cases h) (by kernel_rfl) (fun _ h => by cases h) runsetsKnown_row_tie rfl ⟨rfl, rfl⟩ (by kernel_rfl) rfl
    (fun f fn hf hfn => by
      obtain rfl : f = 8 := Option.some.inj ((show Tryz.prog.funcNamed Rows.runsetsKnownRow.func = some 8 by kernel_rfl).symm.trans hf) |>.symm
      obtain rfl : fn = Tryz.f8 := (Option.some.inj (Tryz.func8.symm.trans hfn)).symm
      exact ⟨by kernel_rfl, fun j t ht => by
        rw [Tryz.params8] at ht
        simp at ht⟩)
    (by kernel_rfl)
#print axioms card_holds
end Go.Proofs.YtoghoddjkdoohaaGreatDoor.runsetsKnownP
