/-
  THE TIED CARD OF RunsKnown: for every input the law returns true, and the input reads as it did. Conditions: the listed package variables hold what the program's text lays (tied). (Printed by wip/gen/card.py.)
-/
import Derived.Test.YtcdkeiolblifkaaGreatDoorTie
import Derived.Test.YtcdkeiolblifkaaGreatDoorCards
import Derived.Test.YtcdkeiolblifkaaGreatDoorZKn1
import Derived.Test.YtcdkeiolblifkaaGreatDoorZKn2
import Derived.Test.YtcdkeiolblifkaaGreatDoorZKn3
import Derived.Test.YtcdkeiolblifkaaGreatDoorZKn4
import Derived.Test.YtcdkeiolblifkaaGreatDoorZKn5
import Derived.Test.YtcdkeiolblifkaaGreatDoorZKn6
import Derived.Test.YtcdkeiolblifkaaGreatDoorZKn7
import Derived.Test.YtcdkeiolblifkaaGreatDoorZKn8
import Derived.Test.YtcdkeiolblifkaaGreatDoorZKn9
import Derived.Test.YtcdkeiolblifkaaGreatDoorZKn10
import Derived.Test.YtcdkeiolblifkaaGreatDoorZKn11
import Derived.Test.YtcdkeiolblifkaaGreatDoorZKn12
import Derived.Test.YtcdkeiolblifkaaGreatDoorZKn13
import Derived.Test.YtcdkeiolblifkaaGreatDoorZKn14
import Derived.Test.YtcdkeiolblifkaaGreatDoorZKn15
import Derived.Test.YtcdkeiolblifkaaGreatDoorZKn16
import Derived.Test.YtcdkeiolblifkaaGreatDoorZKn17
import Derived.Test.YtcdkeiolblifkaaGreatDoorZKn18
import Derived.Test.YtcdkeiolblifkaaGreatDoorZKn19
import Derived.Test.YtcdkeiolblifkaaGreatDoorZKn20
import Derived.Test.YtcdkeiolblifkaaGreatDoorZKn21
import Derived.Test.YtcdkeiolblifkaaGreatDoorZKn22
import Derived.Test.YtcdkeiolblifkaaGreatDoorZKn23
import Derived.Test.YtcdkeiolblifkaaGreatDoorZKn24
import Derived.Test.YtcdkeiolblifkaaGreatDoorZKn25
import Derived.Test.YtcdkeiolblifkaaGreatDoorZKn26
import Derived.Test.YtcdkeiolblifkaaGreatDoorZKn27
import Derived.Test.YtcdkeiolblifkaaGreatDoorZKn28
import Derived.Test.YtcdkeiolblifkaaGreatDoorZKn29
import Derived.Test.YtcdkeiolblifkaaGreatDoorZKn30
import Derived.ProofKit
import Derived.LaidMore
import Derived.OpenShut
import Derived.Stop.Joined
import Derived.SevenTiedAt
namespace Go.Proofs.YtcdkeiolblifkaaGreatDoor.runsKnownP
open Go.ChangeShapes Go.WideShapes Go.ChangeAt Go.WideMaps Go.WideElems Go.RowKit
set_option linter.unusedVariables false

theorem own : ownKnob Tryz.prog.godebug = none := by kernel_rfl
theorem laidOut : laidOutB Tryz.prog = true := by kernel_rfl
/-- The door's own heap meets the condition. -/
theorem door_met (os : Os) (args : Array Value) : laidMetH Tryz.prog Rows.runsKnownRow.laid ((World.doorLaid Tryz.prog 62 os).forCall (fun _ _ => 0) ⟨#[], args, []⟩).memory :=
  laidMetH_of_parts3 (fuel := 8) (laidMet_of_run' 8 (by kernel_rfl) (by kernel_rfl)) (by kernel_rfl) (by kernel_rfl)

set_option maxRecDepth 100000 in
theorem lifted (os : Os) (started : os.Started) (H : Type) (enc : TypeId × Value → H) :
    ReturnsInHanded {} Tryz.checked os 3 .any (fun w args => (Rows.runsKnownSpec.pre enc Tryz.prog Tryz.f3 [] false w args ∧ laidMetH Tryz.prog Rows.runsKnownRow.laid w) ∧ sizedMet enc Tryz.prog Tryz.f3 (OpenSpec.ofChange Rows.runsKnownSpec) false w args)
      (Rows.runsKnownSpec.post enc Tryz.prog Tryz.f3 false true false false) := by
  refine handed_shaped (C := Tryz.checked) (X := fun w _ => laidMetH Tryz.prog Rows.runsKnownRow.laid w) (fun _ _ _ hh h => h.of_heap hh) own started (by kernel_rfl) Tryz.func3
    (ChangeSpec.witness_shaped (enc := enc) (C := Tryz.checked) (os := os) (X := fun w _ => laidMetH Tryz.prog Rows.runsKnownRow.laid w) false (World.doorLaid Tryz.prog 62 os) #[] 8 rfl (World.shaped_of_RefB (by kernel_rfl) (by kernel_rfl)) (by kernel_rfl) (by kernel_rfl) (by kernel_rfl) (door_met os _)) ?_
  intro W base args ds gs before hsh hval0 hW _ _ hL _
  have hval : ∀ (j : Nat) t v, Tryz.f3.params[j]? = some t → args[j]? = some v → Value.okWide Tryz.prog W .any base t v := hval0
  have hW' := hW
  obtain ⟨p, q, hA0, hV, rfl, hfz, hnd⟩ := hW
  have hA : DataW.TrodAll enc Tryz.prog W 0 (fun _ => true) true Tryz.f3.params.toList args.toList ds p := hA0
  rw [Tryz.params3] at hA hval
  obtain ⟨hargs, rfl, rfl⟩ := trodAll_nil hA
  obtain rfl : args = #[] := by cases args; simp_all
  obtain ⟨rfl, rfl⟩ := trodVars_none hV
  have hE := envR_of_laid (by kernel_rfl) hL hsh
  clear hA0 hval0
  simp only [List.append_nil] at hW'
  refine (runsKnown_true  W  hE).mono fun e W' ⟨he, hu⟩ => ?_
  subst he
  exact ⟨_, rfl, ⟨_, _, _, [], _, [], hW', trodAll_cons_mk (shut_bool Tryz.underlying4 _) trodAll_mk0, trodAll_mk0, rfl, hu.below.frame _, fun h => by cases h⟩⟩

theorem holds : Rows.RunsKnownSaid :=
  OpenClaim.holds_of_wide 3 Tryz.f3 rfl rfl rfl rfl rfl rfl rfl ⟨rfl, rfl, rfl, rfl, rfl⟩ rfl rfl rfl rfl rfl (by kernel_rfl) Tryz.func3 (by kernel_rfl)
    (of_decide_eq_true (by kernel_rfl)) (by unfold Func.isWrapper; first | (rw [if_pos (by decide +kernel)]; kernel_rfl) | (rw [if_neg (by decide +kernel)]; exact ⟨rfl, rfl⟩))
    (fun os started H enc _ => lifted os started H enc)

theorem card_holds : Rows.RunsKnownCardSaid :=
  Claim7.holds_tied_plain_at .later [] [.data, .data, .data, .sentinel, .sentinel] true (true, "d112124414075515470f9e46dac9f0b3268e4bba372823322425d76fa16c7cf1") true
    holds (fun _ h => by cases h) (by kernel_rfl) (fun _ h => by cases h) runsKnown_row_tie rfl ⟨rfl, rfl⟩ (by kernel_rfl) rfl
    (fun f fn hf hfn => by
      obtain rfl : f = 3 := Option.some.inj ((show Tryz.prog.funcNamed Rows.runsKnownRow.func = some 3 by kernel_rfl).symm.trans hf) |>.symm
      obtain rfl : fn = Tryz.f3 := (Option.some.inj (Tryz.func3.symm.trans hfn)).symm
      exact ⟨by kernel_rfl, fun j t ht => by
        rw [Tryz.params3] at ht
        simp at ht⟩)
    (by kernel_rfl)
#print axioms card_holds
end Go.Proofs.YtcdkeiolblifkaaGreatDoor.runsKnownP
