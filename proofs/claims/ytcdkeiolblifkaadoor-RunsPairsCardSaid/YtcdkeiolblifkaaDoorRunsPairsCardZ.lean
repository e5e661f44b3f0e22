/-
  THE TIED CARD OF RunsPairs: for every input the law returns true, and the input reads as it did. Conditions: the listed package variables hold what the program's text lays (tied). (Printed by wip/gen/card.py.)
-/
import Derived.Test.YtcdkeiolblifkaaDoorTie
import Derived.Test.YtcdkeiolblifkaaDoorCards
import Derived.Test.YtcdkeiolblifkaaDoorZPr1
import Derived.Test.YtcdkeiolblifkaaDoorZPr2
import Derived.Test.YtcdkeiolblifkaaDoorZPr3
import Derived.Test.YtcdkeiolblifkaaDoorZPr4
import Derived.Test.YtcdkeiolblifkaaDoorZPr5
import Derived.Test.YtcdkeiolblifkaaDoorZPr6
import Derived.Test.YtcdkeiolblifkaaDoorZPr7
import Derived.Test.YtcdkeiolblifkaaDoorZPr8
import Derived.Test.YtcdkeiolblifkaaDoorZPr9
import Derived.Test.YtcdkeiolblifkaaDoorZPr10
import Derived.Test.YtcdkeiolblifkaaDoorZPr11
import Derived.Test.YtcdkeiolblifkaaDoorZPr12
import Derived.Test.YtcdkeiolblifkaaDoorZPr13
import Derived.Test.YtcdkeiolblifkaaDoorZPr14
import Derived.Test.YtcdkeiolblifkaaDoorZPr15
import Derived.Test.YtcdkeiolblifkaaDoorZPr16
import Derived.Test.YtcdkeiolblifkaaDoorZPr17
import Derived.Test.YtcdkeiolblifkaaDoorZPr18
import Derived.Test.YtcdkeiolblifkaaDoorZPr19
import Derived.ProofKit
import Derived.LaidMore
import Derived.OpenShut
import Derived.Stop.Joined
import Derived.SevenTiedAt
namespace Go.Proofs.YtcdkeiolblifkaaDoor.runsPairsP
open Go.ChangeShapes Go.WideShapes Go.ChangeAt Go.WideMaps Go.WideElems Go.RowKit
set_option linter.unusedVariables false

theorem own : ownKnob Tryd.prog.godebug = none := by kernel_rfl
theorem laidOut : laidOutB Tryd.prog = true := by kernel_rfl
/-- The door's own heap meets the condition. -/
theorem door_met (os : Os) (args : Array Value) : laidMetH Tryd.prog Rows.runsPairsRow.laid ((World.doorLaid Tryd.prog 62 os).forCall (fun _ _ => 0) ⟨#[], args, []⟩).memory :=
  laidMetH_of_parts3 (fuel := 8) (laidMet_of_run' 8 (by kernel_rfl) (by kernel_rfl)) (by kernel_rfl) (by kernel_rfl)

set_option maxRecDepth 100000 in
theorem lifted (os : Os) (started : os.Started) (H : Type) (enc : TypeId × Value → H) :
    ReturnsInHanded {} Tryd.checked os 5 .any (fun w args => (Rows.runsPairsSpec.pre enc Tryd.prog Tryd.f5 [] false w args ∧ laidMetH Tryd.prog Rows.runsPairsRow.laid w) ∧ sizedMet enc Tryd.prog Tryd.f5 (OpenSpec.ofChange Rows.runsPairsSpec) false w args)
      (Rows.runsPairsSpec.post enc Tryd.prog Tryd.f5 false true false false) := by
  refine handed_shaped (C := Tryd.checked) (X := fun w _ => laidMetH Tryd.prog Rows.runsPairsRow.laid w) (fun _ _ _ hh h => h.of_heap hh) own started (by kernel_rfl) Tryd.func5
    (ChangeSpec.witness_shaped (enc := enc) (C := Tryd.checked) (os := os) (X := fun w _ => laidMetH Tryd.prog Rows.runsPairsRow.laid w) false (World.doorLaid Tryd.prog 62 os) #[.agg #[.int .i8 0, .int .i64 0, .int .i8 0, .int .i64 0], .agg #[.int .i8 0, .int .i64 0, .int .i8 0, .int .i64 0], .int .i64 0] 8 rfl (World.shaped_of_RefB (by kernel_rfl) (by kernel_rfl)) (by kernel_rfl) (by kernel_rfl) (by kernel_rfl) (door_met os _)) ?_
  intro W base args ds gs before hsh hval0 hW _ _ hL _
  have hval : ∀ (j : Nat) t v, Tryd.f5.params[j]? = some t → args[j]? = some v → Value.okWide Tryd.prog W .any base t v := hval0
  have hW' := hW
  obtain ⟨p, q, hA0, hV, rfl, hfz, hnd⟩ := hW
  have hA : DataW.TrodAll enc Tryd.prog W 0 (fun _ => true) true Tryd.f5.params.toList args.toList ds p := hA0
  rw [Tryd.params5] at hA hval
  obtain ⟨v0, vs0, d0, ds0, p0, q0, hargs, rfl, rfl, h0, r0⟩ := trodAll_cons hA
  obtain ⟨v1, vs1, d1, ds1, p1, q1, rfl, rfl, rfl, h1, r1⟩ := trodAll_cons r0
  obtain ⟨v2, vs2, d2, ds2, p2, q2, rfl, rfl, rfl, h2, r2⟩ := trodAll_cons r1
  obtain ⟨rfl, rfl, rfl⟩ := trodAll_nil r2
  obtain rfl : args = #[v0, v1, v2] := by cases args; simp_all
  obtain ⟨rfl, rfl⟩ := trodVars_none hV
  have k0 := h0
  obtain ⟨a0_0, a0_1, a0_2, a0_3, rfl, b0_0, b0_1⟩ := open_run Tryd.underlying29 (by kernel_rfl) rfl rfl (by kernel_rfl) (by kernel_rfl) Tryd.underlying27 rfl rfl (by kernel_rfl) (by kernel_rfl) (by kernel_rfl) (by kernel_rfl) Tryd.underlying27 rfl rfl (by kernel_rfl) (by kernel_rfl) (by kernel_rfl) (by kernel_rfl) (hval 0 29 v0 rfl rfl) h0
  have l0 : ∀ x ∈ p0, x.block < W.heap.size := fun x hx => hW'.lt x (by simp [hx])
  have k1 := h1
  obtain ⟨a1_0, a1_1, a1_2, a1_3, rfl, b1_0, b1_1⟩ := open_run Tryd.underlying29 (by kernel_rfl) rfl rfl (by kernel_rfl) (by kernel_rfl) Tryd.underlying27 rfl rfl (by kernel_rfl) (by kernel_rfl) (by kernel_rfl) (by kernel_rfl) Tryd.underlying27 rfl rfl (by kernel_rfl) (by kernel_rfl) (by kernel_rfl) (by kernel_rfl) (hval 1 29 v1 rfl rfl) h1
  have l1 : ∀ x ∈ p1, x.block < W.heap.size := fun x hx => hW'.lt x (by simp [hx])
  have k2 := h2
  obtain ⟨a2_0, rfl, b2_0⟩ := open_i64 Tryd.underlying2 (hval 2 2 v2 rfl rfl) h2
  have l2 : ∀ x ∈ p2, x.block < W.heap.size := fun x hx => hW'.lt x (by simp [hx])
  have hE := envR_of_laid (by kernel_rfl) hL hsh
  clear hA0 hval0
  simp only [List.append_nil] at hW'
  refine (runsPairs_true a0_0 a0_1 a0_2 a0_3 a1_0 a1_1 a1_2 a1_3 a2_0 W b0_0 b0_1 b1_0 b1_1 b2_0 hE).mono fun e W' ⟨he, hu⟩ => ?_
  subst he
  exact ⟨_, rfl, ⟨_, _, _, [], _, [], hW', trodAll_cons_mk (shut_bool Tryd.underlying4 _) trodAll_mk0, (trodAll_cons_mk (Below.trod laidOut (by kernel_rfl) (of_decide_eq_true (by kernel_rfl)) k0 hu.below l0) (trodAll_cons_mk (Below.trod laidOut (by kernel_rfl) (of_decide_eq_true (by kernel_rfl)) k1 hu.below l1) (trodAll_cons_mk (Below.trod laidOut (by kernel_rfl) (of_decide_eq_true (by kernel_rfl)) k2 hu.below l2) trodAll_mk0))), rfl, hu.below.frame _, fun h => by cases h⟩⟩

theorem holds : Rows.RunsPairsSaid :=
  OpenClaim.holds_of_wide 5 Tryd.f5 rfl rfl rfl rfl rfl rfl rfl ⟨rfl, rfl, rfl, rfl, rfl⟩ rfl rfl rfl rfl rfl (by kernel_rfl) Tryd.func5 (by kernel_rfl)
    (of_decide_eq_true (by kernel_rfl)) (by unfold Func.isWrapper; first | (rw [if_pos (by decide +kernel)]; kernel_rfl) | (rw [if_neg (by decide +kernel)]; exact ⟨rfl, rfl⟩))
    (fun os started H enc _ => lifted os started H enc)

theorem card_holds : Rows.RunsPairsCardSaid :=
  Claim7.holds_tied_plain_at .later [] [.data, .data, .data, .sentinel, .sentinel] true (true, "464cf78cad9bb9a717c8f0546966dbc29f4aa70ef96206c4751b1c58b4f6d383") true
    holds (fun _ h => by cases h) (by kernel_rfl) (fun _ h => by cases h) runsPairs_row_tie rfl ⟨rfl, rfl⟩ (by kernel_rfl) rfl
    (fun f fn hf hfn => by
      obtain rfl : f = 5 := Option.some.inj ((show Tryd.prog.funcNamed Rows.runsPairsRow.func = some 5 by kernel_rfl).symm.trans hf) |>.symm
      obtain rfl : fn = Tryd.f5 := (Option.some.inj (Tryd.func5.symm.trans hfn)).symm
      exact ⟨by kernel_rfl, fun j t ht => by
        rw [Tryd.params5] at ht
        have hm : t ∈ [29, 29, 2] := by simpa using Array.mem_of_getElem? ht
        have hall : ([29, 29, 2].all fun u => !Tryd.prog.wantsStandIn u) = true := by kernel_rfl
        exact (show Tryd.prog.wantsStandIn t = false by simpa using List.all_eq_true.1 hall t hm)⟩)
    (by kernel_rfl)
#print axioms card_holds
end Go.Proofs.YtcdkeiolblifkaaDoor.runsPairsP
