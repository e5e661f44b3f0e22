/-
  THE TIED CARD OF TopAxis: for every input the law returns true, and the input reads as it did. Conditions: the listed package variables hold what the program's text lays (tied). (Printed by wip/gen/card.py.)
-/
import Derived.Test.YteodjglbpfmikaaGreatDoorTie
import Derived.Test.YteodjglbpfmikaaGreatDoorCards
import Derived.Test.YteodjglbpfmikaaGreatDoorZAx1
import Derived.Test.YteodjglbpfmikaaGreatDoorZAx2
import Derived.Test.YteodjglbpfmikaaGreatDoorZAx3
import Derived.Test.YteodjglbpfmikaaGreatDoorZAx4
import Derived.Test.YteodjglbpfmikaaGreatDoorZAx5
import Derived.Test.YteodjglbpfmikaaGreatDoorZAx6
import Derived.Test.YteodjglbpfmikaaGreatDoorZAx7
import Derived.Test.YteodjglbpfmikaaGreatDoorZAx8
import Derived.Test.YteodjglbpfmikaaGreatDoorZAx9
import Derived.Test.YteodjglbpfmikaaGreatDoorZAx10
import Derived.Test.YteodjglbpfmikaaGreatDoorZAx11
import Derived.Test.YteodjglbpfmikaaGreatDoorZAx12
import Derived.Test.YteodjglbpfmikaaGreatDoorZAx13
import Derived.Test.YteodjglbpfmikaaGreatDoorZAx14
import Derived.Test.YteodjglbpfmikaaGreatDoorZAx15
import Derived.Test.YteodjglbpfmikaaGreatDoorZAx16
import Derived.Test.YteodjglbpfmikaaGreatDoorZAx17
import Derived.ProofKit
import Derived.LaidMore
import Derived.Lay
import Derived.OpenShut
import Derived.Stop.Joined
import Derived.SevenTiedAt
namespace Go.Proofs.YteodjglbpfmikaaGreatDoor.topAxisP
open Go.ChangeShapes Go.WideShapes Go.ChangeAt Go.WideMaps Go.WideElems Go.RowKit
set_option linter.unusedVariables false

theorem own : ownKnob Tryz.prog.godebug = none := by kernel_rfl
theorem laidOut : laidOutB Tryz.prog = true := by kernel_rfl

set_option maxRecDepth 100000 in
theorem lifted (os : Os) (started : os.Started) (H : Type) (enc : TypeId × Value → H) :
    ReturnsInHanded {} Tryz.checked os 3 .any (fun w args => (Rows.topAxisSpec.pre enc Tryz.prog Tryz.f3 [] false w args ∧ laidMetH Tryz.prog Rows.topAxisRow.laid w) ∧ sizedMet enc Tryz.prog Tryz.f3 (OpenSpec.ofChange Rows.topAxisSpec) false w args)
      (Rows.topAxisSpec.post enc Tryz.prog Tryz.f3 false true false false) := by
  refine handed_shaped (C := Tryz.checked) (X := fun w _ => laidMetH Tryz.prog Rows.topAxisRow.laid w) (fun _ _ _ hh h => h.of_heap hh) own started (by kernel_rfl) Tryz.func3
    (ChangeSpec.witness_shaped (enc := enc) (C := Tryz.checked) (os := os) (X := fun w _ => laidMetH Tryz.prog Rows.topAxisRow.laid w) false (World.laidAll Tryz.prog os Rows.topAxisRow.laid) #[.agg #[.int .u8 0, .int .u8 0, .int .i16 0], .int .i64 0, .float .f64 0] 8 (World.laidAll_os _ _ _) (World.shaped_of_ZipB (by kernel_rfl) (by kernel_rfl)) (by kernel_rfl) (by kernel_rfl) (by kernel_rfl) (by rw [MakeChecks.laidMetH_plain _ _ _ (by kernel_rfl)]; exact laidMet_laidAll _ (by kernel_rfl) (by kernel_rfl))) ?_
  intro W base args ds gs before hsh hval0 hW _ _ hL _
  have hval : ∀ (j : Nat) t v, Tryz.f3.params[j]? = some t → args[j]? = some v → Value.okWide Tryz.prog W .any base t v := hval0
  have hW' := hW
  obtain ⟨p, q, hA0, hV, rfl, hfz, hnd⟩ := hW
  have hA : DataW.TrodAll enc Tryz.prog W 0 (fun _ => true) true Tryz.f3.params.toList args.toList ds p := hA0
  rw [Tryz.params3] at hA hval
  obtain ⟨v0, vs0, d0, ds0, p0, q0, hargs, rfl, rfl, h0, r0⟩ := trodAll_cons hA
  obtain ⟨v1, vs1, d1, ds1, p1, q1, rfl, rfl, rfl, h1, r1⟩ := trodAll_cons r0
  obtain ⟨v2, vs2, d2, ds2, p2, q2, rfl, rfl, rfl, h2, r2⟩ := trodAll_cons r1
  obtain ⟨rfl, rfl, rfl⟩ := trodAll_nil r2
  obtain rfl : args = #[v0, v1, v2] := by cases args; simp_all
  obtain ⟨rfl, rfl⟩ := trodVars_none hV
  have k0 := h0
  obtain ⟨a0_0, a0_1, a0_2, rfl, b0_0, b0_1, b0_2⟩ := open_r3 Tryz.underlying24 (by kernel_rfl) (by kernel_rfl) (by kernel_rfl) (by kernel_rfl) (by kernel_rfl) (hval 0 24 v0 rfl rfl) h0
  have l0 : ∀ x ∈ p0, x.block < W.heap.size := fun x hx => hW'.lt x (by simp [hx])
  have k1 := h1
  obtain ⟨a1_0, rfl, b1_0⟩ := open_i64 Tryz.underlying2 (hval 1 2 v1 rfl rfl) h1
  have l1 : ∀ x ∈ p1, x.block < W.heap.size := fun x hx => hW'.lt x (by simp [hx])
  have k2 := h2
  obtain ⟨a2_0, rfl, b2_0⟩ := open_f64 Tryz.underlying25 (hval 2 25 v2 rfl rfl) h2
  have l2 : ∀ x ∈ p2, x.block < W.heap.size := fun x hx => hW'.lt x (by simp [hx])
  have hE := envP_of_laid (by kernel_rfl) hL hsh
  clear hA0 hval0
  simp only [List.append_nil] at hW'
  refine (topAxis_true a0_0 a0_1 a0_2 a1_0 a2_0 W b0_0 b0_1 b0_2 b1_0 b2_0 hE).mono fun e W' ⟨he, hu⟩ => ?_
  subst he
  exact ⟨_, rfl, ⟨_, _, _, [], _, [], hW', trodAll_cons_mk (shut_bool Tryz.underlying4 _) trodAll_mk0, (trodAll_cons_mk (Below.trod laidOut (by kernel_rfl) (of_decide_eq_true (by kernel_rfl)) k0 hu.below l0) (trodAll_cons_mk (Below.trod laidOut (by kernel_rfl) (of_decide_eq_true (by kernel_rfl)) k1 hu.below l1) (trodAll_cons_mk (Below.trod laidOut (by kernel_rfl) (of_decide_eq_true (by kernel_rfl)) k2 hu.below l2) trodAll_mk0))), rfl, hu.below.frame _, fun h => by cases h⟩⟩

theorem holds : Rows.TopAxisSaid :=
  OpenClaim.holds_of_wide 3 Tryz.f3 rfl rfl rfl rfl rfl rfl rfl ⟨rfl, rfl, rfl, rfl, rfl⟩ rfl rfl rfl rfl rfl (by kernel_rfl) Tryz.func3 (by kernel_rfl)
    (of_decide_eq_true (by kernel_rfl)) (by unfold Func.isWrapper; first | (rw [if_pos (by decide +kernel)]; kernel_rfl) | (rw [if_neg (by decide +kernel)]; exact ⟨rfl, rfl⟩))
    (fun os started H enc _ => lifted os started H enc)

theorem card_holds : Rows.TopAxisCardSaid :=
  Claim7.holds_tied_plain_at .later [] [.data, .data, .data, .data, .data, .data] true (true, "e0a05570cc384948e78b9bba5e5501891eba5086d444cf4bc541e9159c09dbcd") true
    holds (fun _ h => by cases h) (by kernel_rfl) (fun _ h => by cases h) topAxis_row_tie rfl ⟨rfl, rfl⟩ (by kernel_rfl) rfl
    (fun f fn hf hfn => by
      obtain rfl : f = 3 := Option.some.inj ((show Tryz.prog.funcNamed Rows.topAxisRow.func = some 3 by kernel_rfl).symm.trans hf) |>.symm
      obtain rfl : fn = Tryz.f3 := (Option.some.inj (Tryz.func3.symm.trans hfn)).symm
      exact ⟨by kernel_rfl, fun j t ht => by
        rw [Tryz.params3] at ht
        have hm : t ∈ [24, 2, 25] := by simpa using Array.mem_of_getElem? ht
        have hall : ([24, 2, 25].all fun u => !Tryz.prog.wantsStandIn u) = true := by kernel_rfl
        exact (show Tryz.prog.wantsStandIn t = false by simpa using List.all_eq_true.1 hall t hm)⟩)
    (by kernel_rfl)
#print axioms card_holds
end Go.Proofs.YteodjglbpfmikaaGreatDoor.topAxisP
