/-
  WALKS OF circa/civils: Parse, by what the text holds; Text. (Printed by wip/gen/civ5.py.)
-/
import Derived.Test.YtopbbcbpanfigaaGreatDoorCivE
namespace Go.Proofs.YtopbbcbpanfigaaGreatDoor
open Go.RowKit
set_option linter.unusedVariables false
set_option linter.unusedSimpArgs false
theorem kdVg_3 {W w1 w2 : World} {a0 a1 a2 : Addr} {v0 v1 v2 : Value} (k : Dn w1 w2) (h : Dn W w1 ∧ w1.cell? a0 = some v0 ∧ w1.cell? a1 = some v1 ∧ w1.cell? a2 = some v2) :
    Dn W w2 ∧ w2.cell? a0 = some v0 ∧ w2.cell? a1 = some v1 ∧ w2.cell? a2 = some v2 := by
  obtain ⟨h1, c0, c1, c2⟩ := h
  exact ⟨h1.trans k, k.cell c0, k.cell c1, k.cell c2⟩
/-- What a text is read as. -/
def PRes (l : List UInt8) (y m d e : Int) : Prop :=
  (¬ CF l ∧ y = 0 ∧ m = 0 ∧ d = 0 ∧ e = 5) ∨ (CF l ∧ cErr (yV l) (mV l) (dV l) = e ∧ e ≠ 0 ∧ y = 0 ∧ m = 0 ∧ d = 0) ∨ (CF l ∧ cErr (yV l) (mV l) (dV l) = 0 ∧ y = yV l ∧ m = mV l ∧ d = dV l ∧ e = 0)
theorem PRes.bad {l : List UInt8} {y m d e : Int} (h : PRes l y m d e) (hn : ¬ CF l) : y = 0 ∧ m = 0 ∧ d = 0 ∧ e = 5 := by
  rcases h with ⟨_, h⟩ | ⟨hc, _⟩ | ⟨hc, _⟩
  · exact h
  · exact absurd hc hn
  · exact absurd hc hn
theorem PRes.ex (l : List UInt8) : ∃ y m d e, PRes l y m d e := by
  by_cases h : CF l
  · by_cases h2 : cErr (yV l) (mV l) (dV l) = 0
    · exact ⟨_, _, _, _, Or.inr (Or.inr ⟨h, h2, rfl, rfl, rfl, rfl⟩)⟩
    · exact ⟨_, _, _, _, Or.inr (Or.inl ⟨h, rfl, h2, rfl, rfl, rfl⟩)⟩
  · exact ⟨_, _, _, _, Or.inl ⟨h, rfl, rfl, rfl, rfl⟩⟩
theorem clamp2 {p : List UInt8} (h : Part p 2 false) : clampV (Dg.nvA 0 p) = (Dg.nvA 0 p : Int) := by
  obtain ⟨h1, h2⟩ := (part2 _).1 h
  have := nv_len p h2
  rw [h1, show Dg.p10 2 = 100 by decide] at this
  unfold clampV
  rw [if_pos (by omega)]
theorem clamp_bd (n : Nat) : 0 ≤ clampV n ∧ clampV n ≤ 9223372036854775807 := by unfold clampV; split <;> omega
theorem cErr_far {y m d : Int} (h : ¬ IsY y) : cErr y m d = 6 := by unfold cErr; rw [if_pos h]
theorem cErr_clamp (b : Bool) (n : Nat) (m d : Int) : cErr (sg b (clampV n)) m d = cErr (sg b (n : Int)) m d := by
  unfold clampV
  split
  · rfl
  · rw [cErr_far, cErr_far]
    · unfold IsY sg; cases b <;> simp <;> omega
    · unfold IsY sg; cases b <;> simp <;> omega
theorem clamp_in (b : Bool) (n : Nat) (m d : Int) (h : cErr (sg b (n : Int)) m d = 0) : clampV n = n := by
  obtain ⟨⟨h1, _⟩, _⟩ := cErr_ok h
  unfold IsY sg at h1
  unfold clampV
  rw [if_pos]
  cases b <;> simp at h1 <;> omega
theorem cvParse_p (l : List UInt8) (y m d e : Int) (w : World) (hE : EnvC w) (hl : l.length ≤ 1000) (hneg : isNeg l = false) (h : PRes l y m d e) :
    Calls Tryz.prog 21 #[.string (bA l)] w fun o w' => o = .returned (.tuple #[.agg #[.int .i64 y, .int .i64 m, .int .i64 d], .int .i64 e]) ∧ Dn w w' := by
  have hs := ds_sign l
  rw [hneg] at hs
  have l0 : (dsOf l).length ≤ 1000 := by have := congrArg List.length hs; rw [List.length_append] at this; omega
  have l1 : ((rA l).drop 1).length ≤ 1000 := Nat.le_trans (dw_len (dsOf l)).1 l0
  have l2 : ((rB l).drop 1).length ≤ 1000 := Nat.le_trans (dw_len ((rA l).drop 1)).1 l1
  have hl2 : l = dsOf l := by simpa using hs
  have hx : isNeg (dsOf l) = false := by rw [← hl2]; exact hneg
  rw [show bA l = bA (dsOf l) from congrArg bA hl2]
  by_cases pa : Part (sA l) 4 true
  · by_cases ra : rA l = []
    · obtain ⟨rfl, rfl, rfl, rfl⟩ := h.bad (fun hc => hc.ra ra)
      exact cvPs_pb (dsOf l) ((rA l).drop 1) ((rB l).drop 1) w hE (clampV (Dg.nvA 0 (sA l))) (clampV (Dg.nvA 0 (sB l))) (clampV (Dg.nvA 0 (sC l))) l0 l1 l2 hx pa rfl (by show isNeg (rA l) = false; rw [ra]; rfl)
    · have h2 : (dsOf l).dropWhile nd = 45 :: (rA l).drop 1 := dw_head (dsOf l) ra
      by_cases pb : Part (sB l) 2 false
      · by_cases rb : rB l = []
        · obtain ⟨rfl, rfl, rfl, rfl⟩ := h.bad (fun hc => hc.rb rb)
          exact cvPs_pd (dsOf l) ((rA l).drop 1) ((rB l).drop 1) w hE (clampV (Dg.nvA 0 (sA l))) (clampV (Dg.nvA 0 (sB l))) (clampV (Dg.nvA 0 (sC l))) l0 l1 l2 hx pa rfl h2 pb rfl (by show isNeg (rB l) = false; rw [rb]; rfl)
        · have h3 : ((rA l).drop 1).dropWhile nd = 45 :: (rB l).drop 1 := dw_head ((rA l).drop 1) rb
          by_cases pc : Part (sC l) 2 false
          · by_cases rc : rC l = []
            · have hcf : CF l := ⟨pa, ra, pb, rb, pc, rc, fun hx => by rw [hneg] at hx; cases hx.1⟩
              have e1 : cErr (clampV (Dg.nvA 0 (sA l))) (clampV (Dg.nvA 0 (sB l))) (clampV (Dg.nvA 0 (sC l))) = cErr (yV l) (mV l) (dV l) := by
                rw [clamp2 pb, clamp2 pc]
                have := cErr_clamp false (Dg.nvA 0 (sA l)) (mV l) (dV l)
                unfold yV
                rw [hneg]
                exact this
              rcases h with ⟨hc, _⟩ | ⟨_, h4, h5, rfl, rfl, rfl⟩ | ⟨_, h4, rfl, rfl, rfl, rfl⟩
              · exact absurd hcf hc
              · exact cvPs_ph (dsOf l) ((rA l).drop 1) ((rB l).drop 1) w hE (clampV (Dg.nvA 0 (sA l))) (clampV (Dg.nvA 0 (sB l))) (clampV (Dg.nvA 0 (sC l))) l0 l1 l2 hx pa rfl h2 pb rfl h3 pc rfl rc  e (e1.trans h4) h5
              · have hy : yV l = (clampV (Dg.nvA 0 (sA l))) := by
                  unfold yV at h4 ⊢
                  rw [hneg] at h4 ⊢
                  rw [clamp_in _ _ _ _ h4]; rfl
                rw [hy, show mV l = clampV (Dg.nvA 0 (sB l)) from (clamp2 pb).symm, show dV l = clampV (Dg.nvA 0 (sC l)) from (clamp2 pc).symm]
                exact cvPs_pi (dsOf l) ((rA l).drop 1) ((rB l).drop 1) w hE (clampV (Dg.nvA 0 (sA l))) (clampV (Dg.nvA 0 (sB l))) (clampV (Dg.nvA 0 (sC l))) l0 l1 l2 hx pa rfl h2 pb rfl h3 pc rfl rc  (e1.trans h4)
            · obtain ⟨rfl, rfl, rfl, rfl⟩ := h.bad (fun hc => rc hc.rc)
              exact cvPs_pf (dsOf l) ((rA l).drop 1) ((rB l).drop 1) w hE (clampV (Dg.nvA 0 (sA l))) (clampV (Dg.nvA 0 (sB l))) (clampV (Dg.nvA 0 (sC l))) l0 l1 l2 hx pa rfl h2 pb rfl h3 pc rfl rc
          · obtain ⟨rfl, rfl, rfl, rfl⟩ := h.bad (fun hc => pc hc.c)
            exact cvPs_pe (dsOf l) ((rA l).drop 1) ((rB l).drop 1) w hE (clampV (Dg.nvA 0 (sA l))) (clampV (Dg.nvA 0 (sB l))) (clampV (Dg.nvA 0 (sC l))) l0 l1 l2 hx pa rfl h2 pb rfl h3 pc
      · obtain ⟨rfl, rfl, rfl, rfl⟩ := h.bad (fun hc => pb hc.b)
        exact cvPs_pc (dsOf l) ((rA l).drop 1) ((rB l).drop 1) w hE (clampV (Dg.nvA 0 (sA l))) (clampV (Dg.nvA 0 (sB l))) (clampV (Dg.nvA 0 (sC l))) l0 l1 l2 hx pa rfl h2 pb
  · obtain ⟨rfl, rfl, rfl, rfl⟩ := h.bad (fun hc => pa hc.a)
    exact cvPs_pa (dsOf l) ((rA l).drop 1) ((rB l).drop 1) w hE (clampV (Dg.nvA 0 (sA l))) (clampV (Dg.nvA 0 (sB l))) (clampV (Dg.nvA 0 (sC l))) l0 l1 l2 hx pa
theorem cvParse_n (l : List UInt8) (y m d e : Int) (w : World) (hE : EnvC w) (hl : l.length ≤ 1000) (hneg : isNeg l = true) (h : PRes l y m d e) :
    Calls Tryz.prog 21 #[.string (bA l)] w fun o w' => o = .returned (.tuple #[.agg #[.int .i64 y, .int .i64 m, .int .i64 d], .int .i64 e]) ∧ Dn w w' := by
  have hs := ds_sign l
  rw [hneg] at hs
  have l0 : (dsOf l).length ≤ 1000 := by have := congrArg List.length hs; rw [List.length_append] at this; omega
  have l1 : ((rA l).drop 1).length ≤ 1000 := Nat.le_trans (dw_len (dsOf l)).1 l0
  have l2 : ((rB l).drop 1).length ≤ 1000 := Nat.le_trans (dw_len ((rA l).drop 1)).1 l1
  have hl2 : l = 45 :: dsOf l := by simpa using hs
  rw [show bA l = bA (45 :: dsOf l) from congrArg bA hl2]
  by_cases pa : Part (sA l) 4 true
  · by_cases ra : rA l = []
    · obtain ⟨rfl, rfl, rfl, rfl⟩ := h.bad (fun hc => hc.ra ra)
      exact cvPs_nb (dsOf l) ((rA l).drop 1) ((rB l).drop 1) w hE (clampV (Dg.nvA 0 (sA l))) (clampV (Dg.nvA 0 (sB l))) (clampV (Dg.nvA 0 (sC l))) l0 l1 l2 pa rfl (by show isNeg (rA l) = false; rw [ra]; rfl)
    · have h2 : (dsOf l).dropWhile nd = 45 :: (rA l).drop 1 := dw_head (dsOf l) ra
      by_cases pb : Part (sB l) 2 false
      · by_cases rb : rB l = []
        · obtain ⟨rfl, rfl, rfl, rfl⟩ := h.bad (fun hc => hc.rb rb)
          exact cvPs_nd (dsOf l) ((rA l).drop 1) ((rB l).drop 1) w hE (clampV (Dg.nvA 0 (sA l))) (clampV (Dg.nvA 0 (sB l))) (clampV (Dg.nvA 0 (sC l))) l0 l1 l2 pa rfl h2 pb rfl (by show isNeg (rB l) = false; rw [rb]; rfl)
        · have h3 : ((rA l).drop 1).dropWhile nd = 45 :: (rB l).drop 1 := dw_head ((rA l).drop 1) rb
          by_cases pc : Part (sC l) 2 false
          · by_cases rc : rC l = []
            · by_cases hz : Dg.nvA 0 (sA l) = 0
              · obtain ⟨rfl, rfl, rfl, rfl⟩ := h.bad (fun hc => hc.nz ⟨hneg, hz⟩)
                exact cvPs_ng (dsOf l) ((rA l).drop 1) ((rB l).drop 1) w hE (clampV (Dg.nvA 0 (sA l))) (clampV (Dg.nvA 0 (sB l))) (clampV (Dg.nvA 0 (sC l))) l0 l1 l2 pa rfl h2 pb rfl h3 pc rfl rc (by rw [hz]; rfl)
              · have hcf : CF l := ⟨pa, ra, pb, rb, pc, rc, fun hx => hz hx.2⟩
                have hv0 : clampV (Dg.nvA 0 (sA l)) ≠ 0 := by unfold clampV; split <;> omega
                have e1 : cErr (-clampV (Dg.nvA 0 (sA l))) (clampV (Dg.nvA 0 (sB l))) (clampV (Dg.nvA 0 (sC l))) = cErr (yV l) (mV l) (dV l) := by
                  rw [clamp2 pb, clamp2 pc]
                  have := cErr_clamp true (Dg.nvA 0 (sA l)) (mV l) (dV l)
                  unfold yV
                  rw [hneg]
                  exact this
                rcases h with ⟨hc, _⟩ | ⟨_, h4, h5, rfl, rfl, rfl⟩ | ⟨_, h4, rfl, rfl, rfl, rfl⟩
                · exact absurd hcf hc
                · exact cvPs_nh (dsOf l) ((rA l).drop 1) ((rB l).drop 1) w hE (clampV (Dg.nvA 0 (sA l))) (clampV (Dg.nvA 0 (sB l))) (clampV (Dg.nvA 0 (sC l))) l0 l1 l2 pa rfl h2 pb rfl h3 pc rfl rc hv0 (clamp_bd _) e (e1.trans h4) h5
                · have hy : yV l = (-clampV (Dg.nvA 0 (sA l))) := by
                    unfold yV at h4 ⊢
                    rw [hneg] at h4 ⊢
                    rw [clamp_in _ _ _ _ h4]; rfl
                  rw [hy, show mV l = clampV (Dg.nvA 0 (sB l)) from (clamp2 pb).symm, show dV l = clampV (Dg.nvA 0 (sC l)) from (clamp2 pc).symm]
                  exact cvPs_ni (dsOf l) ((rA l).drop 1) ((rB l).drop 1) w hE (clampV (Dg.nvA 0 (sA l))) (clampV (Dg.nvA 0 (sB l))) (clampV (Dg.nvA 0 (sC l))) l0 l1 l2 pa rfl h2 pb rfl h3 pc rfl rc hv0 (clamp_bd _) (e1.trans h4)
            · obtain ⟨rfl, rfl, rfl, rfl⟩ := h.bad (fun hc => rc hc.rc)
              exact cvPs_nf (dsOf l) ((rA l).drop 1) ((rB l).drop 1) w hE (clampV (Dg.nvA 0 (sA l))) (clampV (Dg.nvA 0 (sB l))) (clampV (Dg.nvA 0 (sC l))) l0 l1 l2 pa rfl h2 pb rfl h3 pc rfl rc
          · obtain ⟨rfl, rfl, rfl, rfl⟩ := h.bad (fun hc => pc hc.c)
            exact cvPs_ne (dsOf l) ((rA l).drop 1) ((rB l).drop 1) w hE (clampV (Dg.nvA 0 (sA l))) (clampV (Dg.nvA 0 (sB l))) (clampV (Dg.nvA 0 (sC l))) l0 l1 l2 pa rfl h2 pb rfl h3 pc
      · obtain ⟨rfl, rfl, rfl, rfl⟩ := h.bad (fun hc => pb hc.b)
        exact cvPs_nc (dsOf l) ((rA l).drop 1) ((rB l).drop 1) w hE (clampV (Dg.nvA 0 (sA l))) (clampV (Dg.nvA 0 (sB l))) (clampV (Dg.nvA 0 (sC l))) l0 l1 l2 pa rfl h2 pb
  · obtain ⟨rfl, rfl, rfl, rfl⟩ := h.bad (fun hc => pa hc.a)
    exact cvPs_na (dsOf l) ((rA l).drop 1) ((rB l).drop 1) w hE (clampV (Dg.nvA 0 (sA l))) (clampV (Dg.nvA 0 (sB l))) (clampV (Dg.nvA 0 (sC l))) l0 l1 l2 pa
theorem cvParse (l : List UInt8) (y m d e : Int) (w : World) (hE : EnvC w) (hl : l.length ≤ 1000) (h : PRes l y m d e) :
    Calls Tryz.prog 21 #[.string (bA l)] w fun o w' => o = .returned (.tuple #[.agg #[.int .i64 y, .int .i64 m, .int .i64 d], .int .i64 e]) ∧ Dn w w' := by
  cases hn : isNeg l
  · exact cvParse_p l y m d e w hE hl hn h
  · exact cvParse_n l y m d e w hE hl hn h
theorem cvPad4 (l : List UInt8) (hl : l.length ≤ 1000) (w : World) : Calls Tryz.prog 44 #[.string (bA l), .int .i64 4] w fun o w' => o = .returned (.string (bA (padd 4 l))) ∧ Dn w w' := cvPad (bA l) 4 (Or.inr rfl) (by rw [bA_size]; exact hl) w
theorem cvPad2 (l : List UInt8) (hl : l.length ≤ 1000) (w : World) : Calls Tryz.prog 44 #[.string (bA l), .int .i64 2] w fun o w' => o = .returned (.string (bA (padd 2 l))) ∧ Dn w w' := cvPad (bA l) 2 (Or.inl rfl) (by rw [bA_size]; exact hl) w
theorem cutY (y : Int) (b : Bool) (h : decide (y < 0) = b) (W : World) : Calls Tryz.prog 42 #[.string ⟨(Lib.itoa y).toArray⟩, .string ⟨#[45]⟩] W fun e w' => e = .returned (.tuple #[.string (bA (dcm y.natAbs)), .bool b]) ∧ W = w' := by
  refine (Tryz.strings_CutPrefix (bA (Lib.itoa y)) ⟨#[45]⟩ W).mono ?_
  rintro e w' ⟨he, rfl⟩
  refine ⟨he.trans ?_, rfl⟩
  have hp : Lib.hasPrefix (bA (Lib.itoa y)).data.toList (⟨#[45]⟩ : ByteArray).data.toList = isNeg (Lib.itoa y) := has_neg _
  have ht : Lib.trimPrefix (bA (Lib.itoa y)).data.toList (⟨#[45]⟩ : ByteArray).data.toList = dsOf (Lib.itoa y) := trim_neg _
  rw [hp, ht]
  by_cases hy : y < 0
  · have e1 := itoa_neg y hy
    rw [e1]
    have : b = true := by rw [← h]; simpa using hy
    subst this
    rfl
  · have e1 := itoa_pos y (by omega)
    rw [e1, neg_of_allD (dcm_isD _), ds_allD (dcm_isD _)]
    have : b = false := by rw [← h]; simpa using hy
    subst this
    rfl
theorem itextD (n : Int) (w : World) (hn : I64 n) (h0 : 0 ≤ n) (hE : EnvC w) : Calls Tryz.prog 43 #[.int .i64 n] w fun e w' => e = .returned (.string (bA (dcm n.natAbs))) ∧ Dn w w' := by
  refine (itext n w hn hE.i).mono ?_
  rintro e w' ⟨rfl, u⟩
  exact ⟨by rw [itoa_pos n h0], u.dn⟩
set_option maxHeartbeats 4000000 in
set_option maxRecDepth 100000 in
theorem cvTx_p (y m d : Int) (T Y M D P4 P2 P3 : ByteArray) (s4 : P4.size ≤ 1000) (s2 : P2.size ≤ 1000) (s3 : P3.size ≤ 1000) (HC : Hid (cErr y m d = 0)) (HT : Hid (∀ W, EnvC W → Calls Tryz.prog 43 #[.int .i64 y] W fun o w' => o = .returned (.string T) ∧ Dn W w'))
    (HCut : Hid (∀ W, Calls Tryz.prog 42 #[.string T, .string ⟨#[45]⟩] W fun e w' => e = .returned (.tuple #[.string Y, .bool false]) ∧ W = w')) (HP4 : Hid (∀ W, Calls Tryz.prog 44 #[.string Y, .int .i64 4] W fun o w' => o = .returned (.string P4) ∧ Dn W w')) (HM : Hid (∀ W, EnvC W → Calls Tryz.prog 43 #[.int .i64 m] W fun o w' => o = .returned (.string M) ∧ Dn W w')) (HD : Hid (∀ W, EnvC W → Calls Tryz.prog 43 #[.int .i64 d] W fun o w' => o = .returned (.string D) ∧ Dn W w')) (HP2 : Hid (∀ W, Calls Tryz.prog 44 #[.string M, .int .i64 2] W fun o w' => o = .returned (.string P2) ∧ Dn W w')) (HP3 : Hid (∀ W, Calls Tryz.prog 44 #[.string D, .int .i64 2] W fun o w' => o = .returned (.string P3) ∧ Dn W w')) (w : World) (hE : EnvC w) :
    Calls Tryz.prog 20 #[.agg #[.int .i64 y, .int .i64 m, .int .i64 d]] w fun ro w' => ro = .returned (.tuple #[.string (P4 ++ ⟨#[45]⟩ ++ P2 ++ ⟨#[45]⟩ ++ P3), .int .i64 0]) ∧ Dn w w' := by
  have n0 : ¬ (9223372036854775807 < P4.size) := by omega
  have n1 : ¬ (9223372036854775807 < P4.size + 1) := by omega
  have n2 : ¬ (9223372036854775807 < P4.size + 1 + P2.size) := by omega
  have n3 : ¬ (9223372036854775807 < P4.size + 1 + P2.size + 1) := by omega
  have n4 : ¬ (9223372036854775807 < P4.size + 1 + P2.size + 1 + P3.size) := by omega
  have n5 : ¬ (9223372036854775807 < 0 + P4.size) := by omega
  have n6 : ¬ (9223372036854775807 < 0 + P4.size + 1) := by omega
  have n7 : ¬ (9223372036854775807 < 0 + P4.size + 1 + P2.size) := by omega
  have n8 : ¬ (9223372036854775807 < 0 + P4.size + 1 + P2.size + 1) := by omega
  have n9 : ¬ (9223372036854775807 < 0 + P4.size + 1 + P2.size + 1 + P3.size) := by omega
  clear s4 s2 s3
  go_enter Tryz.func20, Tryz.ntmps20
  go_wp2_with fail
  obtain ⟨W1, hW1⟩ : ∃ W1, W1 = w.alloc (.cells #[.int .i64 y, .int .i64 m, .int .i64 d] 23) := ⟨_, rfl⟩
  have uW1 : Dn w W1 := by rw [hW1]; exact (Dn.refl _).alloc _
  have c2 : W1.cell? ⟨w.heap.size, 0, none⟩ = some (.int .i64 y) := by rw [hW1]; simp [go_sem]
  have c3 : W1.cell? ⟨w.heap.size, 1, none⟩ = some (.int .i64 m) := by rw [hW1]; simp [go_sem]
  have c4 : W1.cell? ⟨w.heap.size, 2, none⟩ = some (.int .i64 d) := by rw [hW1]; simp [go_sem]
  have l5 : w.heap.size < W1.heap.size := by rw [hW1]; simp <;> omega
  rw [← hW1]
  clear hW1
  refine (cvChk y m d 0 _ (hE.dn uW1) HC.out).mono ?_
  rintro e w1 ⟨rfl, qw1⟩
  have l6 := Nat.lt_of_lt_of_le l5 qw1.size
  have c7 := qw1.cell c2
  have c8 := qw1.cell c3
  have c9 := qw1.cell c4
  clear l5 c2 c3 c4
  have uw1 := uW1.trans qw1
  clear qw1 uW1
  go_wp2_with fail
  refine (HT.out _ (hE.dn uw1)).mono ?_
  rintro e w2 ⟨rfl, qw2⟩
  have l10 := Nat.lt_of_lt_of_le l6 qw2.size
  have c11 := qw2.cell c7
  have c12 := qw2.cell c8
  have c13 := qw2.cell c9
  clear l6 c7 c8 c9
  have uw2 := uw1.trans qw2
  clear qw2 uw1
  go_wp2_with fail
  refine (HCut.out _).mono ?_
  rintro e w3 ⟨rfl, rfl⟩
  go_wp2_with fail
  have hS14 := kdVg_3 (W := w2) (Dn.refl _) ⟨Dn.refl _, c11, c12, c13⟩
  have HShS14 := Lib.hid hS14
  clear c11 c12 c13
  go_region_held3 (fun w' => Dn w2 w' ∧ w'.cell? ⟨w.heap.size, 0, none⟩ = some (.int .i64 y) ∧ w'.cell? ⟨w.heap.size, 1, none⟩ = some (.int .i64 m) ∧ w'.cell? ⟨w.heap.size, 2, none⟩ = some (.int .i64 d))
    (first | exact kdVg_3 ((Dn.refl _).drew) hS14 | exact kdVg_3 ‹Dn _ _› ‹_› | exact kdVg_3 (Up.dn ‹Up _ _›) ‹_› | assumption | exact kdVg_3 ((Dn.refl _).alloc _) ‹_›)
    (first
      | (go_at_call 44; (with_reducible refine (HP4.out _).mono ?_); rintro e wa ⟨rfl, qa⟩)
      | (go_at_call 44; (with_reducible refine (HP2.out _).mono ?_); rintro e wa ⟨rfl, qa⟩)
      | (go_at_call 44; (with_reducible refine (HP3.out _).mono ?_); rintro e wa ⟨rfl, qa⟩)
      | (go_at_call 43; (with_reducible refine (HM.out _ (hE.dn (Dn.trans uw2 (‹Dn w2 _ ∧ _› : _ ∧ _).1))).mono ?_); rintro e wa ⟨rfl, qa⟩)
      | (go_at_call 43; (with_reducible refine (HD.out _ (hE.dn (Dn.trans uw2 (‹Dn w2 _ ∧ _› : _ ∧ _).1))).mono ?_); rintro e wa ⟨rfl, qa⟩))
  all_goals
    clear hS14
    obtain ⟨uf18, c15, c16, c17⟩ := (‹Dn w2 _ ∧ _› : _ ∧ _)
    obtain ⟨w19, rfl⟩ : ∃ w19 : World, w19 = wa := ⟨_, rfl⟩
    have l20 := Nat.lt_of_lt_of_le l10 uf18.size
    clear l10
    have vuf18 := uw2.trans uf18
    clear uf18 uw2 HShS14
    go_wp2_with fail
    go_ret2
    exact ⟨rfl, vuf18⟩
set_option maxHeartbeats 4000000 in
set_option maxRecDepth 100000 in
theorem cvTx_n (y m d : Int) (T Y M D P4 P2 P3 : ByteArray) (s4 : P4.size ≤ 1000) (s2 : P2.size ≤ 1000) (s3 : P3.size ≤ 1000) (HC : Hid (cErr y m d = 0)) (HT : Hid (∀ W, EnvC W → Calls Tryz.prog 43 #[.int .i64 y] W fun o w' => o = .returned (.string T) ∧ Dn W w'))
    (HCut : Hid (∀ W, Calls Tryz.prog 42 #[.string T, .string ⟨#[45]⟩] W fun e w' => e = .returned (.tuple #[.string Y, .bool true]) ∧ W = w')) (HP4 : Hid (∀ W, Calls Tryz.prog 44 #[.string Y, .int .i64 4] W fun o w' => o = .returned (.string P4) ∧ Dn W w')) (HM : Hid (∀ W, EnvC W → Calls Tryz.prog 43 #[.int .i64 m] W fun o w' => o = .returned (.string M) ∧ Dn W w')) (HD : Hid (∀ W, EnvC W → Calls Tryz.prog 43 #[.int .i64 d] W fun o w' => o = .returned (.string D) ∧ Dn W w')) (HP2 : Hid (∀ W, Calls Tryz.prog 44 #[.string M, .int .i64 2] W fun o w' => o = .returned (.string P2) ∧ Dn W w')) (HP3 : Hid (∀ W, Calls Tryz.prog 44 #[.string D, .int .i64 2] W fun o w' => o = .returned (.string P3) ∧ Dn W w')) (w : World) (hE : EnvC w) :
    Calls Tryz.prog 20 #[.agg #[.int .i64 y, .int .i64 m, .int .i64 d]] w fun ro w' => ro = .returned (.tuple #[.string (⟨#[45]⟩ ++ P4 ++ ⟨#[45]⟩ ++ P2 ++ ⟨#[45]⟩ ++ P3), .int .i64 0]) ∧ Dn w w' := by
  have n0 : ¬ (9223372036854775807 < 1 + P4.size) := by omega
  have n1 : ¬ (9223372036854775807 < 1 + P4.size + 1) := by omega
  have n2 : ¬ (9223372036854775807 < 1 + P4.size + 1 + P2.size) := by omega
  have n3 : ¬ (9223372036854775807 < 1 + P4.size + 1 + P2.size + 1) := by omega
  have n4 : ¬ (9223372036854775807 < 1 + P4.size + 1 + P2.size + 1 + P3.size) := by omega
  have n5 : ¬ (9223372036854775807 < P4.size + 1) := by omega
  have n6 : ¬ (9223372036854775807 < P4.size + 1 + 1) := by omega
  have n7 : ¬ (9223372036854775807 < P4.size + 1 + 1 + P2.size) := by omega
  have n8 : ¬ (9223372036854775807 < P4.size + 1 + 1 + P2.size + 1) := by omega
  have n9 : ¬ (9223372036854775807 < P4.size + 1 + 1 + P2.size + 1 + P3.size) := by omega
  clear s4 s2 s3
  go_enter Tryz.func20, Tryz.ntmps20
  go_wp2_with fail
  obtain ⟨W1, hW1⟩ : ∃ W1, W1 = w.alloc (.cells #[.int .i64 y, .int .i64 m, .int .i64 d] 23) := ⟨_, rfl⟩
  have uW1 : Dn w W1 := by rw [hW1]; exact (Dn.refl _).alloc _
  have c2 : W1.cell? ⟨w.heap.size, 0, none⟩ = some (.int .i64 y) := by rw [hW1]; simp [go_sem]
  have c3 : W1.cell? ⟨w.heap.size, 1, none⟩ = some (.int .i64 m) := by rw [hW1]; simp [go_sem]
  have c4 : W1.cell? ⟨w.heap.size, 2, none⟩ = some (.int .i64 d) := by rw [hW1]; simp [go_sem]
  have l5 : w.heap.size < W1.heap.size := by rw [hW1]; simp <;> omega
  rw [← hW1]
  clear hW1
  refine (cvChk y m d 0 _ (hE.dn uW1) HC.out).mono ?_
  rintro e w1 ⟨rfl, qw1⟩
  have l6 := Nat.lt_of_lt_of_le l5 qw1.size
  have c7 := qw1.cell c2
  have c8 := qw1.cell c3
  have c9 := qw1.cell c4
  clear l5 c2 c3 c4
  have uw1 := uW1.trans qw1
  clear qw1 uW1
  go_wp2_with fail
  refine (HT.out _ (hE.dn uw1)).mono ?_
  rintro e w2 ⟨rfl, qw2⟩
  have l10 := Nat.lt_of_lt_of_le l6 qw2.size
  have c11 := qw2.cell c7
  have c12 := qw2.cell c8
  have c13 := qw2.cell c9
  clear l6 c7 c8 c9
  have uw2 := uw1.trans qw2
  clear qw2 uw1
  go_wp2_with fail
  refine (HCut.out _).mono ?_
  rintro e w3 ⟨rfl, rfl⟩
  go_wp2_with fail
  have hS14 := kdVg_3 (W := w2) (Dn.refl _) ⟨Dn.refl _, c11, c12, c13⟩
  have HShS14 := Lib.hid hS14
  clear c11 c12 c13
  go_region_held3 (fun w' => Dn w2 w' ∧ w'.cell? ⟨w.heap.size, 0, none⟩ = some (.int .i64 y) ∧ w'.cell? ⟨w.heap.size, 1, none⟩ = some (.int .i64 m) ∧ w'.cell? ⟨w.heap.size, 2, none⟩ = some (.int .i64 d))
    (first | exact kdVg_3 ((Dn.refl _).drew) hS14 | exact kdVg_3 ‹Dn _ _› ‹_› | exact kdVg_3 (Up.dn ‹Up _ _›) ‹_› | assumption | exact kdVg_3 ((Dn.refl _).alloc _) ‹_›)
    (first
      | (go_at_call 44; (with_reducible refine (HP4.out _).mono ?_); rintro e wa ⟨rfl, qa⟩)
      | (go_at_call 44; (with_reducible refine (HP2.out _).mono ?_); rintro e wa ⟨rfl, qa⟩)
      | (go_at_call 44; (with_reducible refine (HP3.out _).mono ?_); rintro e wa ⟨rfl, qa⟩)
      | (go_at_call 43; (with_reducible refine (HM.out _ (hE.dn (Dn.trans uw2 (‹Dn w2 _ ∧ _› : _ ∧ _).1))).mono ?_); rintro e wa ⟨rfl, qa⟩)
      | (go_at_call 43; (with_reducible refine (HD.out _ (hE.dn (Dn.trans uw2 (‹Dn w2 _ ∧ _› : _ ∧ _).1))).mono ?_); rintro e wa ⟨rfl, qa⟩))
  all_goals
    clear hS14
    obtain ⟨uf18, c15, c16, c17⟩ := (‹Dn w2 _ ∧ _› : _ ∧ _)
    obtain ⟨w19, rfl⟩ : ∃ w19 : World, w19 = wa := ⟨_, rfl⟩
    have l20 := Nat.lt_of_lt_of_le l10 uf18.size
    clear l10
    have vuf18 := uw2.trans uf18
    clear uf18 uw2 HShS14
    go_wp2_with fail
    go_ret2
    exact ⟨rfl, vuf18⟩
set_option maxHeartbeats 4000000 in
set_option maxRecDepth 100000 in
theorem cvTx_bad (y m d e : Int) (he : cErr y m d = e) (h0 : e ≠ 0) (w : World) (hE : EnvC w) :
    Calls Tryz.prog 20 #[.agg #[.int .i64 y, .int .i64 m, .int .i64 d]] w fun ro w' => ro = .returned (.tuple #[.string ⟨#[]⟩, .int .i64 e]) ∧ Dn w w' := by
  have H := Lib.hid he
  have t : (e != 0) = true := by simpa using h0
  clear he h0
  go_enter Tryz.func20, Tryz.ntmps20
  go_wp2_with fail
  obtain ⟨W1, hW1⟩ : ∃ W1, W1 = w.alloc (.cells #[.int .i64 y, .int .i64 m, .int .i64 d] 23) := ⟨_, rfl⟩
  have uW1 : Dn w W1 := by rw [hW1]; exact (Dn.refl _).alloc _
  have c2 : W1.cell? ⟨w.heap.size, 0, none⟩ = some (.int .i64 y) := by rw [hW1]; simp [go_sem]
  have c3 : W1.cell? ⟨w.heap.size, 1, none⟩ = some (.int .i64 m) := by rw [hW1]; simp [go_sem]
  have c4 : W1.cell? ⟨w.heap.size, 2, none⟩ = some (.int .i64 d) := by rw [hW1]; simp [go_sem]
  have l5 : w.heap.size < W1.heap.size := by rw [hW1]; simp <;> omega
  rw [← hW1]
  clear hW1
  refine (cvChk y m d e _ (hE.dn uW1) H.out).mono ?_
  rintro e w1 ⟨rfl, qw1⟩
  have l6 := Nat.lt_of_lt_of_le l5 qw1.size
  have c7 := qw1.cell c2
  have c8 := qw1.cell c3
  have c9 := qw1.cell c4
  clear l5 c2 c3 c4
  have uw1 := uW1.trans qw1
  clear qw1 uW1
  go_wp2_with fail
  go_ret2
  exact ⟨rfl, uw1⟩
theorem cvTx_ok (y m d : Int) (w : World) (hE : EnvC w) (he : cErr y m d = 0) :
    Calls Tryz.prog 20 #[.agg #[.int .i64 y, .int .i64 m, .int .i64 d]] w fun ro w' => ro = .returned (.tuple #[.string (bA (cT y m d)), .int .i64 0]) ∧ Dn w w' := by
  obtain ⟨⟨⟨y1, y2⟩, m1, m2⟩, d1, d2⟩ := cErr_ok he
  have hml := Cal.mlen_bd y m
  have hy : I64 y := ⟨by omega, by omega⟩
  have ly : (dcm y.natAbs).length ≤ 17 := dcm_len _ 17 (by decide) (by rw [show Dg.p10 17 = 100000000000000000 by decide]; omega)
  have lm := dcm_two m.natAbs (by omega)
  have ld := dcm_two d.natAbs (by omega)
  have HT : Hid (∀ W, EnvC W → Calls Tryz.prog 43 #[.int .i64 y] W fun o w' => o = .returned (.string ⟨(Lib.itoa y).toArray⟩) ∧ Dn W w') := Lib.hid fun W hW => (itext y W hy hW.i).mono fun _ _ ⟨a, b⟩ => ⟨a, b.dn⟩
  have HM := Lib.hid (fun W (hW : EnvC W) => itextD m W ⟨by omega, by omega⟩ (by omega) hW)
  have HD := Lib.hid (fun W (hW : EnvC W) => itextD d W ⟨by omega, by omega⟩ (by omega) hW)
  have z4 : (bA (padd 4 (dcm y.natAbs))).size ≤ 1000 := by rw [bA_size, padd_len]; omega
  have z2 : (bA (padd 2 (dcm m.natAbs))).size ≤ 1000 := by rw [bA_size, padd_len]; omega
  have z3 : (bA (padd 2 (dcm d.natAbs))).size ≤ 1000 := by rw [bA_size, padd_len]; omega
  have k4 := Lib.hid (fun W => cvPad4 (dcm y.natAbs) (by omega) W)
  have k2 := Lib.hid (fun W => cvPad2 (dcm m.natAbs) (by omega) W)
  have k3 := Lib.hid (fun W => cvPad2 (dcm d.natAbs) (by omega) W)
  have e45 : (⟨#[45]⟩ : ByteArray) = bA [45] := rfl
  by_cases hn : y < 0
  · have h := cvTx_n y m d _ _ _ _ _ _ _ z4 z2 z3 (Lib.hid he) HT (Lib.hid (fun W => cutY y true (by simpa using hn) W)) k4 HM HD k2 k3 w hE
    rw [show bA (cT y m d) = ⟨#[45]⟩ ++ bA (padd 4 (dcm y.natAbs)) ++ ⟨#[45]⟩ ++ bA (padd 2 (dcm m.natAbs)) ++ ⟨#[45]⟩ ++ bA (padd 2 (dcm d.natAbs)) by
      rw [e45, bA_app, bA_app, bA_app, bA_app, bA_app]; congr 1; unfold cT; rw [if_pos hn]; simp]
    exact h
  · have h := cvTx_p y m d _ _ _ _ _ _ _ z4 z2 z3 (Lib.hid he) HT (Lib.hid (fun W => cutY y false (by simpa using hn) W)) k4 HM HD k2 k3 w hE
    rw [show bA (cT y m d) = bA (padd 4 (dcm y.natAbs)) ++ ⟨#[45]⟩ ++ bA (padd 2 (dcm m.natAbs)) ++ ⟨#[45]⟩ ++ bA (padd 2 (dcm d.natAbs)) by
      rw [e45, bA_app, bA_app, bA_app, bA_app]; congr 1; unfold cT; rw [if_neg hn]; simp]
    exact h
end Go.Proofs.YtopbbcbpanfigaaGreatDoor
