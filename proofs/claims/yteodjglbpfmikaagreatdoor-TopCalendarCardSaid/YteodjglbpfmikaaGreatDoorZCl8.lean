/- Walks and laws that the claim's theorem leans on: part 8. -/
import Derived.Test.YteodjglbpfmikaaGreatDoorZCl1
import Derived.Test.YteodjglbpfmikaaGreatDoorZCl2
import Derived.Test.YteodjglbpfmikaaGreatDoorZCl3
import Derived.Test.YteodjglbpfmikaaGreatDoorZCl7
namespace Go.Proofs.YteodjglbpfmikaaGreatDoor
set_option maxHeartbeats 4000000
set_option maxRecDepth 100000
open Go.RowKit
set_option linter.unusedVariables false
set_option linter.unusedSimpArgs false
theorem kdVg_3 {W w1 w2 : World} {a0 a1 a2 : Addr} {v0 v1 v2 : Value} (k : Dn w1 w2) (h : Dn W w1 ∧ w1.cell? a0 = some v0 ∧ w1.cell? a1 = some v1 ∧ w1.cell? a2 = some v2) :
  Dn W w2 ∧ w2.cell? a0 = some v0 ∧ w2.cell? a1 = some v1 ∧ w2.cell? a2 = some v2 := by
 obtain ⟨h1, c0, c1, c2⟩ := h
 exact ⟨h1.trans k, k.cell c0, k.cell c1, k.cell c2⟩
def PRes (l : List UInt8) (y m d e : Int) : Prop :=
 (¬ CF l ∧ y = 0 ∧ m = 0 ∧ d = 0 ∧ e = 5) ∨ (CF l ∧ cErr (yV l) (mV l) (dV l) = e ∧ e ≠ 0 ∧ y = 0 ∧ m = 0 ∧ d = 0) ∨ (CF l ∧ cErr (yV l) (mV l) (dV l) = 0 ∧ y = yV l ∧ m = mV l ∧ d = dV l ∧ e = 0)
theorem PRes.bad {l : List UInt8} {y m d e : Int} (h : PRes l y m d e) (hn : ¬ CF l) : y = 0 ∧ m = 0 ∧ d = 0 ∧ e = 5 := by
 rcases h with ⟨_, h⟩ | ⟨hc, _⟩ | ⟨hc, _⟩
 · exact h
 · exact absurd hc hn
 · exact absurd hc hn
theorem clamp2 {p : List UInt8} (h : Part p 2 false) : clampV (Dg.nvA 0 p) = (Dg.nvA 0 p : Int) := by
 obtain ⟨h1, h2⟩ := (part2 _).1 h
 have := nv_len p h2
 rw [h1, show Dg.p10 2 = 100 by decide] at this
 unfold clampV
 rw [if_pos (by omega)]
theorem clamp_bd (n : Nat) : 0 ≤ clampV n ∧ clampV n ≤ 9223372036854775807 := by unfold clampV; split <;> omega
theorem cErr_far {y m d : Int} (h : ¬ IsY y) : cErr y m d = 6 := by unfold cErr; rw [if_pos h]
theorem cErr_clamp (b : Bool) (n : Nat) (m d : Int) : cErr (sg b (clampV n)) m d = cErr (sg b (n : Int)) m d := by
 unfold clampV
 split
 · rfl
 · rw [cErr_far, cErr_far]
   · unfold IsY sg; cases b <;> simp <;> omega
   · unfold IsY sg; cases b <;> simp <;> omega
theorem clamp_in (b : Bool) (n : Nat) (m d : Int) (h : cErr (sg b (n : Int)) m d = 0) : clampV n = n := by
 obtain ⟨⟨h1, _⟩, _⟩ := cErr_ok h
 unfold IsY sg at h1
 unfold clampV
 rw [if_pos]
 cases b <;> simp at h1 <;> omega
theorem cvParse_p (l : List UInt8) (y m d e : Int) (w : World) (hE : EnvK w) (hl : l.length ≤ 1000) (hneg : isNeg l = false) (h : PRes l y m d e) :
   Calls Tryz.prog 35 #[.string (bA l)] w fun o w' => o = .returned (.tuple #[.agg #[.int .i64 y, .int .i64 m, .int .i64 d], .int .i64 e]) ∧ Dn w w' := by
 have hs := ds_sign l
 rw [hneg] at hs
 have l0 : (dsOf l).length ≤ 1000 := by have := congrArg List.length hs; rw [List.length_append] at this; omega
 have l1 : ((rA l).drop 1).length ≤ 1000 := Nat.le_trans (dw_len (dsOf l)).1 l0
 have l2 : ((rB l).drop 1).length ≤ 1000 := Nat.le_trans (dw_len ((rA l).drop 1)).1 l1
 have hl2 : l = dsOf l := by simpa using hs
 have hx : isNeg (dsOf l) = false := by rw [← hl2]; exact hneg
 rw [show bA l = bA (dsOf l) from congrArg bA hl2]
 by_cases pa : Part (sA l) 4 true
 · by_cases ra : rA l = []
   · obtain ⟨rfl, rfl, rfl, rfl⟩ := h.bad (fun hc => hc.ra ra)
     exact cvPs_pb (dsOf l) ((rA l).drop 1) ((rB l).drop 1) w hE (clampV (Dg.nvA 0 (sA l))) (clampV (Dg.nvA 0 (sB l))) (clampV (Dg.nvA 0 (sC l))) l0 l1 l2 hx pa rfl (by show isNeg (rA l) = false; rw [ra]; rfl)
   · have h2 : (dsOf l).dropWhile nd = 45 :: (rA l).drop 1 := dw_head (dsOf l) ra
     by_cases pb : Part (sB l) 2 false
     · by_cases rb : rB l = []
       · obtain ⟨rfl, rfl, rfl, rfl⟩ := h.bad (fun hc => hc.rb rb)
         exact cvPs_pd (dsOf l) ((rA l).drop 1) ((rB l).drop 1) w hE (clampV (Dg.nvA 0 (sA l))) (clampV (Dg.nvA 0 (sB l))) (clampV (Dg.nvA 0 (sC l))) l0 l1 l2 hx pa rfl h2 pb rfl (by show isNeg (rB l) = false; rw [rb]; rfl)
       · have h3 : ((rA l).drop 1).dropWhile nd = 45 :: (rB l).drop 1 := dw_head ((rA l).drop 1) rb
         by_cases pc : Part (sC l) 2 false
         · by_cases rc : rC l = []
           · have hcf : CF l := ⟨pa, ra, pb, rb, pc, rc, fun hx => by rw [hneg] at hx; cases hx.1⟩
             have e1 : cErr (clampV (Dg.nvA 0 (sA l))) (clampV (Dg.nvA 0 (sB l))) (clampV (Dg.nvA 0 (sC l))) = cErr (yV l) (mV l) (dV l) := by
               rw [clamp2 pb, clamp2 pc]
               have := cErr_clamp false (Dg.nvA 0 (sA l)) (mV l) (dV l)
               unfold yV
               rw [hneg]
               exact this
             rcases h with ⟨hc, _⟩ | ⟨_, h4, h5, rfl, rfl, rfl⟩ | ⟨_, h4, rfl, rfl, rfl, rfl⟩
             · exact absurd hcf hc
             · exact cvPs_ph (dsOf l) ((rA l).drop 1) ((rB l).drop 1) w hE (clampV (Dg.nvA 0 (sA l))) (clampV (Dg.nvA 0 (sB l))) (clampV (Dg.nvA 0 (sC l))) l0 l1 l2 hx pa rfl h2 pb rfl h3 pc rfl rc  e (e1.trans h4) h5
             · have hy : yV l = (clampV (Dg.nvA 0 (sA l))) := by
                unfold yV at h4 ⊢
                rw [hneg] at h4 ⊢
                rw [clamp_in _ _ _ _ h4]; rfl
               rw [hy, show mV l = clampV (Dg.nvA 0 (sB l)) from (clamp2 pb).symm, show dV l = clampV (Dg.nvA 0 (sC l)) from (clamp2 pc).symm]
               exact cvPs_pi (dsOf l) ((rA l).drop 1) ((rB l).drop 1) w hE (clampV (Dg.nvA 0 (sA l))) (clampV (Dg.nvA 0 (sB l))) (clampV (Dg.nvA 0 (sC l))) l0 l1 l2 hx pa rfl h2 pb rfl h3 pc rfl rc  (e1.trans h4)
           · obtain ⟨rfl, rfl, rfl, rfl⟩ := h.bad (fun hc => rc hc.rc)
             exact cvPs_pf (dsOf l) ((rA l).drop 1) ((rB l).drop 1) w hE (clampV (Dg.nvA 0 (sA l))) (clampV (Dg.nvA 0 (sB l))) (clampV (Dg.nvA 0 (sC l))) l0 l1 l2 hx pa rfl h2 pb rfl h3 pc rfl rc
         · obtain ⟨rfl, rfl, rfl, rfl⟩ := h.bad (fun hc => pc hc.c)
           exact cvPs_pe (dsOf l) ((rA l).drop 1) ((rB l).drop 1) w hE (clampV (Dg.nvA 0 (sA l))) (clampV (Dg.nvA 0 (sB l))) (clampV (Dg.nvA 0 (sC l))) l0 l1 l2 hx pa rfl h2 pb rfl h3 pc
     · obtain ⟨rfl, rfl, rfl, rfl⟩ := h.bad (fun hc => pb hc.b)
       exact cvPs_pc (dsOf l) ((rA l).drop 1) ((rB l).drop 1) w hE (clampV (Dg.nvA 0 (sA l))) (clampV (Dg.nvA 0 (sB l))) (clampV (Dg.nvA 0 (sC l))) l0 l1 l2 hx pa rfl h2 pb
 · obtain ⟨rfl, rfl, rfl, rfl⟩ := h.bad (fun hc => pa hc.a)
   exact cvPs_pa (dsOf l) ((rA l).drop 1) ((rB l).drop 1) w hE (clampV (Dg.nvA 0 (sA l))) (clampV (Dg.nvA 0 (sB l))) (clampV (Dg.nvA 0 (sC l))) l0 l1 l2 hx pa
theorem cvParse_n (l : List UInt8) (y m d e : Int) (w : World) (hE : EnvK w) (hl : l.length ≤ 1000) (hneg : isNeg l = true) (h : PRes l y m d e) :
   Calls Tryz.prog 35 #[.string (bA l)] w fun o w' => o = .returned (.tuple #[.agg #[.int .i64 y, .int .i64 m, .int .i64 d], .int .i64 e]) ∧ Dn w w' := by
 have hs := ds_sign l
 rw [hneg] at hs
 have l0 : (dsOf l).length ≤ 1000 := by have := congrArg List.length hs; rw [List.length_append] at this; omega
 have l1 : ((rA l).drop 1).length ≤ 1000 := Nat.le_trans (dw_len (dsOf l)).1 l0
 have l2 : ((rB l).drop 1).length ≤ 1000 := Nat.le_trans (dw_len ((rA l).drop 1)).1 l1
 have hl2 : l = 45 :: dsOf l := by simpa using hs
 rw [show bA l = bA (45 :: dsOf l) from congrArg bA hl2]
 by_cases pa : Part (sA l) 4 true
 · by_cases ra : rA l = []
   · obtain ⟨rfl, rfl, rfl, rfl⟩ := h.bad (fun hc => hc.ra ra)
     exact cvPs_nb (dsOf l) ((rA l).drop 1) ((rB l).drop 1) w hE (clampV (Dg.nvA 0 (sA l))) (clampV (Dg.nvA 0 (sB l))) (clampV (Dg.nvA 0 (sC l))) l0 l1 l2 pa rfl (by show isNeg (rA l) = false; rw [ra]; rfl)
   · have h2 : (dsOf l).dropWhile nd = 45 :: (rA l).drop 1 := dw_head (dsOf l) ra
     by_cases pb : Part (sB l) 2 false
     · by_cases rb : rB l = []
       · obtain ⟨rfl, rfl, rfl, rfl⟩ := h.bad (fun hc => hc.rb rb)
         exact cvPs_nd (dsOf l) ((rA l).drop 1) ((rB l).drop 1) w hE (clampV (Dg.nvA 0 (sA l))) (clampV (Dg.nvA 0 (sB l))) (clampV (Dg.nvA 0 (sC l))) l0 l1 l2 pa rfl h2 pb rfl (by show isNeg (rB l) = false; rw [rb]; rfl)
       · have h3 : ((rA l).drop 1).dropWhile nd = 45 :: (rB l).drop 1 := dw_head ((rA l).drop 1) rb
         by_cases pc : Part (sC l) 2 false
         · by_cases rc : rC l = []
           · by_cases hz : Dg.nvA 0 (sA l) = 0
             · obtain ⟨rfl, rfl, rfl, rfl⟩ := h.bad (fun hc => hc.nz ⟨hneg, hz⟩)
               exact cvPs_ng (dsOf l) ((rA l).drop 1) ((rB l).drop 1) w hE (clampV (Dg.nvA 0 (sA l))) (clampV (Dg.nvA 0 (sB l))) (clampV (Dg.nvA 0 (sC l))) l0 l1 l2 pa rfl h2 pb rfl h3 pc rfl rc (by rw [hz]; rfl)
             · have hcf : CF l := ⟨pa, ra, pb, rb, pc, rc, fun hx => hz hx.2⟩
               have hv0 : clampV (Dg.nvA 0 (sA l)) ≠ 0 := by unfold clampV; split <;> omega
               have e1 : cErr (-clampV (Dg.nvA 0 (sA l))) (clampV (Dg.nvA 0 (sB l))) (clampV (Dg.nvA 0 (sC l))) = cErr (yV l) (mV l) (dV l) := by
                 rw [clamp2 pb, clamp2 pc]
                 have := cErr_clamp true (Dg.nvA 0 (sA l)) (mV l) (dV l)
                 unfold yV
                 rw [hneg]
                 exact this
               rcases h with ⟨hc, _⟩ | ⟨_, h4, h5, rfl, rfl, rfl⟩ | ⟨_, h4, rfl, rfl, rfl, rfl⟩
               · exact absurd hcf hc
               · exact cvPs_nh (dsOf l) ((rA l).drop 1) ((rB l).drop 1) w hE (clampV (Dg.nvA 0 (sA l))) (clampV (Dg.nvA 0 (sB l))) (clampV (Dg.nvA 0 (sC l))) l0 l1 l2 pa rfl h2 pb rfl h3 pc rfl rc hv0 (clamp_bd _) e (e1.trans h4) h5
               · have hy : yV l = (-clampV (Dg.nvA 0 (sA l))) := by
                  unfold yV at h4 ⊢
                  rw [hneg] at h4 ⊢
                  rw [clamp_in _ _ _ _ h4]; rfl
                 rw [hy, show mV l = clampV (Dg.nvA 0 (sB l)) from (clamp2 pb).symm, show dV l = clampV (Dg.nvA 0 (sC l)) from (clamp2 pc).symm]
                 exact cvPs_ni (dsOf l) ((rA l).drop 1) ((rB l).drop 1) w hE (clampV (Dg.nvA 0 (sA l))) (clampV (Dg.nvA 0 (sB l))) (clampV (Dg.nvA 0 (sC l))) l0 l1 l2 pa rfl h2 pb rfl h3 pc rfl rc hv0 (clamp_bd _) (e1.trans h4)
           · obtain ⟨rfl, rfl, rfl, rfl⟩ := h.bad (fun hc => rc hc.rc)
             exact cvPs_nf (dsOf l) ((rA l).drop 1) ((rB l).drop 1) w hE (clampV (Dg.nvA 0 (sA l))) (clampV (Dg.nvA 0 (sB l))) (clampV (Dg.nvA 0 (sC l))) l0 l1 l2 pa rfl h2 pb rfl h3 pc rfl rc
         · obtain ⟨rfl, rfl, rfl, rfl⟩ := h.bad (fun hc => pc hc.c)
           exact cvPs_ne (dsOf l) ((rA l).drop 1) ((rB l).drop 1) w hE (clampV (Dg.nvA 0 (sA l))) (clampV (Dg.nvA 0 (sB l))) (clampV (Dg.nvA 0 (sC l))) l0 l1 l2 pa rfl h2 pb rfl h3 pc
     · obtain ⟨rfl, rfl, rfl, rfl⟩ := h.bad (fun hc => pb hc.b)
       exact cvPs_nc (dsOf l) ((rA l).drop 1) ((rB l).drop 1) w hE (clampV (Dg.nvA 0 (sA l))) (clampV (Dg.nvA 0 (sB l))) (clampV (Dg.nvA 0 (sC l))) l0 l1 l2 pa rfl h2 pb
 · obtain ⟨rfl, rfl, rfl, rfl⟩ := h.bad (fun hc => pa hc.a)
   exact cvPs_na (dsOf l) ((rA l).drop 1) ((rB l).drop 1) w hE (clampV (Dg.nvA 0 (sA l))) (clampV (Dg.nvA 0 (sB l))) (clampV (Dg.nvA 0 (sC l))) l0 l1 l2 pa
theorem cvParse (l : List UInt8) (y m d e : Int) (w : World) (hE : EnvK w) (hl : l.length ≤ 1000) (h : PRes l y m d e) :
   Calls Tryz.prog 35 #[.string (bA l)] w fun o w' => o = .returned (.tuple #[.agg #[.int .i64 y, .int .i64 m, .int .i64 d], .int .i64 e]) ∧ Dn w w' := by
 cases hn : isNeg l
 · exact cvParse_p l y m d e w hE hl hn h
 · exact cvParse_n l y m d e w hE hl hn h
theorem cvPad4 (l : List UInt8) (hl : l.length ≤ 1000) (w : World) : Calls Tryz.prog 84 #[.string (bA l), .int .i64 4] w fun o w' => o = .returned (.string (bA (padd 4 l))) ∧ Dn w w' := cvPad (bA l) 4 (Or.inr rfl) (by rw [bA_size]; exact hl) w
theorem cvPad2 (l : List UInt8) (hl : l.length ≤ 1000) (w : World) : Calls Tryz.prog 84 #[.string (bA l), .int .i64 2] w fun o w' => o = .returned (.string (bA (padd 2 l))) ∧ Dn w w' := cvPad (bA l) 2 (Or.inl rfl) (by rw [bA_size]; exact hl) w
theorem cutY (y : Int) (b : Bool) (h : decide (y < 0) = b) (W : World) : Calls Tryz.prog 82 #[.string ⟨(Lib.itoa y).toArray⟩, .string ⟨#[45]⟩] W fun e w' => e = .returned (.tuple #[.string (bA (dcm y.natAbs)), .bool b]) ∧ W = w' := by
 refine (Tryz.strings_CutPrefix (bA (Lib.itoa y)) ⟨#[45]⟩ W).mono ?_
 rintro e w' ⟨he, rfl⟩
 refine ⟨he.trans ?_, rfl⟩
 have hp : Lib.hasPrefix (bA (Lib.itoa y)).data.toList (⟨#[45]⟩ : ByteArray).data.toList = isNeg (Lib.itoa y) := has_neg _
 have ht : Lib.trimPrefix (bA (Lib.itoa y)).data.toList (⟨#[45]⟩ : ByteArray).data.toList = dsOf (Lib.itoa y) := trim_neg _
 rw [hp, ht]
 by_cases hy : y < 0
 · have e1 := itoa_neg y hy
   rw [e1]
   have : b = true := by rw [← h]; simpa using hy
   subst this
   rfl
 · have e1 := itoa_pos y (by omega)
   rw [e1, neg_of_allD (dcm_isD _), ds_allD (dcm_isD _)]
   have : b = false := by rw [← h]; simpa using hy
   subst this
   rfl
theorem itextD (n : Int) (w : World) (hn : I64 n) (h0 : 0 ≤ n) (hE : EnvC w) : Calls Tryz.prog 83 #[.int .i64 n] w fun e w' => e = .returned (.string (bA (dcm n.natAbs))) ∧ Dn w w' := by
 refine (itext n w hn hE.i).mono ?_
 rintro e w' ⟨rfl, u⟩
 exact ⟨by rw [itoa_pos n h0], u.dn⟩
theorem preCl45x1 (w : World) (y m d : Int) : ∃ W1, W1 = w.alloc (.cells #[.int .i64 y, .int .i64 m, .int .i64 d] 64) ∧ (Dn w W1) ∧ (W1.cell? ⟨w.heap.size, 0, none⟩ = some (.int .i64 y)) ∧ (W1.cell? ⟨w.heap.size, 1, none⟩ = some (.int .i64 m)) ∧ (W1.cell? ⟨w.heap.size, 2, none⟩ = some (.int .i64 d)) ∧ (w.heap.size < W1.heap.size) := by
  obtain ⟨W1, hW1⟩ : ∃ W1, W1 = w.alloc (.cells #[.int .i64 y, .int .i64 m, .int .i64 d] 64) := ⟨_, rfl⟩
  exact ⟨W1, hW1, (by rw [hW1]; exact (Dn.refl _).alloc _), (by rw [hW1]; simp [go_sem]), (by rw [hW1]; simp [go_sem]), (by rw [hW1]; simp [go_sem]), (by rw [hW1]; simp <;> omega)⟩
theorem cvTx_p (y m d : Int) (T Y M D P4 P2 P3 : ByteArray) (s4 : P4.size ≤ 1000) (s2 : P2.size ≤ 1000) (s3 : P3.size ≤ 1000) (HC : Hid (cErr y m d = 0)) (HT : Hid (∀ W, EnvC W → Calls Tryz.prog 83 #[.int .i64 y] W fun o w' => o = .returned (.string T) ∧ Dn W w'))
    (HCut : Hid (∀ W, Calls Tryz.prog 82 #[.string T, .string ⟨#[45]⟩] W fun e w' => e = .returned (.tuple #[.string Y, .bool false]) ∧ W = w')) (HP4 : Hid (∀ W, Calls Tryz.prog 84 #[.string Y, .int .i64 4] W fun o w' => o = .returned (.string P4) ∧ Dn W w')) (HM : Hid (∀ W, EnvC W → Calls Tryz.prog 83 #[.int .i64 m] W fun o w' => o = .returned (.string M) ∧ Dn W w')) (HD : Hid (∀ W, EnvC W → Calls Tryz.prog 83 #[.int .i64 d] W fun o w' => o = .returned (.string D) ∧ Dn W w')) (HP2 : Hid (∀ W, Calls Tryz.prog 84 #[.string M, .int .i64 2] W fun o w' => o = .returned (.string P2) ∧ Dn W w')) (HP3 : Hid (∀ W, Calls Tryz.prog 84 #[.string D, .int .i64 2] W fun o w' => o = .returned (.string P3) ∧ Dn W w')) (w : World) (hE : EnvC w) :
    Calls Tryz.prog 34 #[.agg #[.int .i64 y, .int .i64 m, .int .i64 d]] w fun ro w' => ro = .returned (.tuple #[.string (P4 ++ ⟨#[45]⟩ ++ P2 ++ ⟨#[45]⟩ ++ P3), .int .i64 0]) ∧ Dn w w' := by
  have n0 : ¬ (9223372036854775807 < P4.size) := by omega
  have n1 : ¬ (9223372036854775807 < P4.size + 1) := by omega
  have n2 : ¬ (9223372036854775807 < P4.size + 1 + P2.size) := by omega
  have n3 : ¬ (9223372036854775807 < P4.size + 1 + P2.size + 1) := by omega
  have n4 : ¬ (9223372036854775807 < P4.size + 1 + P2.size + 1 + P3.size) := by omega
  have n5 : ¬ (9223372036854775807 < 0 + P4.size) := by omega
  have n6 : ¬ (9223372036854775807 < 0 + P4.size + 1) := by omega
  have n7 : ¬ (9223372036854775807 < 0 + P4.size + 1 + P2.size) := by omega
  have n8 : ¬ (9223372036854775807 < 0 + P4.size + 1 + P2.size + 1) := by omega
  have n9 : ¬ (9223372036854775807 < 0 + P4.size + 1 + P2.size + 1 + P3.size) := by omega
  clear s4 s2 s3
  go_enter Tryz.func34, Tryz.ntmps34
  go_wp2_with fail
  obtain ⟨W1, hW1, uW1, c2, c3, c4, l5⟩ := preCl45x1 w y m d
  rw [← hW1]
  clear hW1
  refine (cvChk y m d 0 _ (hE.dn uW1) HC.out).mono ?_
  rintro e w1 ⟨rfl, qw1⟩
  have l6 := nlt l5 qw1.size
  obtain ⟨c7, c8, c9⟩ := mv3 qw1.cell c2 c3 c4
  clear l5 c2 c3 c4
  have uw1 := uW1.trans qw1
  clear qw1 uW1
  go_wp2_with fail
  refine (HT.out _ (hE.dn uw1)).mono ?_
  rintro e w2 ⟨rfl, qw2⟩
  have a0 := nlt l6 qw2.size
  obtain ⟨a1, a2, a3⟩ := mv3 qw2.cell c7 c8 c9
  clear l6 c7 c8 c9
  have uw2 := uw1.trans qw2
  clear qw2 uw1
  go_wp2_with fail
  refine (HCut.out _).mono ?_
  rintro e w3 ⟨rfl, rfl⟩
  go_wp2_with fail
  have hS14 := kdVg_3 (W := w2) (Dn.refl _) ⟨Dn.refl _, a1, a2, a3⟩
  have HShS14 := Lib.hid hS14
  clear a1 a2 a3
  go_region_held3 (fun w' => Dn w2 w' ∧ w'.cell? ⟨w.heap.size, 0, none⟩ = some (.int .i64 y) ∧ w'.cell? ⟨w.heap.size, 1, none⟩ = some (.int .i64 m) ∧ w'.cell? ⟨w.heap.size, 2, none⟩ = some (.int .i64 d))
    (first | exact kdVg_3 ((Dn.refl _).drew) hS14 | exact kdVg_3 ‹Dn _ _› ‹_› | exact kdVg_3 (Up.dn ‹Up _ _›) ‹_› | assumption | exact kdVg_3 ((Dn.refl _).alloc _) ‹_›)
    (first
      | (go_at_call 84; (with_reducible refine (HP4.out _).mono ?_); rintro e wa ⟨rfl, qa⟩)
      | (go_at_call 84; (with_reducible refine (HP2.out _).mono ?_); rintro e wa ⟨rfl, qa⟩)
      | (go_at_call 84; (with_reducible refine (HP3.out _).mono ?_); rintro e wa ⟨rfl, qa⟩)
      | (go_at_call 83; (with_reducible refine (HM.out _ (hE.dn (Dn.trans uw2 (‹Dn w2 _ ∧ _› : _ ∧ _).1))).mono ?_); rintro e wa ⟨rfl, qa⟩)
      | (go_at_call 83; (with_reducible refine (HD.out _ (hE.dn (Dn.trans uw2 (‹Dn w2 _ ∧ _› : _ ∧ _).1))).mono ?_); rintro e wa ⟨rfl, qa⟩))
  all_goals
    clear hS14
    obtain ⟨uf18, a4, a5, a6⟩ := (‹Dn w2 _ ∧ _› : _ ∧ _)
    obtain ⟨w19, rfl⟩ : ∃ w19 : World, w19 = wa := ⟨_, rfl⟩
    have a7 := nlt a0 uf18.size
    clear a0
    have vuf18 := uw2.trans uf18
    clear uf18 uw2 HShS14
    go_wp2_with fail
    go_ret2
    exact ⟨rfl, vuf18⟩
theorem cvTx_n (y m d : Int) (T Y M D P4 P2 P3 : ByteArray) (s4 : P4.size ≤ 1000) (s2 : P2.size ≤ 1000) (s3 : P3.size ≤ 1000) (HC : Hid (cErr y m d = 0)) (HT : Hid (∀ W, EnvC W → Calls Tryz.prog 83 #[.int .i64 y] W fun o w' => o = .returned (.string T) ∧ Dn W w'))
    (HCut : Hid (∀ W, Calls Tryz.prog 82 #[.string T, .string ⟨#[45]⟩] W fun e w' => e = .returned (.tuple #[.string Y, .bool true]) ∧ W = w')) (HP4 : Hid (∀ W, Calls Tryz.prog 84 #[.string Y, .int .i64 4] W fun o w' => o = .returned (.string P4) ∧ Dn W w')) (HM : Hid (∀ W, EnvC W → Calls Tryz.prog 83 #[.int .i64 m] W fun o w' => o = .returned (.string M) ∧ Dn W w')) (HD : Hid (∀ W, EnvC W → Calls Tryz.prog 83 #[.int .i64 d] W fun o w' => o = .returned (.string D) ∧ Dn W w')) (HP2 : Hid (∀ W, Calls Tryz.prog 84 #[.string M, .int .i64 2] W fun o w' => o = .returned (.string P2) ∧ Dn W w')) (HP3 : Hid (∀ W, Calls Tryz.prog 84 #[.string D, .int .i64 2] W fun o w' => o = .returned (.string P3) ∧ Dn W w')) (w : World) (hE : EnvC w) :
    Calls Tryz.prog 34 #[.agg #[.int .i64 y, .int .i64 m, .int .i64 d]] w fun ro w' => ro = .returned (.tuple #[.string (⟨#[45]⟩ ++ P4 ++ ⟨#[45]⟩ ++ P2 ++ ⟨#[45]⟩ ++ P3), .int .i64 0]) ∧ Dn w w' := by
  have n0 : ¬ (9223372036854775807 < 1 + P4.size) := by omega
  have n1 : ¬ (9223372036854775807 < 1 + P4.size + 1) := by omega
  have n2 : ¬ (9223372036854775807 < 1 + P4.size + 1 + P2.size) := by omega
  have n3 : ¬ (9223372036854775807 < 1 + P4.size + 1 + P2.size + 1) := by omega
  have n4 : ¬ (9223372036854775807 < 1 + P4.size + 1 + P2.size + 1 + P3.size) := by omega
  have n5 : ¬ (9223372036854775807 < P4.size + 1) := by omega
  have n6 : ¬ (9223372036854775807 < P4.size + 1 + 1) := by omega
  have n7 : ¬ (9223372036854775807 < P4.size + 1 + 1 + P2.size) := by omega
  have n8 : ¬ (9223372036854775807 < P4.size + 1 + 1 + P2.size + 1) := by omega
  have n9 : ¬ (9223372036854775807 < P4.size + 1 + 1 + P2.size + 1 + P3.size) := by omega
  clear s4 s2 s3
  go_enter Tryz.func34, Tryz.ntmps34
  go_wp2_with fail
  obtain ⟨W1, hW1, uW1, c2, c3, c4, l5⟩ := preCl45x1 w y m d
  rw [← hW1]
  clear hW1
  refine (cvChk y m d 0 _ (hE.dn uW1) HC.out).mono ?_
  rintro e w1 ⟨rfl, qw1⟩
  have l6 := nlt l5 qw1.size
  obtain ⟨c7, c8, c9⟩ := mv3 qw1.cell c2 c3 c4
  clear l5 c2 c3 c4
  have uw1 := uW1.trans qw1
  clear qw1 uW1
  go_wp2_with fail
  refine (HT.out _ (hE.dn uw1)).mono ?_
  rintro e w2 ⟨rfl, qw2⟩
  have a0 := nlt l6 qw2.size
  obtain ⟨a1, a2, a3⟩ := mv3 qw2.cell c7 c8 c9
  clear l6 c7 c8 c9
  have uw2 := uw1.trans qw2
  clear qw2 uw1
  go_wp2_with fail
  refine (HCut.out _).mono ?_
  rintro e w3 ⟨rfl, rfl⟩
  go_wp2_with fail
  have hS14 := kdVg_3 (W := w2) (Dn.refl _) ⟨Dn.refl _, a1, a2, a3⟩
  have HShS14 := Lib.hid hS14
  clear a1 a2 a3
  go_region_held3 (fun w' => Dn w2 w' ∧ w'.cell? ⟨w.heap.size, 0, none⟩ = some (.int .i64 y) ∧ w'.cell? ⟨w.heap.size, 1, none⟩ = some (.int .i64 m) ∧ w'.cell? ⟨w.heap.size, 2, none⟩ = some (.int .i64 d))
    (first | exact kdVg_3 ((Dn.refl _).drew) hS14 | exact kdVg_3 ‹Dn _ _› ‹_› | exact kdVg_3 (Up.dn ‹Up _ _›) ‹_› | assumption | exact kdVg_3 ((Dn.refl _).alloc _) ‹_›)
    (first
      | (go_at_call 84; (with_reducible refine (HP4.out _).mono ?_); rintro e wa ⟨rfl, qa⟩)
      | (go_at_call 84; (with_reducible refine (HP2.out _).mono ?_); rintro e wa ⟨rfl, qa⟩)
      | (go_at_call 84; (with_reducible refine (HP3.out _).mono ?_); rintro e wa ⟨rfl, qa⟩)
      | (go_at_call 83; (with_reducible refine (HM.out _ (hE.dn (Dn.trans uw2 (‹Dn w2 _ ∧ _› : _ ∧ _).1))).mono ?_); rintro e wa ⟨rfl, qa⟩)
      | (go_at_call 83; (with_reducible refine (HD.out _ (hE.dn (Dn.trans uw2 (‹Dn w2 _ ∧ _› : _ ∧ _).1))).mono ?_); rintro e wa ⟨rfl, qa⟩))
  all_goals
    clear hS14
    obtain ⟨uf18, a4, a5, a6⟩ := (‹Dn w2 _ ∧ _› : _ ∧ _)
    obtain ⟨w19, rfl⟩ : ∃ w19 : World, w19 = wa := ⟨_, rfl⟩
    have a7 := nlt a0 uf18.size
    clear a0
    have vuf18 := uw2.trans uf18
    clear uf18 uw2 HShS14
    go_wp2_with fail
    go_ret2
    exact ⟨rfl, vuf18⟩
theorem cvTx_ok (y m d : Int) (w : World) (hE : EnvC w) (he : cErr y m d = 0) :
   Calls Tryz.prog 34 #[.agg #[.int .i64 y, .int .i64 m, .int .i64 d]] w fun ro w' => ro = .returned (.tuple #[.string (bA (cT y m d)), .int .i64 0]) ∧ Dn w w' := by
 obtain ⟨⟨⟨y1, y2⟩, m1, m2⟩, d1, d2⟩ := cErr_ok he
 have hml := Cal.mlen_bd y m
 have hy : I64 y := ⟨by omega, by omega⟩
 have ly : (dcm y.natAbs).length ≤ 17 := dcm_len _ 17 (by decide) (by rw [show Dg.p10 17 = 100000000000000000 by decide]; omega)
 have lm := dcm_two m.natAbs (by omega)
 have ld := dcm_two d.natAbs (by omega)
 have HT : Hid (∀ W, EnvC W → Calls Tryz.prog 83 #[.int .i64 y] W fun o w' => o = .returned (.string ⟨(Lib.itoa y).toArray⟩) ∧ Dn W w') := Lib.hid fun W hW => (itext y W hy hW.i).mono fun _ _ ⟨a, b⟩ => ⟨a, b.dn⟩
 have HM := Lib.hid (fun W (hW : EnvC W) => itextD m W ⟨by omega, by omega⟩ (by omega) hW)
 have HD := Lib.hid (fun W (hW : EnvC W) => itextD d W ⟨by omega, by omega⟩ (by omega) hW)
 have z4 : (bA (padd 4 (dcm y.natAbs))).size ≤ 1000 := by rw [bA_size, padd_len]; omega
 have z2 : (bA (padd 2 (dcm m.natAbs))).size ≤ 1000 := by rw [bA_size, padd_len]; omega
 have z3 : (bA (padd 2 (dcm d.natAbs))).size ≤ 1000 := by rw [bA_size, padd_len]; omega
 have k4 := Lib.hid (fun W => cvPad4 (dcm y.natAbs) (by omega) W)
 have k2 := Lib.hid (fun W => cvPad2 (dcm m.natAbs) (by omega) W)
 have k3 := Lib.hid (fun W => cvPad2 (dcm d.natAbs) (by omega) W)
 have e45 : (⟨#[45]⟩ : ByteArray) = bA [45] := rfl
 by_cases hn : y < 0
 · have h := cvTx_n y m d _ _ _ _ _ _ _ z4 z2 z3 (Lib.hid he) HT (Lib.hid (fun W => cutY y true (by simpa using hn) W)) k4 HM HD k2 k3 w hE
   rw [show bA (cT y m d) = ⟨#[45]⟩ ++ bA (padd 4 (dcm y.natAbs)) ++ ⟨#[45]⟩ ++ bA (padd 2 (dcm m.natAbs)) ++ ⟨#[45]⟩ ++ bA (padd 2 (dcm d.natAbs)) by
    rw [e45, bA_app, bA_app, bA_app, bA_app, bA_app]; congr 1; unfold cT; rw [if_pos hn]; simp]
   exact h
 · have h := cvTx_p y m d _ _ _ _ _ _ _ z4 z2 z3 (Lib.hid he) HT (Lib.hid (fun W => cutY y false (by simpa using hn) W)) k4 HM HD k2 k3 w hE
   rw [show bA (cT y m d) = bA (padd 4 (dcm y.natAbs)) ++ ⟨#[45]⟩ ++ bA (padd 2 (dcm m.natAbs)) ++ ⟨#[45]⟩ ++ bA (padd 2 (dcm d.natAbs)) by
    rw [e45, bA_app, bA_app, bA_app, bA_app]; congr 1; unfold cT; rw [if_neg hn]; simp]
   exact h
def cn (a b : Int) (l : List Int) : Nat := (l.filter (fun x => decide (a ≤ x) && decide (x < b))).length
theorem cn_snoc (a b x : Int) (l : List Int) : cn a b (l ++ [x]) = cn a b l + if a ≤ x ∧ x < b then 1 else 0 := by
 unfold cn
 rw [List.filter_append, List.length_append]
 by_cases h : a ≤ x ∧ x < b
 · rw [if_pos h, List.filter_cons_of_pos (by simp [h])]
   rfl
 · rw [if_neg h, List.filter_cons_of_neg (by simpa using h)]
   rfl
theorem cn_le (a b : Int) (l : List Int) : cn a b l ≤ l.length := List.length_filter_le _ _
theorem cn_take (a b : Int) (l : List Int) (k : Nat) (x : Int) (h : l[k]? = some x) : cn a b (l.take (k + 1)) = cn a b (l.take k) + if a ≤ x ∧ x < b then 1 else 0 := by
 rw [List.take_add_one, h]
 exact cn_snoc a b x _
theorem codes_mem (d : Int) (k : Nat) (x : Int) (h : x ∈ codesL d k) : 21 ≤ x ∧ x < 21 + (k : Int) ∧ IsOf d x := by
 induction k with
 | zero => simp [codesL] at h
 | succ k ih =>
   unfold codesL at h
   split at h
   · rename_i ho
     rcases List.mem_append.1 h with h | h
     · have := ih h; exact ⟨this.1, by omega, this.2.2⟩
     · obtain rfl := List.mem_singleton.1 h
       exact ⟨by omega, by omega, ho⟩
   · have := ih h; exact ⟨this.1, by omega, this.2.2⟩
theorem big_code (c : Int) (h : 33 ≤ c) (hc : c ≤ 41) : 1 ≤ fromS c ∧ 3 ≤ manyS c ∧ fromS c + manyS c ≤ 13 := by
 have : c = 33 ∨ c = 34 ∨ c = 35 ∨ c = 36 ∨ c = 37 ∨ c = 38 ∨ c = 39 ∨ c = 40 ∨ c = 41 := by omega
 rcases this with rfl | rfl | rfl | rfl | rfl | rfl | rfl | rfl | rfl <;> decide
theorem big_last (y c : Int) (h : 33 ≤ c) (hc : c ≤ 41) : lastS y c / 12 = y := by
 have := big_code c h hc
 unfold lastS mi
 omega
theorem isOf33 (d c : Int) (hy : IsY (Cal.yr d)) (h : 33 ≤ c) (hc : c ≤ 41) : IsOf d c ↔ fromS c ≤ mo d ∧ mo d < fromS c + manyS c := by
 obtain ⟨b1, b2, b3⟩ := big_code c h hc
 obtain ⟨m1, m2⟩ := mo_bd d
 unfold IsOf ofM ofY IsSY
 by_cases hl : mo d < fromS c
 · rw [if_pos hl]
   constructor
   · rintro ⟨a, _⟩; omega
   · rintro ⟨a, _⟩; omega
 · rw [if_neg hl, if_neg hl]
   constructor
   · rintro ⟨a, _⟩; omega
   · rintro ⟨_, a⟩
     exact ⟨a, hy, by rw [big_last _ c h hc]; exact hy⟩
theorem big_run (d c : Int) (hy : IsY (Cal.yr d)) (h : 33 ≤ c) (hc : c ≤ 41) (ho : IsOf d c) :
   IsSY (Cal.yr d) c ∧ Cal.sy (Cal.yr d) ≤ sLo (Cal.yr d) c ∧ sLo (Cal.yr d) c ≤ d ∧ d ≤ sHi (Cal.yr d) c ∧ sHi (Cal.yr d) c ≤ Cal.sy (Cal.yr d + 1) - 1 := by
 obtain ⟨b1, b2, b3⟩ := big_code c h hc
 have hm := (isOf33 d c hy h hc).1 ho
 have hC : IsC c := ⟨by omega, by omega⟩
 obtain ⟨h1, h2, h3⟩ := (in_this d c hC).2 ⟨by omega, ho⟩
 refine ⟨h1, ?_, h2, h3, ?_⟩
 · rw [sLo_eq _ _ hC, ← sm_one]
   have := mS_mono (show mi (Cal.yr d) 1 ≤ mi (Cal.yr d) (fromS c) by unfold mi; omega)
   have e : mS (mi (Cal.yr d) 1) = Cal.sm (Cal.yr d) 1 := by
    unfold mS mi
    rw [show (12 * Cal.yr d + (1 - 1)) / 12 = Cal.yr d by omega, show (12 * Cal.yr d + (1 - 1)) % 12 + 1 = 1 by omega]
   omega
 · rw [sHi_eq, ← sm_one]
   have := mS_mono (show lastS (Cal.yr d) c + 1 ≤ mi (Cal.yr d + 1) 1 by unfold lastS mi; omega)
   have e : mS (mi (Cal.yr d + 1) 1) = Cal.sm (Cal.yr d + 1) 1 := by
    unfold mS mi
    rw [show (12 * (Cal.yr d + 1) + (1 - 1)) / 12 = Cal.yr d + 1 by omega, show (12 * (Cal.yr d + 1) + (1 - 1)) % 12 + 1 = 1 by omega]
   omega
theorem cn_step (a b d c : Int) (k : Nat) (hc : 21 + (k : Int) = c) : cn a b (codesL d (k + 1)) = cn a b (codesL d k) + if IsOf d c ∧ a ≤ c ∧ c < b then 1 else 0 := by
 subst hc
 have hs : codesL d (k + 1) = if IsOf d (21 + (k : Int)) then codesL d k ++ [21 + (k : Int)] else codesL d k := rfl
 rw [hs]
 by_cases ho : IsOf d (21 + (k : Int))
 · rw [if_pos ho, cn_snoc]
   simp [ho]
 · rw [if_neg ho, if_neg (fun h => ho h.1)]
   rfl
theorem cn_low (a b d : Int) (k : Nat) (ha : 21 + (k : Int) ≤ a) : cn a b (codesL d k) = 0 := by
 unfold cn
 rw [List.length_eq_zero_iff, List.filter_eq_nil_iff]
 intro x hx
 have := codes_mem d k x hx
 simp
 omega
theorem cn_codes (d : Int) (hy : IsY (Cal.yr d)) : cn 33 37 (codesL d 21) = 1 ∧ cn 37 40 (codesL d 21) = 1 ∧ cn 40 42 (codesL d 21) = 1 := by
 have e (c : Int) (h : 33 ≤ c) (hc : c ≤ 41) := isOf33 d c hy h hc
 have e33 : IsOf d 33 ↔ 1 ≤ mo d ∧ mo d < 4 := e 33 (by decide) (by decide)
 have e34 : IsOf d 34 ↔ 4 ≤ mo d ∧ mo d < 7 := e 34 (by decide) (by decide)
 have e35 : IsOf d 35 ↔ 7 ≤ mo d ∧ mo d < 10 := e 35 (by decide) (by decide)
 have e36 : IsOf d 36 ↔ 10 ≤ mo d ∧ mo d < 13 := e 36 (by decide) (by decide)
 have e37 : IsOf d 37 ↔ 1 ≤ mo d ∧ mo d < 5 := e 37 (by decide) (by decide)
 have e38 : IsOf d 38 ↔ 5 ≤ mo d ∧ mo d < 9 := e 38 (by decide) (by decide)
 have e39 : IsOf d 39 ↔ 9 ≤ mo d ∧ mo d < 13 := e 39 (by decide) (by decide)
 have e40 : IsOf d 40 ↔ 1 ≤ mo d ∧ mo d < 7 := e 40 (by decide) (by decide)
 have e41 : IsOf d 41 ↔ 7 ≤ mo d ∧ mo d < 13 := e 41 (by decide) (by decide)
 obtain ⟨m1, m2⟩ := mo_bd d
 generalize mo d = m at *
 have s (a b : Int) (ha : 33 ≤ a) : cn a b (codesL d 21) = 0 + (if IsOf d 33 ∧ a ≤ 33 ∧ 33 < b then 1 else 0) + (if IsOf d 34 ∧ a ≤ 34 ∧ 34 < b then 1 else 0) + (if IsOf d 35 ∧ a ≤ 35 ∧ 35 < b then 1 else 0) + (if IsOf d 36 ∧ a ≤ 36 ∧ 36 < b then 1 else 0) + (if IsOf d 37 ∧ a ≤ 37 ∧ 37 < b then 1 else 0) + (if IsOf d 38 ∧ a ≤ 38 ∧ 38 < b then 1 else 0) + (if IsOf d 39 ∧ a ≤ 39 ∧ 39 < b then 1 else 0) + (if IsOf d 40 ∧ a ≤ 40 ∧ 40 < b then 1 else 0) + (if IsOf d 41 ∧ a ≤ 41 ∧ 41 < b then 1 else 0) := by
  rw [cn_step a b d 41 20 rfl, cn_step a b d 40 19 rfl, cn_step a b d 39 18 rfl, cn_step a b d 38 17 rfl, cn_step a b d 37 16 rfl, cn_step a b d 36 15 rfl, cn_step a b d 35 14 rfl, cn_step a b d 34 13 rfl, cn_step a b d 33 12 rfl, cn_low a b d 12 (by omega)]
 rw [s 33 37 (by decide), s 37 40 (by decide), s 40 42 (by decide)]
 simp only [e33, e34, e35, e36, e37, e38, e39, e40, e41]
 have : m = 1 ∨ m = 2 ∨ m = 3 ∨ m = 4 ∨ m = 5 ∨ m = 6 ∨ m = 7 ∨ m = 8 ∨ m = 9 ∨ m = 10 ∨ m = 11 ∨ m = 12 := by omega
 rcases this with rfl | rfl | rfl | rfl | rfl | rfl | rfl | rfl | rfl | rfl | rfl | rfl <;> decide
theorem wi_of {a b c d : Int} (h1 : c ≤ a) (h2 : a ≤ b) (h3 : b ≤ d) : decide (Wi 0 a 0 b 0 c 0 d) = true := by
 rw [decide_eq_true_iff]
 unfold Wi RnOk eOk key
 refine ⟨⟨.inl rfl, .inl rfl, ?_, ?_, ?_⟩, ⟨.inl rfl, .inl rfl, ?_, ?_, ?_⟩, ?_, ?_⟩ <;> omega
theorem tcLen (y m d : Int) (h : cErr y m d = 0) : (cT y m d).length ≤ 1000 := by
 obtain ⟨⟨⟨y1, y2⟩, m1, m2⟩, d1, d2⟩ := cErr_ok h
 have hml := Cal.mlen_bd y m
 have ly : (dcm y.natAbs).length ≤ 17 := dcm_len _ 17 (by decide) (by rw [show Dg.p10 17 = 100000000000000000 by decide]; omega)
 have lm := dcm_two m.natAbs (by omega)
 have ld := dcm_two d.natAbs (by omega)
 unfold cT
 split <;> simp [padd_len] <;> omega
theorem tcParse (y m d : Int) (w : World) (hE : EnvK w) (h0 : cErr y m d = 0) : Calls Tryz.prog 35 #[.string (bA (cT y m d))] w fun o w' => o = .returned (.tuple #[.agg #[.int .i64 y, .int .i64 m, .int .i64 d], .int .i64 0]) ∧ Dn w w' := by
 obtain ⟨hm, d1, d2⟩ := cErr_ok h0
 have hl := Cal.mlen_bd y m
 obtain ⟨f1, f2, f3, f4⟩ := cT_form y m d ⟨by have := hm.2; omega, by have := hm.2; omega⟩ ⟨by omega, by omega⟩
 have hp : PRes (cT y m d) y m d 0 := Or.inr (Or.inr ⟨f1, by rw [f2, f3, f4]; exact h0, f2.symm, f3.symm, f4.symm, rfl⟩)
 exact cvParse (cT y m d) y m d 0 w hE (tcLen y m d h0) hp
set_option maxHeartbeats 4000000
structure CB (w : World) (B : Nat) (u v : Value) : Prop where
 c0 : w.cell? ⟨B, 0, none⟩ = some u
 c1 : w.cell? ⟨B, 1, none⟩ = some v
 f0 : w.frozen? ⟨B, 0, none⟩ = false
 f1 : w.frozen? ⟨B, 1, none⟩ = false
 lt : B < w.heap.size
theorem CB.dn {w w' : World} {B : Nat} {u v : Value} (h : CB w B u v) (k : Dn w w') : CB w' B u v :=
 ⟨k.cell h.c0, k.cell h.c1, by rw [k.frozen h.lt]; exact h.f0, by rw [k.frozen h.lt]; exact h.f1, Nat.lt_of_lt_of_le h.lt k.size⟩
theorem CB.up {w w' : World} {B : Nat} {u v : Value} (h : CB w B u v) (k : Up w w') : CB w' B u v := h.dn k.dn
theorem CB.alloc {w : World} {B : Nat} {u v : Value} (h : CB w B u v) (o : Obj) : CB (w.alloc o) B u v := h.dn ((Dn.refl _).alloc o)
theorem CB.drew {w : World} {B : Nat} {u v : Value} (h : CB w B u v) : CB w.drew B u v := h.dn (Dn.refl _).drew
theorem CB.new (w : World) (u v : Value) (t : TypeId) : CB (w.alloc (.cells #[u, v] t)) w.heap.size u v := by
 refine ⟨?_, ?_, ?_, ?_, ?_⟩ <;> simp [go_sem]
theorem CB.new1 (w : World) (o : Obj) (u v : Value) (t : TypeId) : CB ((w.alloc o).alloc (.cells #[u, v] t)) (w.heap.size + 1) u v := by
 have := CB.new (w.alloc o) u v t
 simpa using this
theorem CB.new2 (w : World) (o o2 : Obj) (u v : Value) (t : TypeId) : CB (((w.alloc o).alloc o2).alloc (.cells #[u, v] t)) (w.heap.size + 1 + 1) u v := by
 have := CB.new ((w.alloc o).alloc o2) u v t
 simpa using this
def Mv (i d k i' d' e : Int) : Prop := (¬ eOk i d ∧ i' = 0 ∧ d' = 0 ∧ e = 5) ∨ (eOk i d ∧ i ≠ 0 ∧ i' = i ∧ d' = d ∧ e = 0) ∨ (i = 0 ∧ i' = 0 ∧ Fits (d + k) d' e)
theorem eChk_ok (i d : Int) (w : World) (h : eOk i d) : Calls Tryz.prog 91 #[.agg #[.int .i8 i, .int .i64 d]] w fun e w' => e = .returned (.int .i64 0) ∧ Up w w' := by
 have := eChk i d w; rwa [eErr_ok h] at this
theorem eChk_bad (i d : Int) (w : World) (h : ¬ eOk i d) : Calls Tryz.prog 91 #[.agg #[.int .i8 i, .int .i64 d]] w fun e w' => e = .returned (.int .i64 5) ∧ Up w w' := by
 have := eChk i d w; rwa [eErr_bad h] at this
set_option linter.unusedSimpArgs false in
theorem eMoved (i d k i' d' r : Int) (w : World) (hd : I64 d) (hk : I64 k) (h : Mv i d k i' d' r) :
   Calls Tryz.prog 197 #[.agg #[.int .i8 i, .int .i64 d], .int .i64 k] w fun e w' => e = .returned (.tuple #[.agg #[.int .i8 i', .int .i64 d'], .int .i64 r]) ∧ Up w w' := by
 have b0 := (CB.new w (.int .i8 i) (.int .i64 d) 28).alloc (.cells #[.int .i8 0, .int .i64 0] 28)
 have b1 := CB.new1 w (.cells #[.int .i8 i, .int .i64 d] 28) (.int .i8 0) (.int .i64 0) 28
 have u0 : Up w _ := ((Up.refl w).alloc (.cells #[.int .i8 i, .int .i64 d] 28)).alloc (.cells #[.int .i8 0, .int .i64 0] 28)
 have B0 := Lib.hid b0
 have B1 := Lib.hid b1
 have U0 := Lib.hid u0
 clear b0 b1 u0
 rcases h with ⟨h, rfl, rfl, rfl⟩ | ⟨h, h0, rfl, rfl, rfl⟩ | ⟨rfl, rfl, hf⟩
 · have HE := Lib.hid (fun W => eChk_bad i d W h)
   clear h
   go_enter Tryz.func197, Tryz.ntmps197
   go_wp2_with fail
   refine (HE.out _).mono ?_
   rintro e w1 ⟨rfl, q1⟩
   obtain ⟨c0, c1, f0, f1, l0⟩ := B0.out.up q1
   obtain ⟨c2, c3, f2, f3, l1⟩ := B1.out.up q1
   have u1 := U0.out.trans q1
   clear q1
   go_wp2_with fail
   exact bodyPost_ret (v := .tuple #[.agg #[.int .i8 0, .int .i64 0], .int .i64 5]) (by simp [results, Tryz.results197, go_sem, c0, c1, c2, c3, f0, f1, f2, f3] <;> omega) rfl ⟨rfl, ((((u1.setCell (by simp <;> omega) _).setCell (by simp <;> omega) _).setCell (by simp <;> omega) _).setCell (by simp <;> omega) _)⟩
 · have HE := Lib.hid (fun W => eChk_ok _ _ W h)
   have n0 : (i' != 0) = true := by simpa using h0
   clear h h0
   go_enter Tryz.func197, Tryz.ntmps197
   go_wp2_with fail
   refine (HE.out _).mono ?_
   rintro e w1 ⟨rfl, q1⟩
   obtain ⟨c0, c1, f0, f1, l0⟩ := B0.out.up q1
   obtain ⟨c2, c3, f2, f3, l1⟩ := B1.out.up q1
   have u1 := U0.out.trans q1
   clear q1
   go_wp2_with fail
   exact bodyPost_ret (v := .tuple #[.agg #[.int .i8 _, .int .i64 _], .int .i64 0]) (by simp [results, Tryz.results197, go_sem, c0, c1, c2, c3, f0, f1, f2, f3] <;> omega) rfl ⟨rfl, ((u1.setCell (by simp <;> omega) _).setCell (by simp <;> omega) _)⟩
 · have HE := Lib.hid (fun W => eChk_ok 0 d W (Or.inl rfl))
   have HA := Lib.hid (fun W => add_any d k _ d' r W hd hk rfl hf)
   clear hf
   go_enter Tryz.func197, Tryz.ntmps197
   go_wp2_with fail
   refine (HE.out _).mono ?_
   rintro e w1 ⟨rfl, q1⟩
   have k0 := B0.out.up q1
   have k1 := B1.out.up q1
   have u1 := U0.out.trans q1
   clear q1
   have K0 := Lib.hid k0
   have K1 := Lib.hid k1
   obtain ⟨c0, c1, _, _, _⟩ := k0
   clear k1
   go_wp2_with fail
   refine (HA.out _).mono ?_
   rintro e w2 ⟨rfl, q2⟩
   go_wp2_with fail
   refine (eOf d' _).mono ?_
   rintro e w3 ⟨rfl, q3⟩
   have u3 := (u1.trans q2).trans q3
   obtain ⟨c2, c3, f2, f3, l1⟩ := (K1.out.up q2).up q3
   clear q2 q3 u1 c0 c1
   go_wp2_with fail
   exact bodyPost_ret (v := .tuple #[.agg #[.int .i8 0, .int .i64 d'], .int .i64 r]) (by simp [results, Tryz.results197, go_sem, c2, c3, f2, f3] <;> omega) rfl ⟨rfl, ((u3.setCell (by simp <;> omega) _).setCell (by simp <;> omega) _)⟩
set_option linter.unusedSimpArgs false in
theorem eNext (i d i' d' r : Int) (w : World) (hd : I64 d) (h : Mv i d 1 i' d' r) :
  Calls Tryz.prog 167 #[.agg #[.int .i8 i, .int .i64 d]] w fun e w' => e = .returned (.tuple #[.agg #[.int .i8 i', .int .i64 d'], .int .i64 r]) ∧ Up w w' := by
 have b1 := CB.new1 w (.cells #[.int .i8 i, .int .i64 d] 28) (.int .i8 0) (.int .i64 0) 28
 have u0 : Up w _ := ((Up.refl w).alloc (.cells #[.int .i8 i, .int .i64 d] 28)).alloc (.cells #[.int .i8 0, .int .i64 0] 28)
 have B1 := Lib.hid b1
 have U0 := Lib.hid u0
 have HM := Lib.hid (fun W => eMoved i d 1 i' d' r W hd (by decide) h)
 clear b1 u0 h
 go_enter Tryz.func167, Tryz.ntmps167
 go_wp2_with fail
 refine (HM.out _).mono ?_
 rintro e w1 ⟨rfl, q1⟩
 obtain ⟨c2, c3, f2, f3, l1⟩ := B1.out.up q1
 have u1 := U0.out.trans q1
 clear q1
 go_wp2_with fail
 exact bodyPost_ret (v := .tuple #[.agg #[.int .i8 i', .int .i64 d'], .int .i64 r]) (by simp [results, Tryz.results167, go_sem, c2, c3, f2, f3] <;> omega) rfl ⟨rfl, ((u1.setCell (by simp <;> omega) _).setCell (by simp <;> omega) _)⟩
set_option linter.unusedSimpArgs false in
theorem eMin_2 (i d j f : Int) (w : World) (h : eC j f i d < 0) :
  Calls Tryz.prog 151 #[.agg #[.int .i8 i, .int .i64 d], .agg #[.int .i8 j, .int .i64 f]] w fun e w' => e = .returned (.agg #[.int .i8 j, .int .i64 f]) ∧ Up w w' := by
 have b0 := ((CB.new w (.int .i8 i) (.int .i64 d) 28).alloc (.cells #[.int .i8 j, .int .i64 f] 28)).alloc (.cells #[.int .i8 0, .int .i64 0] 28)
 have b1 := (CB.new1 w (.cells #[.int .i8 i, .int .i64 d] 28) (.int .i8 j) (.int .i64 f) 28).alloc (.cells #[.int .i8 0, .int .i64 0] 28)
 have b2 := CB.new2 w (.cells #[.int .i8 i, .int .i64 d] 28) (.cells #[.int .i8 j, .int .i64 f] 28) (.int .i8 0) (.int .i64 0) 28
 have u0 : Up w _ := (((Up.refl w).alloc (.cells #[.int .i8 i, .int .i64 d] 28)).alloc (.cells #[.int .i8 j, .int .i64 f] 28)).alloc (.cells #[.int .i8 0, .int .i64 0] 28)
 have B0 := Lib.hid b0
 have B1 := Lib.hid b1
 have B2 := Lib.hid b2
 have U0 := Lib.hid u0
 clear b0 b1 b2 u0
 have HC := Lib.hid (fun W => eCmp j f i d W)
 generalize eC j f i d = c at *
 have t : decide (c < 0) = true := by simpa using h
 clear h
 go_enter Tryz.func151, Tryz.ntmps151
 go_wp2_with fail
 refine (HC.out _).mono ?_
 rintro e w1 ⟨rfl, q1⟩
 obtain ⟨c0, c1, _, _, l0⟩ := B0.out.up q1
 obtain ⟨c2, c3, _, _, l1⟩ := B1.out.up q1
 obtain ⟨c4, c5, f4, f5, l2⟩ := B2.out.up q1
 have u1 := U0.out.trans q1
 clear q1
 go_wp2_with fail
 exact bodyPost_ret (v := .agg #[.int .i8 j, .int .i64 f]) (by simp [results, Tryz.results151, go_sem, c0, c1, c2, c3, c4, c5, f4, f5] <;> omega) rfl ⟨rfl, ((u1.setCell (by simp <;> omega) _).setCell (by simp <;> omega) _)⟩
set_option linter.unusedSimpArgs false in
theorem eMin_1 (i d j f : Int) (w : World) (h : ¬ eC j f i d < 0) :
  Calls Tryz.prog 151 #[.agg #[.int .i8 i, .int .i64 d], .agg #[.int .i8 j, .int .i64 f]] w fun e w' => e = .returned (.agg #[.int .i8 i, .int .i64 d]) ∧ Up w w' := by
 have b0 := ((CB.new w (.int .i8 i) (.int .i64 d) 28).alloc (.cells #[.int .i8 j, .int .i64 f] 28)).alloc (.cells #[.int .i8 0, .int .i64 0] 28)
 have b1 := (CB.new1 w (.cells #[.int .i8 i, .int .i64 d] 28) (.int .i8 j) (.int .i64 f) 28).alloc (.cells #[.int .i8 0, .int .i64 0] 28)
 have b2 := CB.new2 w (.cells #[.int .i8 i, .int .i64 d] 28) (.cells #[.int .i8 j, .int .i64 f] 28) (.int .i8 0) (.int .i64 0) 28
 have u0 : Up w _ := (((Up.refl w).alloc (.cells #[.int .i8 i, .int .i64 d] 28)).alloc (.cells #[.int .i8 j, .int .i64 f] 28)).alloc (.cells #[.int .i8 0, .int .i64 0] 28)
 have B0 := Lib.hid b0
 have B1 := Lib.hid b1
 have B2 := Lib.hid b2
 have U0 := Lib.hid u0
 clear b0 b1 b2 u0
 have HC := Lib.hid (fun W => eCmp j f i d W)
 generalize eC j f i d = c at *
 have t : decide (c < 0) = false := by simpa using h
 clear h
 go_enter Tryz.func151, Tryz.ntmps151
 go_wp2_with fail
 refine (HC.out _).mono ?_
 rintro e w1 ⟨rfl, q1⟩
 obtain ⟨c0, c1, _, _, l0⟩ := B0.out.up q1
 obtain ⟨c2, c3, _, _, l1⟩ := B1.out.up q1
 obtain ⟨c4, c5, f4, f5, l2⟩ := B2.out.up q1
 have u1 := U0.out.trans q1
 clear q1
 go_wp2_with fail
 exact bodyPost_ret (v := .agg #[.int .i8 i, .int .i64 d]) (by simp [results, Tryz.results151, go_sem, c0, c1, c2, c3, c4, c5, f4, f5] <;> omega) rfl ⟨rfl, ((u1.setCell (by simp <;> omega) _).setCell (by simp <;> omega) _)⟩
set_option linter.unusedSimpArgs false in
theorem eMax_2 (i d j f : Int) (w : World) (h : 0 < eC j f i d) :
  Calls Tryz.prog 152 #[.agg #[.int .i8 i, .int .i64 d], .agg #[.int .i8 j, .int .i64 f]] w fun e w' => e = .returned (.agg #[.int .i8 j, .int .i64 f]) ∧ Up w w' := by
 have b0 := ((CB.new w (.int .i8 i) (.int .i64 d) 28).alloc (.cells #[.int .i8 j, .int .i64 f] 28)).alloc (.cells #[.int .i8 0, .int .i64 0] 28)
 have b1 := (CB.new1 w (.cells #[.int .i8 i, .int .i64 d] 28) (.int .i8 j) (.int .i64 f) 28).alloc (.cells #[.int .i8 0, .int .i64 0] 28)
 have b2 := CB.new2 w (.cells #[.int .i8 i, .int .i64 d] 28) (.cells #[.int .i8 j, .int .i64 f] 28) (.int .i8 0) (.int .i64 0) 28
 have u0 : Up w _ := (((Up.refl w).alloc (.cells #[.int .i8 i, .int .i64 d] 28)).alloc (.cells #[.int .i8 j, .int .i64 f] 28)).alloc (.cells #[.int .i8 0, .int .i64 0] 28)
 have B0 := Lib.hid b0
 have B1 := Lib.hid b1
 have B2 := Lib.hid b2
 have U0 := Lib.hid u0
 clear b0 b1 b2 u0
 have HC := Lib.hid (fun W => eCmp j f i d W)
 generalize eC j f i d = c at *
 have t : decide (0 < c) = true := by simpa using h
 clear h
 go_enter Tryz.func152, Tryz.ntmps152
 go_wp2_with fail
 refine (HC.out _).mono ?_
 rintro e w1 ⟨rfl, q1⟩
 obtain ⟨c0, c1, _, _, l0⟩ := B0.out.up q1
 obtain ⟨c2, c3, _, _, l1⟩ := B1.out.up q1
 obtain ⟨c4, c5, f4, f5, l2⟩ := B2.out.up q1
 have u1 := U0.out.trans q1
 clear q1
 go_wp2_with fail
 exact bodyPost_ret (v := .agg #[.int .i8 j, .int .i64 f]) (by simp [results, Tryz.results152, go_sem, c0, c1, c2, c3, c4, c5, f4, f5] <;> omega) rfl ⟨rfl, ((u1.setCell (by simp <;> omega) _).setCell (by simp <;> omega) _)⟩
set_option linter.unusedSimpArgs false in
theorem eMax_1 (i d j f : Int) (w : World) (h : ¬ 0 < eC j f i d) :
  Calls Tryz.prog 152 #[.agg #[.int .i8 i, .int .i64 d], .agg #[.int .i8 j, .int .i64 f]] w fun e w' => e = .returned (.agg #[.int .i8 i, .int .i64 d]) ∧ Up w w' := by
 have b0 := ((CB.new w (.int .i8 i) (.int .i64 d) 28).alloc (.cells #[.int .i8 j, .int .i64 f] 28)).alloc (.cells #[.int .i8 0, .int .i64 0] 28)
 have b1 := (CB.new1 w (.cells #[.int .i8 i, .int .i64 d] 28) (.int .i8 j) (.int .i64 f) 28).alloc (.cells #[.int .i8 0, .int .i64 0] 28)
 have b2 := CB.new2 w (.cells #[.int .i8 i, .int .i64 d] 28) (.cells #[.int .i8 j, .int .i64 f] 28) (.int .i8 0) (.int .i64 0) 28
 have u0 : Up w _ := (((Up.refl w).alloc (.cells #[.int .i8 i, .int .i64 d] 28)).alloc (.cells #[.int .i8 j, .int .i64 f] 28)).alloc (.cells #[.int .i8 0, .int .i64 0] 28)
 have B0 := Lib.hid b0
 have B1 := Lib.hid b1
 have B2 := Lib.hid b2
 have U0 := Lib.hid u0
 clear b0 b1 b2 u0
 have HC := Lib.hid (fun W => eCmp j f i d W)
 generalize eC j f i d = c at *
 have t : decide (0 < c) = false := by simpa using h
 clear h
 go_enter Tryz.func152, Tryz.ntmps152
 go_wp2_with fail
 refine (HC.out _).mono ?_
 rintro e w1 ⟨rfl, q1⟩
 obtain ⟨c0, c1, _, _, l0⟩ := B0.out.up q1
 obtain ⟨c2, c3, _, _, l1⟩ := B1.out.up q1
 obtain ⟨c4, c5, f4, f5, l2⟩ := B2.out.up q1
 have u1 := U0.out.trans q1
 clear q1
 go_wp2_with fail
 exact bodyPost_ret (v := .agg #[.int .i8 i, .int .i64 d]) (by simp [results, Tryz.results152, go_sem, c0, c1, c2, c3, c4, c5, f4, f5] <;> omega) rfl ⟨rfl, ((u1.setCell (by simp <;> omega) _).setCell (by simp <;> omega) _)⟩
end Go.Proofs.YteodjglbpfmikaaGreatDoor
