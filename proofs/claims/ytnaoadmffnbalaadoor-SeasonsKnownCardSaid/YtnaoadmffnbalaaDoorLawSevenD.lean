/-
  WALKS OF circalaw07: SeasonsRun returns true.
-/
import Derived.Test.YtnaoadmffnbalaaDoorLawSevenC
namespace Go.Proofs.YtnaoadmffnbalaaDoor
open Go.RowKit
theorem Up.dn {a b : World} (h : Up a b) : Dn a b := ⟨h.below⟩
theorem Dn.trans {a b c : World} (h : Dn a b) (k : Dn b c) : Dn a c := ⟨h.below.trans (k.below.mono h.below.size)⟩
theorem Dn.drew {a b : World} (h : Dn a b) : Dn a b.drew := ⟨h.below.drew⟩
theorem Dn.refl (a : World) : Dn a a := ⟨Below.refl _ _⟩
theorem Dn.cell {w w' : World} {a : Addr} {v : Value} (hb : Dn w w') (h : w.cell? a = some v) : w'.cell? a = some v := cell_below hb.below h
theorem kd8 {w w1 w2 : World} {a0 a1 a2 a3 a4 a5 a6 a7 : Addr} {v0 v1 v2 v3 v4 v5 v6 v7 : Value} (h : Dn w w1 ∧ w1.cell? a0 = some v0 ∧ w1.cell? a1 = some v1 ∧ w1.cell? a2 = some v2 ∧ w1.cell? a3 = some v3 ∧ w1.cell? a4 = some v4 ∧ w1.cell? a5 = some v5 ∧ w1.cell? a6 = some v6 ∧ w1.cell? a7 = some v7) (k : Dn w1 w2) : Dn w w2 ∧ w2.cell? a0 = some v0 ∧ w2.cell? a1 = some v1 ∧ w2.cell? a2 = some v2 ∧ w2.cell? a3 = some v3 ∧ w2.cell? a4 = some v4 ∧ w2.cell? a5 = some v5 ∧ w2.cell? a6 = some v6 ∧ w2.cell? a7 = some v7 := by
  obtain ⟨h, h0, h1, h2, h3, h4, h5, h6, h7⟩ := h
  exact ⟨h.trans k, k.cell h0, k.cell h1, k.cell h2, k.cell h3, k.cell h4, k.cell h5, k.cell h6, k.cell h7⟩
/-- A run that lies in a block of its own. -/
structure RunC (n : Nat) (a b : Int) (w : World) : Prop where
  c0 : w.cell? ⟨n, 0, none⟩ = some (.int .i8 0)
  c1 : w.cell? ⟨n, 1, none⟩ = some (.int .i64 a)
  c2 : w.cell? ⟨n, 2, none⟩ = some (.int .i8 0)
  c3 : w.cell? ⟨n, 3, none⟩ = some (.int .i64 b)
theorem RunC.new (w : World) (a b : Int) (t : TypeId) : RunC w.heap.size a b (w.alloc (.cells #[.int .i8 0, .int .i64 a, .int .i8 0, .int .i64 b] t)) :=
  ⟨by simp, by simp, by simp, by simp⟩
theorem RunC.dn {n : Nat} {a b : Int} {w w' : World} (h : RunC n a b w) (k : Dn w w') : RunC n a b w' := ⟨k.cell h.c0, k.cell h.c1, k.cell h.c2, k.cell h.c3⟩
theorem RunC.up {n : Nat} {a b : Int} {w w' : World} (h : RunC n a b w) (k : Up w w') : RunC n a b w' := h.dn k.dn
set_option maxHeartbeats 2000000 in
set_option maxRecDepth 100000 in
theorem seasonsRun_true (y c : Int) (w : World) (_hy : I64 y) (_hc : I64 c) (hE : EnvS w) :
    Calls Tryd.prog 12 #[.int .i64 y, .int .i64 c] w fun e w' => e = .returned (.bool true) ∧ Dn w w' := by
  by_cases h : IsC c
  · obtain ⟨b1, b2, b3, b4⟩ := code_bd c h
    have c0 : decide (manyS c = 0) = false := by simp; omega
    have c0' : ((manyS c : Int) == 0) = false := by simp; omega
    by_cases hs : IsSY y c
    · have HS := Lib.hid hs
      clear hs
      go_enter Tryd.func12, Tryd.ntmps12
      go_wp2_with fail
      refine (smonths_yes _ _ h hE).mono ?_
      rintro e w1 ⟨rfl, u1⟩
      go_wp2_with fail
      refine (rMonths7_yes _ _ h).mono ?_
      rintro e w2 ⟨rfl, rfl⟩
      go_wp2_with fail
      refine (scheck_yes _ _ h).mono ?_
      rintro e w3 ⟨rfl, rfl⟩
      go_wp2_with fail
      refine (srun_yes _ _ _ h HS.out (hE.up u1)).mono ?_
      rintro e w4 ⟨rfl, q4⟩
      have u4 := u1.trans q4
      clear q4 u1
      unfold runV
      go_wp2_with fail
      refine (rRun7_yes _ _ _ h HS.out).mono ?_
      rintro e w5 ⟨rfl, q5⟩
      obtain ⟨g0, g1, g2, g3⟩ := (RunC.new w4 _ _ _).up q5
      have hz : w4.heap.size < w5.heap.size := by have := q5.size; simp at this; omega
      have u5 := (u4.alloc _).trans q5
      clear u4 q5
      unfold runV
      go_wp2_with fail
      refine (lrun_ok _ _ _).mono ?_
      rintro e w6 ⟨rfl, q6⟩
      have u6 := (u5.alloc _).trans q6
      clear u5 q6 g0 g1 g2 g3 hz
      go_wp2_with fail
      refine (lives7 _ (hE.up u6)).mono ?_
      rintro e w7 ⟨rfl, q7⟩
      go_wp2_with fail
      go_ret
      exact ⟨rfl, u6.dn.trans q7⟩
    · have HS := Lib.hid hs
      clear hs
      go_enter Tryd.func12, Tryd.ntmps12
      go_wp2_with fail
      refine (smonths_yes _ _ h hE).mono ?_
      rintro e w1 ⟨rfl, u1⟩
      go_wp2_with fail
      refine (rMonths7_yes _ _ h).mono ?_
      rintro e w2 ⟨rfl, rfl⟩
      go_wp2_with fail
      refine (scheck_yes _ _ h).mono ?_
      rintro e w3 ⟨rfl, rfl⟩
      go_wp2_with fail
      refine (srun_bad _ _ _ h HS.out (hE.up u1)).mono ?_
      rintro e w4 ⟨rfl, q4⟩
      have u4 := u1.trans q4
      clear q4 u1
      unfold runV
      go_wp2_with fail
      refine (rRun7_bad _ _ _ h HS.out).mono ?_
      rintro e w5 ⟨rfl, q5⟩
      obtain ⟨g0, g1, g2, g3⟩ := (RunC.new w4 _ _ _).up q5
      have hz : w4.heap.size < w5.heap.size := by have := q5.size; simp at this; omega
      have u5 := (u4.alloc _).trans q5
      clear u4 q5
      unfold runV
      go_wp2_with fail
      refine (lrun_bad 6 _ (Or.inl rfl)).mono ?_
      rintro e w6 ⟨rfl, q6⟩
      have u6 := (u5.alloc _).trans q6
      clear u5 q6 g0 g1 g2 g3 hz
      go_wp2_with fail
      refine (lives7 _ (hE.up u6)).mono ?_
      rintro e w7 ⟨rfl, q7⟩
      go_wp2_with fail
      go_ret
      exact ⟨rfl, u6.dn.trans q7⟩
  · go_enter Tryd.func12, Tryd.ntmps12
    go_wp2_with fail
    refine (smonths_no _ _ h).mono ?_
    rintro e w1 ⟨rfl, rfl⟩
    go_wp2_with fail
    refine (rMonths7_no _ _ h).mono ?_
    rintro e w2 ⟨rfl, rfl⟩
    go_wp2_with fail
    refine (scheck_no _ _ h).mono ?_
    rintro e w3 ⟨rfl, rfl⟩
    go_wp2_with fail
    refine (srun_no1 _ _ _ h).mono ?_
    rintro e w4 ⟨rfl, u4⟩
    unfold runV
    go_wp2_with fail
    refine (rRun7_no1 _ _ _ h).mono ?_
    rintro e w5 ⟨rfl, q5⟩
    obtain ⟨g0, g1, g2, g3⟩ := (RunC.new w4 _ _ _).up q5
    have hz : w4.heap.size < w5.heap.size := by have := q5.size; simp at this; omega
    have u5 := (u4.alloc _).trans q5
    clear u4 q5
    unfold runV
    go_wp2_with fail
    refine (lrun_bad 7 _ (Or.inr rfl)).mono ?_
    rintro e w6 ⟨rfl, q6⟩
    have u6 := (u5.alloc _).trans q6
    clear u5 q6 g0 g1 g2 g3 hz
    go_wp2_with fail
    refine (lives7 _ (hE.up u6)).mono ?_
    rintro e w7 ⟨rfl, q7⟩
    go_wp2_with fail
    go_ret
    exact ⟨rfl, u6.dn.trans q7⟩
end Go.Proofs.YtnaoadmffnbalaaDoor
