/- Walks and laws that the claim's theorem leans on: part 26. -/
import Derived.Test.YtcdkeiolblifkaaGreatDoorZKn1
import Derived.Test.YtcdkeiolblifkaaGreatDoorZKn13
import Derived.Test.YtcdkeiolblifkaaGreatDoorZKn25
namespace Go.Proofs.YtcdkeiolblifkaaGreatDoor
set_option maxHeartbeats 4000000
set_option maxRecDepth 100000
open Go.RowKit
set_option linter.unusedVariables false
set_option linter.unusedSimpArgs false
theorem prs_long (s : ByteArray) (q0 q1 q2 q3 r : Int) (h1 : 100 < s.size)   (w : World) (hE : EnvR w) :
  Calls Tryz.prog 7 #[.string s] w fun ro w' => ro = .returned (.bool true) ∧ Dn w w' := by
 have t1 : decide (100 < (s.size : Int)) = true := by simp; omega
 clear h1
 go_enter Tryz.func7, Tryz.ntmps7
 go_wp2_with fail
 refine (lives9 _ hE).mono ?_
 rintro e w1 ⟨rfl, qw1⟩
 have uw1 := qw1
 clear qw1
 go_wp2_with fail
 go_ret
 exact ⟨rfl, uw1⟩
theorem preKn55x1 (w1 : World) (q0 q1 q2 q3 : Int) : ∃ W1, W1 = w1.alloc (.cells #[.int .i8 q0, .int .i64 q1, .int .i8 q2, .int .i64 q3] 28) ∧ (Dn w1 W1) ∧ (W1.cell? ⟨w1.heap.size, 0, none⟩ = some (.int .i8 q0)) ∧ (W1.cell? ⟨w1.heap.size, 1, none⟩ = some (.int .i64 q1)) ∧ (W1.cell? ⟨w1.heap.size, 2, none⟩ = some (.int .i8 q2)) ∧ (W1.cell? ⟨w1.heap.size, 3, none⟩ = some (.int .i64 q3)) ∧ (w1.heap.size < W1.heap.size) := by
  obtain ⟨W1, hW1⟩ : ∃ W1, W1 = w1.alloc (.cells #[.int .i8 q0, .int .i64 q1, .int .i8 q2, .int .i64 q3] 28) := ⟨_, rfl⟩
  exact ⟨W1, hW1, (by rw [hW1]; exact (Dn.refl _).alloc _), (by rw [hW1]; simp [go_sem]), (by rw [hW1]; simp [go_sem]), (by rw [hW1]; simp [go_sem]), (by rw [hW1]; simp [go_sem]), (by rw [hW1]; simp <;> omega)⟩
theorem prs_ok (s : ByteArray) (q0 q1 q2 q3 r : Int) (h1 : s.size ≤ 100) (HP : Hid (∀ W, EnvR W → Calls Tryz.prog 26 #[.string s] W fun o w' => o = .returned (.tuple #[.agg #[.int .i8 q0, .int .i64 q1, .int .i8 q2, .int .i64 q3], .int .i64 0]) ∧ Dn W w')) (HQ : Hid (∀ W, Calls Tryz.prog 35 #[.string s] W fun o w' => o = .returned (.tuple #[.agg #[.int .i8 q0, .int .i64 q1, .int .i8 q2, .int .i64 q3], .int .i64 0]) ∧ Dn W w'))  (w : World) (hE : EnvR w) :
  Calls Tryz.prog 7 #[.string s] w fun ro w' => ro = .returned (.bool true) ∧ Dn w w' := by
 have t1 : decide (100 < (s.size : Int)) = false := by simp; omega
 clear h1
 go_enter Tryz.func7, Tryz.ntmps7
 go_wp2_with fail
 refine (HP.out _ hE).mono ?_
 rintro e w1 ⟨rfl, qw1⟩
 have uw1 := qw1
 clear qw1
 go_wp2_with fail
 obtain ⟨W1, hW1, uW1, c2, c3, c4, c5, l6⟩ := preKn55x1 w1 q0 q1 q2 q3
 rw [← hW1]
 clear hW1
 have vW1 := uw1.trans uW1
 clear uW1 uw1
 refine (HQ.out _).mono ?_
 rintro e w2 ⟨rfl, qw2⟩
 have l7 := nlt l6 qw2.size
 obtain ⟨c8, c9, a0, a1⟩ := mv4 qw2.cell c2 c3 c4 c5
 clear l6 c2 c3 c4 c5
 have uw2 := vW1.trans qw2
 clear qw2 vW1
 go_wp2_with fail
 obtain ⟨W12, hW12⟩ : ∃ W12, W12 = w2.alloc (.cells #[.int .i8 q0, .int .i64 q1, .int .i8 q2, .int .i64 q3] 28) := ⟨_, rfl⟩
 have uW12 : Dn w2 W12 := by rw [hW12]; exact (Dn.refl _).alloc _
 have a2 := nlt l7 uW12.size
 obtain ⟨a3, a4, a5, a6⟩ := mv4 uW12.cell c8 c9 a0 a1
 clear l7 c8 c9 a0 a1
 have a7 : W12.cell? ⟨w2.heap.size, 0, none⟩ = some (.int .i8 q0) := by rw [hW12]; simp [go_sem]
 have a8 : W12.cell? ⟨w2.heap.size, 1, none⟩ = some (.int .i64 q1) := by rw [hW12]; simp [go_sem]
 have a9 : W12.cell? ⟨w2.heap.size, 2, none⟩ = some (.int .i8 q2) := by rw [hW12]; simp [go_sem]
 have aA : W12.cell? ⟨w2.heap.size, 3, none⟩ = some (.int .i64 q3) := by rw [hW12]; simp [go_sem]
 have aB : w2.heap.size < W12.heap.size := by rw [hW12]; simp <;> omega
 rw [← hW12]
 clear hW12
 have vW12 := uw2.trans uW12
 clear uW12 uw2
 refine (g9_ok q0 q1 q2 q3 0 0 0 0 0 _).mono ?_
 rintro e w3 ⟨rfl, qw3⟩
 have aC := nlt a2 qw3.size
 have aH := nlt aB qw3.size
 obtain ⟨aD, aE, aF, aG, aI, aJ, aK, aL⟩ := mv8 qw3.cell a3 a4 a5 a6 a7 a8 a9 aA
 clear a2 a3 a4 a5 a6 aB a7 a8 a9 aA
 have uw3 := vW12.trans qw3
 clear qw3 vW12
 go_wp2_with fail
 refine (lives9 _ (hE.dn uw3)).mono ?_
 rintro e w4 ⟨rfl, qw4⟩
 have aM := nlt aC qw4.size
 have aR := nlt aH qw4.size
 obtain ⟨aN, aO, aP, aQ, aS, aT, aU, aV⟩ := mv8 qw4.cell aD aE aF aG aI aJ aK aL
 clear aC aD aE aF aG aH aI aJ aK aL
 have uw4 := uw3.trans qw4
 clear qw4 uw3
 go_wp2_with fail
 go_ret
 exact ⟨rfl, uw4⟩
theorem preKn55x2 (w1 : World) : ∃ W1, W1 = w1.alloc (.cells #[.int .i8 0, .int .i64 0, .int .i8 0, .int .i64 0] 28) ∧ (Dn w1 W1) ∧ (W1.cell? ⟨w1.heap.size, 0, none⟩ = some (.int .i8 0)) ∧ (W1.cell? ⟨w1.heap.size, 1, none⟩ = some (.int .i64 0)) ∧ (W1.cell? ⟨w1.heap.size, 2, none⟩ = some (.int .i8 0)) ∧ (W1.cell? ⟨w1.heap.size, 3, none⟩ = some (.int .i64 0)) ∧ (w1.heap.size < W1.heap.size) := by
  obtain ⟨W1, hW1⟩ : ∃ W1, W1 = w1.alloc (.cells #[.int .i8 0, .int .i64 0, .int .i8 0, .int .i64 0] 28) := ⟨_, rfl⟩
  exact ⟨W1, hW1, (by rw [hW1]; exact (Dn.refl _).alloc _), (by rw [hW1]; simp [go_sem]), (by rw [hW1]; simp [go_sem]), (by rw [hW1]; simp [go_sem]), (by rw [hW1]; simp [go_sem]), (by rw [hW1]; simp <;> omega)⟩
theorem prs_bad (s : ByteArray) (q0 q1 q2 q3 r : Int) (h1 : s.size ≤ 100) (HP : Hid (∀ W, EnvR W → Calls Tryz.prog 26 #[.string s] W fun o w' => o = .returned (.tuple #[.agg #[.int .i8 0, .int .i64 0, .int .i8 0, .int .i64 0], .int .i64 r]) ∧ Dn W w')) (HQ : Hid (∀ W, Calls Tryz.prog 35 #[.string s] W fun o w' => o = .returned (.tuple #[.agg #[.int .i8 0, .int .i64 0, .int .i8 0, .int .i64 0], .int .i64 r]) ∧ Dn W w')) (hr : r ≠ 0) (w : World) (hE : EnvR w) :
  Calls Tryz.prog 7 #[.string s] w fun ro w' => ro = .returned (.bool true) ∧ Dn w w' := by
 have t1 : decide (100 < (s.size : Int)) = false := by simp; omega
 clear h1
 go_enter Tryz.func7, Tryz.ntmps7
 go_wp2_with fail
 refine (HP.out _ hE).mono ?_
 rintro e w1 ⟨rfl, qw1⟩
 have uw1 := qw1
 clear qw1
 go_wp2_with fail
 obtain ⟨W1, hW1, uW1, c2, c3, c4, c5, l6⟩ := preKn55x2 w1 
 rw [← hW1]
 clear hW1
 have vW1 := uw1.trans uW1
 clear uW1 uw1
 refine (HQ.out _).mono ?_
 rintro e w2 ⟨rfl, qw2⟩
 have l7 := nlt l6 qw2.size
 obtain ⟨c8, c9, a0, a1⟩ := mv4 qw2.cell c2 c3 c4 c5
 clear l6 c2 c3 c4 c5
 have uw2 := vW1.trans qw2
 clear qw2 vW1
 go_wp2_with fail
 obtain ⟨W12, hW12⟩ : ∃ W12, W12 = w2.alloc (.cells #[.int .i8 0, .int .i64 0, .int .i8 0, .int .i64 0] 28) := ⟨_, rfl⟩
 have uW12 : Dn w2 W12 := by rw [hW12]; exact (Dn.refl _).alloc _
 have a2 := nlt l7 uW12.size
 obtain ⟨a3, a4, a5, a6⟩ := mv4 uW12.cell c8 c9 a0 a1
 clear l7 c8 c9 a0 a1
 have a7 : W12.cell? ⟨w2.heap.size, 0, none⟩ = some (.int .i8 0) := by rw [hW12]; simp [go_sem]
 have a8 : W12.cell? ⟨w2.heap.size, 1, none⟩ = some (.int .i64 0) := by rw [hW12]; simp [go_sem]
 have a9 : W12.cell? ⟨w2.heap.size, 2, none⟩ = some (.int .i8 0) := by rw [hW12]; simp [go_sem]
 have aA : W12.cell? ⟨w2.heap.size, 3, none⟩ = some (.int .i64 0) := by rw [hW12]; simp [go_sem]
 have aB : w2.heap.size < W12.heap.size := by rw [hW12]; simp <;> omega
 rw [← hW12]
 clear hW12
 have vW12 := uw2.trans uW12
 clear uW12 uw2
 refine (g9_bad 0 0 0 0 0 0 0 0 r _ hr).mono ?_
 rintro e w3 ⟨rfl, qw3⟩
 have aC := nlt a2 qw3.size
 have aH := nlt aB qw3.size
 obtain ⟨aD, aE, aF, aG, aI, aJ, aK, aL⟩ := mv8 qw3.cell a3 a4 a5 a6 a7 a8 a9 aA
 clear a2 a3 a4 a5 a6 aB a7 a8 a9 aA
 have uw3 := vW12.trans qw3
 clear qw3 vW12
 go_wp2_with fail
 refine (lives9 _ (hE.dn uw3)).mono ?_
 rintro e w4 ⟨rfl, qw4⟩
 have aM := nlt aC qw4.size
 have aR := nlt aH qw4.size
 obtain ⟨aN, aO, aP, aQ, aS, aT, aU, aV⟩ := mv8 qw4.cell aD aE aF aG aI aJ aK aL
 clear aC aD aE aF aG aH aI aJ aK aL
 have uw4 := uw3.trans qw4
 clear qw4 uw3
 go_wp2_with fail
 go_ret
 exact ⟨rfl, uw4⟩
theorem ep_ex9 (s : ByteArray) : ∃ i d e, EP s i d e := by
 by_cases h1 : s = sP
 · exact ⟨1, 0, 0, Or.inl ⟨h1, rfl, rfl, rfl⟩⟩
 by_cases h2 : s = sM
 · exact ⟨-1, 0, 0, Or.inr (Or.inl ⟨h2, rfl, rfl, rfl⟩)⟩
 by_cases hp : pOk s.data.toList
 · by_cases hi : I64 (pVal s.data.toList)
   · exact ⟨0, _, 0, Or.inr (Or.inr ⟨h1, h2, rfl, Or.inl ⟨hp, Or.inl ⟨hi, rfl, rfl⟩⟩⟩)⟩
   · exact ⟨0, 0, 15, Or.inr (Or.inr ⟨h1, h2, rfl, Or.inl ⟨hp, Or.inr ⟨hi, rfl, rfl⟩⟩⟩)⟩
 · exact ⟨0, 0, 5, Or.inr (Or.inr ⟨h1, h2, rfl, Or.inr ⟨hp, rfl, rfl⟩⟩)⟩
theorem rp_ex (s : ByteArray) : ∃ q0 q1 q2 q3 r, RP s q0 q1 q2 q3 r ∧ (r = 0 ∨ (r ≠ 0 ∧ q0 = 0 ∧ q1 = 0 ∧ q2 = 0 ∧ q3 = 0)) := by
 by_cases hc : (Lib.cut s.data.toList [46, 46]).2.2 = true
 · obtain ⟨i1, d1, r1, h1⟩ := ep_ex9 ⟨(Lib.cut s.data.toList [46, 46]).1.toArray⟩
   obtain ⟨i2, d2, r2, h2⟩ := ep_ex9 ⟨(Lib.cut s.data.toList [46, 46]).2.1.toArray⟩
   have e1 := ep_err h1
   have e2 := ep_err h2
   by_cases k1 : r1 = 5 ∨ r2 = 5
   · exact ⟨0, 0, 0, 0, 5, Or.inr ⟨hc, i1, d1, r1, i2, d2, r2, h1, h2, Or.inl ⟨k1, rfl, rfl, rfl, rfl, rfl⟩⟩, Or.inr ⟨by decide, rfl, rfl, rfl, rfl⟩⟩
   · by_cases k2 : r1 ≠ 0 ∨ r2 ≠ 0
     · exact ⟨0, 0, 0, 0, 15, Or.inr ⟨hc, i1, d1, r1, i2, d2, r2, h1, h2, Or.inr (Or.inl ⟨by omega, by omega, k2, rfl, rfl, rfl, rfl, rfl⟩)⟩, Or.inr ⟨by decide, rfl, rfl, rfl, rfl⟩⟩
     · by_cases k3 : rnErr i1 d1 i2 d2 = 0
       · exact ⟨i1, d1, i2, d2, 0, Or.inr ⟨hc, i1, d1, r1, i2, d2, r2, h1, h2, Or.inr (Or.inr (Or.inr ⟨by omega, by omega, k3, rfl, rfl, rfl, rfl, rfl⟩))⟩, Or.inl rfl⟩
       · exact ⟨0, 0, 0, 0, _, Or.inr ⟨hc, i1, d1, r1, i2, d2, r2, h1, h2, Or.inr (Or.inr (Or.inl ⟨by omega, by omega, k3, rfl, rfl, rfl, rfl, rfl⟩))⟩, Or.inr ⟨k3, rfl, rfl, rfl, rfl⟩⟩
 · exact ⟨0, 0, 0, 0, 5, Or.inl ⟨by simpa using hc, rfl, rfl, rfl, rfl, rfl⟩, Or.inr ⟨by decide, rfl, rfl, rfl, rfl⟩⟩
theorem runsParse_true (s : ByteArray) (w : World) (hm : s.size ≤ 9223372036854775807) (hE : EnvR w) :
   Calls Tryz.prog 7 #[.string s] w fun ro w' => ro = .returned (.bool true) ∧ Dn w w' := by
 by_cases hs : s.size ≤ 100
 · obtain ⟨q0, q1, q2, q3, r, h, hx⟩ := rp_ex s
   have HP := Lib.hid (fun W hW => rnParse s q0 q1 q2 q3 r W (by omega) h hW)
   have HQ := Lib.hid (fun W => rfParse s q0 q1 q2 q3 r W (by omega) h)
   rcases hx with rfl | ⟨hr, rfl, rfl, rfl, rfl⟩
   · exact prs_ok s q0 q1 q2 q3 0 hs HP HQ w hE
   · exact prs_bad s 0 0 0 0 r hs HP HQ hr w hE
 · exact prs_long s 0 0 0 0 0 (by omega) w hE
end Go.Proofs.YtcdkeiolblifkaaGreatDoor
