/- Walks and laws that the claim's theorem leans on: part 26. -/
import Derived.Test.YtoghoddjkdoohaaGreatDoorZOn1
import Derived.Test.YtoghoddjkdoohaaGreatDoorZOn24
import Derived.Test.YtoghoddjkdoohaaGreatDoorZOn25
import Derived.ProofKit
import Derived.OpenShut
import Derived.Lib.SmallJoins
import Derived.ChangeMaps5
namespace Go.Proofs.YtoghoddjkdoohaaGreatDoor
set_option maxHeartbeats 4000000
set_option maxRecDepth 100000
open Go.RowKit
set_option linter.unusedVariables false
set_option linter.unusedSimpArgs false
theorem kdTF_12 {W w1 w2 : World} {a0 a1 a2 a3 a4 a5 a6 a7 a8 a9 a10 a11 : Addr} {v0 v1 v2 v3 v4 v5 v6 v7 v8 v9 v10 v11 : Value} (k : Dn w1 w2) (h : Dn W w1 ∧ w1.cell? a0 = some v0 ∧ w1.cell? a1 = some v1 ∧ w1.cell? a2 = some v2 ∧ w1.cell? a3 = some v3 ∧ w1.cell? a4 = some v4 ∧ w1.cell? a5 = some v5 ∧ w1.cell? a6 = some v6 ∧ w1.cell? a7 = some v7 ∧ w1.cell? a8 = some v8 ∧ w1.cell? a9 = some v9 ∧ w1.cell? a10 = some v10 ∧ w1.cell? a11 = some v11) :
  Dn W w2 ∧ w2.cell? a0 = some v0 ∧ w2.cell? a1 = some v1 ∧ w2.cell? a2 = some v2 ∧ w2.cell? a3 = some v3 ∧ w2.cell? a4 = some v4 ∧ w2.cell? a5 = some v5 ∧ w2.cell? a6 = some v6 ∧ w2.cell? a7 = some v7 ∧ w2.cell? a8 = some v8 ∧ w2.cell? a9 = some v9 ∧ w2.cell? a10 = some v10 ∧ w2.cell? a11 = some v11 := by
 obtain ⟨h1, c0, c1, c2, c3, c4, c5, c6, c7, c8, c9, c10, c11⟩ := h
 exact ⟨h1.trans k, k.cell c0, k.cell c1, k.cell c2, k.cell c3, k.cell c4, k.cell c5, k.cell c6, k.cell c7, k.cell c8, k.cell c9, k.cell c10, k.cell c11⟩
theorem has_two {W : World} {p1 p2 : Option Addr} {m1 m2 c1 c2 : Nat} {day : Int} {t1 t2 : Bool} (h1 : Calls Tryz.prog 16 #[.slice p1 m1 c1, .int .i64 day] W fun ro w' => ro = .returned (.bool t1) ∧ Dn W w') (h2 : Calls Tryz.prog 16 #[.slice p2 m2 c2, .int .i64 day] W fun ro w' => ro = .returned (.bool t2) ∧ Dn W w') {X : Option Addr} {m cap : Nat} {t : Bool}
   (h : (X = p1 ∧ m = m1 ∧ cap = c1 ∧ t = t1) ∨ (X = p2 ∧ m = m2 ∧ cap = c2 ∧ t = t2)) : Calls Tryz.prog 16 #[.slice X m cap, .int .i64 day] W fun ro w' => ro = .returned (.bool t) ∧ Dn W w' := by
 rcases h with ⟨rfl, rfl, rfl, rfl⟩ | ⟨rfl, rfl, rfl, rfl⟩
 · exact h1
 · exact h2
theorem one_a (p : Option Addr) (la ca : Nat) (day : Int) (w : World) (hl1 : la ≤ 9223372036854775807) (h1 : 20 < la) (hE : EnvR w) :
  Calls Tryz.prog 4 #[.slice p la ca, .int .i64 day] w fun ro w' => ro = .returned (.bool true) ∧ Dn w w' := by
 have e1 : decide ((la : Int) > 20) = true := by simp; omega
 have e2 : (20 : Int) < la := by omega
 clear h1
 go_enter Tryz.func4, Tryz.ntmps4
 go_wp2_with fail
 refine (lives10 _ hE).mono ?_
 rintro e w1 ⟨rfl, qw1⟩
 have uw1 := qw1
 clear qw1
 go_wp2_with fail
 go_ret
 exact ⟨rfl, uw1⟩
theorem one_bad (p : Option Addr) (la ca : Nat) (day c n en : Int) (R : List Rq) (w : World) (h1 : la ≤ 20) (FK : Hid (∀ W, Dn w W → Calls Tryz.prog 15 #[.slice p la ca] W fun ro w' => ro = .returned (.int .i64 c) ∧ Dn W w')) (HC : Hid (∀ W, Dn w W → Calls Tryz.prog 17 #[.slice p la ca] W fun ro w' => ∃ p', ro = .returned (.tuple #[.slice p' R.length R.length, .int .i64 c]) ∧ Row w' p' R ∧ Dn W w')) (FC : Hid (∀ W, Dn w W → Calls Tryz.prog 18 #[.slice p la ca] W fun ro w' => ∃ p' cap', ro = .returned (.tuple #[.slice p' R.length cap', .int .i64 c]) ∧ Row w' p' R ∧ Dn W w')) (HN : Hid (∀ W, Dn w W → Calls Tryz.prog 19 #[.slice p la ca] W fun ro w' => ro = .returned (.tuple #[.int .i64 n, .int .i64 en]) ∧ Dn W w')) (FN : Hid (∀ W, Dn w W → Calls Tryz.prog 20 #[.slice p la ca] W fun ro w' => ro = .returned (.tuple #[.int .i64 n, .int .i64 en]) ∧ Dn W w')) (HM : Hid (∀ W, Dn w W → Calls Tryz.prog 21 #[.slice p la ca] W fun ro w' => ro = .returned (.tuple #[.agg #[.int .i8 0, .int .i64 0], .int .i64 c]) ∧ Dn W w')) (HX : Hid (∀ W, Dn w W → Calls Tryz.prog 22 #[.slice p la ca] W fun ro w' => ro = .returned (.tuple #[.agg #[.int .i8 0, .int .i64 0], .int .i64 c]) ∧ Dn W w')) (GC : Hid (∀ W p1 p2 c2, Row W p1 R → Row W p2 R → Calls Tryz.prog 13 #[.slice p1 R.length R.length, .int .i64 c, .slice p2 R.length c2, .int .i64 c] W fun ro w' => ro = .returned (.bool true) ∧ Dn W w')) (hc : c ≠ 0) (hE : EnvR w) :
  Calls Tryz.prog 4 #[.slice p la ca, .int .i64 day] w fun ro w' => ro = .returned (.bool true) ∧ Dn w w' := by
 have e1 : decide ((la : Int) > 20) = false := by simp; omega
 have e2 : ¬ (20 : Int) < la := by omega
 have e5 : (n != n) = false := by simp
 have e6 : (en != en) = false := by simp
 have e7 : (c == c) = true := by simp
 clear h1
 have e9 : (c != 0) = true := by simpa using hc
 clear hc
 go_enter Tryz.func4, Tryz.ntmps4
 go_wp2_with fail
 refine (FK.out _ (Dn.refl _)).mono ?_
 rintro e w1 ⟨rfl, qw1⟩
 have uw1 := qw1
 clear qw1
 go_wp2_with fail
 refine (HC.out _ uw1).mono ?_
 rintro e w2 ⟨pc, rfl, rc, qw2⟩
 have uw2 := uw1.trans qw2
 clear qw2 uw1
 go_wp2_with fail
 refine (FC.out _ uw2).mono ?_
 rintro e w3 ⟨pf, cf, rfl, rf, qw3⟩
 replace rc := rc.dn qw3
 have uw3 := uw2.trans qw3
 clear qw3 uw2
 go_wp2_with fail
 refine (HN.out _ uw3).mono ?_
 rintro e w4 ⟨rfl, qw4⟩
 replace rc := rc.dn qw4
 replace rf := rf.dn qw4
 have uw4 := uw3.trans qw4
 clear qw4 uw3
 go_wp2_with fail
 refine (FN.out _ uw4).mono ?_
 rintro e w5 ⟨rfl, qw5⟩
 replace rc := rc.dn qw5
 replace rf := rf.dn qw5
 have uw5 := uw4.trans qw5
 clear qw5 uw4
 go_wp2_with fail
 refine (HM.out _ uw5).mono ?_
 rintro e w6 ⟨rfl, qw6⟩
 replace rc := rc.dn qw6
 replace rf := rf.dn qw6
 have uw6 := uw5.trans qw6
 clear qw6 uw5
 go_wp2_with fail
 obtain ⟨W1, hW1⟩ : ∃ W1, W1 = w6.alloc (.cells #[.int .i8 0, .int .i64 0] 41) := ⟨_, rfl⟩
 have uW1 : Dn w6 W1 := by rw [hW1]; exact (Dn.refl _).alloc _
 replace rc := rc.dn uW1
 replace rf := rf.dn uW1
 have c2 : W1.cell? ⟨w6.heap.size, 0, none⟩ = some (.int .i8 0) := by rw [hW1]; simp [go_sem]
 have c3 : W1.cell? ⟨w6.heap.size, 1, none⟩ = some (.int .i64 0) := by rw [hW1]; simp [go_sem]
 have l4 : w6.heap.size < W1.heap.size := by rw [hW1]; simp <;> omega
 rw [← hW1]
 clear hW1
 have vW1 := uw6.trans uW1
 clear uW1 uw6
 refine (HX.out _ vW1).mono ?_
 rintro e w7 ⟨rfl, qw7⟩
 replace rc := rc.dn qw7
 replace rf := rf.dn qw7
 have l5 := nlt l4 qw7.size
 have c6 := qw7.cell c2
 have c7 := qw7.cell c3
 clear l4 c2 c3
 have uw7 := vW1.trans qw7
 clear qw7 vW1
 go_wp2_with fail
 obtain ⟨W8, hW8⟩ : ∃ W8, W8 = w7.alloc (.cells #[.int .i8 0, .int .i64 0] 41) := ⟨_, rfl⟩
 have uW8 : Dn w7 W8 := by rw [hW8]; exact (Dn.refl _).alloc _
 replace rc := rc.dn uW8
 replace rf := rf.dn uW8
 have l9 := nlt l5 uW8.size
 have a0 := uW8.cell c6
 have a1 := uW8.cell c7
 clear l5 c6 c7
 have a2 : W8.cell? ⟨w7.heap.size, 0, none⟩ = some (.int .i8 0) := by rw [hW8]; simp [go_sem]
 have a3 : W8.cell? ⟨w7.heap.size, 1, none⟩ = some (.int .i64 0) := by rw [hW8]; simp [go_sem]
 have a4 : w7.heap.size < W8.heap.size := by rw [hW8]; simp <;> omega
 rw [← hW8]
 clear hW8
 have vW8 := uw7.trans uW8
 clear uW8 uw7
 refine (GC.out _ _ _ _ rc rf).mono ?_
 rintro e w8 ⟨rfl, qw8⟩
 replace rc := rc.dn qw8
 replace rf := rf.dn qw8
 have a5 := nlt l9 qw8.size
 have a8 := nlt a4 qw8.size
 obtain ⟨a6, a7, a9, aA⟩ := mv4 qw8.cell a0 a1 a2 a3
 clear l9 a0 a1 a4 a2 a3
 have uw8 := vW8.trans qw8
 clear qw8 vW8
 go_wp2_with fail
 refine (lives10 _ (hE.dn uw8)).mono ?_
 rintro e w9 ⟨rfl, qw9⟩
 replace rc := rc.dn qw9
 replace rf := rf.dn qw9
 have aB := nlt a5 qw9.size
 have aE := nlt a8 qw9.size
 obtain ⟨aC, aD, aF, aG⟩ := mv4 qw9.cell a6 a7 a9 aA
 clear a5 a6 a7 a8 a9 aA
 have uw9 := uw8.trans qw9
 clear qw9 uw8
 go_wp2_with fail
 go_ret
 exact ⟨rfl, uw9⟩
theorem one_nil (p : Option Addr) (la ca : Nat) (day n en : Int) (R : List Rq) (w : World) (h1 : la ≤ 20) (hl : la = 0) (FK : Hid (∀ W, Dn w W → Calls Tryz.prog 15 #[.slice p la ca] W fun ro w' => ro = .returned (.int .i64 0) ∧ Dn W w')) (HC : Hid (∀ W, Dn w W → Calls Tryz.prog 17 #[.slice p la ca] W fun ro w' => ∃ p', ro = .returned (.tuple #[.slice p' R.length R.length, .int .i64 0]) ∧ Row w' p' R ∧ Dn W w')) (FC : Hid (∀ W, Dn w W → Calls Tryz.prog 18 #[.slice p la ca] W fun ro w' => ∃ p' cap', ro = .returned (.tuple #[.slice p' R.length cap', .int .i64 0]) ∧ Row w' p' R ∧ Dn W w')) (HN : Hid (∀ W, Dn w W → Calls Tryz.prog 19 #[.slice p la ca] W fun ro w' => ro = .returned (.tuple #[.int .i64 n, .int .i64 en]) ∧ Dn W w')) (FN : Hid (∀ W, Dn w W → Calls Tryz.prog 20 #[.slice p la ca] W fun ro w' => ro = .returned (.tuple #[.int .i64 n, .int .i64 en]) ∧ Dn W w')) (HM : Hid (∀ W, Dn w W → Calls Tryz.prog 21 #[.slice p la ca] W fun ro w' => ro = .returned (.tuple #[.agg #[.int .i8 0, .int .i64 0], .int .i64 17]) ∧ Dn W w')) (HX : Hid (∀ W, Dn w W → Calls Tryz.prog 22 #[.slice p la ca] W fun ro w' => ro = .returned (.tuple #[.agg #[.int .i8 0, .int .i64 0], .int .i64 17]) ∧ Dn W w')) (GC : Hid (∀ W p1 p2 c2, Row W p1 R → Row W p2 R → Calls Tryz.prog 13 #[.slice p1 R.length R.length, .int .i64 0, .slice p2 R.length c2, .int .i64 0] W fun ro w' => ro = .returned (.bool true) ∧ Dn W w')) (hE : EnvR w) :
  Calls Tryz.prog 4 #[.slice p la ca, .int .i64 day] w fun ro w' => ro = .returned (.bool true) ∧ Dn w w' := by
 have e1 : decide ((la : Int) > 20) = false := by simp; omega
 have e2 : ¬ (20 : Int) < la := by omega
 have e5 : (n != n) = false := by simp
 have e6 : (en != en) = false := by simp
 clear h1
 subst hl
 go_enter Tryz.func4, Tryz.ntmps4
 go_wp2_with fail
 refine (FK.out _ (Dn.refl _)).mono ?_
 rintro e w1 ⟨rfl, qw1⟩
 have uw1 := qw1
 clear qw1
 go_wp2_with fail
 refine (HC.out _ uw1).mono ?_
 rintro e w2 ⟨pc, rfl, rc, qw2⟩
 have uw2 := uw1.trans qw2
 clear qw2 uw1
 go_wp2_with fail
 refine (FC.out _ uw2).mono ?_
 rintro e w3 ⟨pf, cf, rfl, rf, qw3⟩
 replace rc := rc.dn qw3
 have uw3 := uw2.trans qw3
 clear qw3 uw2
 go_wp2_with fail
 refine (HN.out _ uw3).mono ?_
 rintro e w4 ⟨rfl, qw4⟩
 replace rc := rc.dn qw4
 replace rf := rf.dn qw4
 have uw4 := uw3.trans qw4
 clear qw4 uw3
 go_wp2_with fail
 refine (FN.out _ uw4).mono ?_
 rintro e w5 ⟨rfl, qw5⟩
 replace rc := rc.dn qw5
 replace rf := rf.dn qw5
 have uw5 := uw4.trans qw5
 clear qw5 uw4
 go_wp2_with fail
 refine (HM.out _ uw5).mono ?_
 rintro e w6 ⟨rfl, qw6⟩
 replace rc := rc.dn qw6
 replace rf := rf.dn qw6
 have uw6 := uw5.trans qw6
 clear qw6 uw5
 go_wp2_with fail
 obtain ⟨W1, hW1⟩ : ∃ W1, W1 = w6.alloc (.cells #[.int .i8 0, .int .i64 0] 41) := ⟨_, rfl⟩
 have uW1 : Dn w6 W1 := by rw [hW1]; exact (Dn.refl _).alloc _
 replace rc := rc.dn uW1
 replace rf := rf.dn uW1
 have c2 : W1.cell? ⟨w6.heap.size, 0, none⟩ = some (.int .i8 0) := by rw [hW1]; simp [go_sem]
 have c3 : W1.cell? ⟨w6.heap.size, 1, none⟩ = some (.int .i64 0) := by rw [hW1]; simp [go_sem]
 have l4 : w6.heap.size < W1.heap.size := by rw [hW1]; simp <;> omega
 rw [← hW1]
 clear hW1
 have vW1 := uw6.trans uW1
 clear uW1 uw6
 refine (HX.out _ vW1).mono ?_
 rintro e w7 ⟨rfl, qw7⟩
 replace rc := rc.dn qw7
 replace rf := rf.dn qw7
 have l5 := nlt l4 qw7.size
 have c6 := qw7.cell c2
 have c7 := qw7.cell c3
 clear l4 c2 c3
 have uw7 := vW1.trans qw7
 clear qw7 vW1
 go_wp2_with fail
 obtain ⟨W8, hW8⟩ : ∃ W8, W8 = w7.alloc (.cells #[.int .i8 0, .int .i64 0] 41) := ⟨_, rfl⟩
 have uW8 : Dn w7 W8 := by rw [hW8]; exact (Dn.refl _).alloc _
 replace rc := rc.dn uW8
 replace rf := rf.dn uW8
 have l9 := nlt l5 uW8.size
 have a0 := uW8.cell c6
 have a1 := uW8.cell c7
 clear l5 c6 c7
 have a2 : W8.cell? ⟨w7.heap.size, 0, none⟩ = some (.int .i8 0) := by rw [hW8]; simp [go_sem]
 have a3 : W8.cell? ⟨w7.heap.size, 1, none⟩ = some (.int .i64 0) := by rw [hW8]; simp [go_sem]
 have a4 : w7.heap.size < W8.heap.size := by rw [hW8]; simp <;> omega
 rw [← hW8]
 clear hW8
 have vW8 := uw7.trans uW8
 clear uW8 uw7
 refine (GC.out _ _ _ _ rc rf).mono ?_
 rintro e w8 ⟨rfl, qw8⟩
 replace rc := rc.dn qw8
 replace rf := rf.dn qw8
 have a5 := nlt l9 qw8.size
 have a8 := nlt a4 qw8.size
 obtain ⟨a6, a7, a9, aA⟩ := mv4 qw8.cell a0 a1 a2 a3
 clear l9 a0 a1 a4 a2 a3
 have uw8 := vW8.trans qw8
 clear qw8 vW8
 go_wp2_with fail
 refine (lives10 _ (hE.dn uw8)).mono ?_
 rintro e w9 ⟨rfl, qw9⟩
 replace rc := rc.dn qw9
 replace rf := rf.dn qw9
 have aB := nlt a5 qw9.size
 have aE := nlt a8 qw9.size
 obtain ⟨aC, aD, aF, aG⟩ := mv4 qw9.cell a6 a7 a9 aA
 clear a5 a6 a7 a8 a9 aA
 have uw9 := uw8.trans qw9
 clear qw9 uw8
 go_wp2_with fail
 go_ret
 exact ⟨rfl, uw9⟩
theorem one_ok_true (g o k ca : Nat) (x z : Rq) (day n en : Int) (R : List Rq) (w : World) (h1 : k ≤ 19) (hg : g < w.heap.size) (hx : El w g o 0 x) (hz : El w g o k z) (FK : Hid (∀ W, Dn w W → Calls Tryz.prog 15 #[.slice (some ⟨g, o, none⟩) (k + 1) ca] W fun ro w' => ro = .returned (.int .i64 0) ∧ Dn W w')) (HC : Hid (∀ W, Dn w W → Calls Tryz.prog 17 #[.slice (some ⟨g, o, none⟩) (k + 1) ca] W fun ro w' => ∃ p', ro = .returned (.tuple #[.slice p' R.length R.length, .int .i64 0]) ∧ Row w' p' R ∧ Dn W w')) (FC : Hid (∀ W, Dn w W → Calls Tryz.prog 18 #[.slice (some ⟨g, o, none⟩) (k + 1) ca] W fun ro w' => ∃ p' cap', ro = .returned (.tuple #[.slice p' R.length cap', .int .i64 0]) ∧ Row w' p' R ∧ Dn W w')) (HN : Hid (∀ W, Dn w W → Calls Tryz.prog 19 #[.slice (some ⟨g, o, none⟩) (k + 1) ca] W fun ro w' => ro = .returned (.tuple #[.int .i64 n, .int .i64 en]) ∧ Dn W w')) (FN : Hid (∀ W, Dn w W → Calls Tryz.prog 20 #[.slice (some ⟨g, o, none⟩) (k + 1) ca] W fun ro w' => ro = .returned (.tuple #[.int .i64 n, .int .i64 en]) ∧ Dn W w')) (HM : Hid (∀ W, Dn w W → Calls Tryz.prog 21 #[.slice (some ⟨g, o, none⟩) (k + 1) ca] W fun ro w' => ro = .returned (.tuple #[.agg #[.int .i8 x.a, .int .i64 x.b], .int .i64 0]) ∧ Dn W w')) (HX : Hid (∀ W, Dn w W → Calls Tryz.prog 22 #[.slice (some ⟨g, o, none⟩) (k + 1) ca] W fun ro w' => ro = .returned (.tuple #[.agg #[.int .i8 z.c, .int .i64 z.d], .int .i64 0]) ∧ Dn W w')) (GC : Hid (∀ W p1 p2 c2, Row W p1 R → Row W p2 R → Calls Tryz.prog 13 #[.slice p1 R.length R.length, .int .i64 0, .slice p2 R.length c2, .int .i64 0] W fun ro w' => ro = .returned (.bool true) ∧ Dn W w')) (XR : Hid (∀ W p1, Row W p1 R → Calls Tryz.prog 16 #[.slice p1 R.length R.length, .int .i64 day] W fun ro w' => ro = .returned (.bool false) ∧ Dn W w')) (XL : Hid (∀ W, Dn w W → Calls Tryz.prog 16 #[.slice (some ⟨g, o, none⟩) (k + 1) ca, .int .i64 day] W fun ro w' => ro = .returned (.bool true) ∧ Dn W w')) (hE : EnvR w) :
    Calls Tryz.prog 4 #[.slice (some ⟨g, o, none⟩) (k + 1) ca, .int .i64 day] w fun ro w' => ro = .returned (.bool true) ∧ Dn w w' := by
  have e1 : decide ((k : Int) + 1 > 20) = false := by simp; omega
  have e2 : ¬ (20 : Int) < (k : Int) + 1 := by omega
  have e5 : (n != n) = false := by simp
  have e6 : (en != en) = false := by simp
  have e9 : (((k : Int) + 1) == 0) = false := by simp; omega
  have e10 : decide ((k : Int) + 1 = 0) = false := by simp; omega
  have e11 : (k : Int) < (k : Int) + 1 := by omega
  have e12 : (0 : Int) < (k : Int) + 1 := by omega
  have e13 : IntKind.i64.wrap (k : Int) = k := IntWalk.i64_in _ (by omega)
  have e15 : k < k + 1 := by omega
  have e16 : IntKind.i64.wrap 0 = 0 := by decide
  obtain ⟨x0, x1, x2, x3⟩ := hx
  obtain ⟨z0, z1, z2, z3⟩ := hz
  have xl := hg
  have zl := hg
  simp only [Nat.zero_mul, Nat.add_zero] at x0 x1 x2 x3
  clear h1 hg
  go_enter Tryz.func4, Tryz.ntmps4
  go_wp2_with fail
  refine (FK.out _ (Dn.refl _)).mono ?_
  rintro e w1 ⟨rfl, qw1⟩
  have l1 := nlt xl qw1.size
  have l6 := nlt zl qw1.size
  obtain ⟨c2, c3, c4, c5, c7, c8, c9, a0⟩ := mv8 qw1.cell x0 x1 x2 x3 z0 z1 z2 z3
  clear xl x0 x1 x2 x3 zl z0 z1 z2 z3
  have uw1 := qw1
  clear qw1
  go_wp2_with fail
  refine (HC.out _ uw1).mono ?_
  rintro e w2 ⟨pc, rfl, rc, qw2⟩
  have a1 := nlt l1 qw2.size
  have a6 := nlt l6 qw2.size
  obtain ⟨a2, a3, a4, a5, a7, a8, a9, aA⟩ := mv8 qw2.cell c2 c3 c4 c5 c7 c8 c9 a0
  clear l1 c2 c3 c4 c5 l6 c7 c8 c9 a0
  have uw2 := uw1.trans qw2
  clear qw2 uw1
  go_wp2_with fail
  refine (FC.out _ uw2).mono ?_
  rintro e w3 ⟨pf, cf, rfl, rf, qw3⟩
  replace rc := rc.dn qw3
  have aB := nlt a1 qw3.size
  have aG := nlt a6 qw3.size
  obtain ⟨aC, aD, aE, aF, aH, aI, aJ, aK⟩ := mv8 qw3.cell a2 a3 a4 a5 a7 a8 a9 aA
  clear a1 a2 a3 a4 a5 a6 a7 a8 a9 aA
  have uw3 := uw2.trans qw3
  clear qw3 uw2
  go_wp2_with fail
  refine (HN.out _ uw3).mono ?_
  rintro e w4 ⟨rfl, qw4⟩
  replace rc := rc.dn qw4
  replace rf := rf.dn qw4
  have aL := nlt aB qw4.size
  have aQ := nlt aG qw4.size
  obtain ⟨aM, aN, aO, aP, aR, aS, aT, aU⟩ := mv8 qw4.cell aC aD aE aF aH aI aJ aK
  clear aB aC aD aE aF aG aH aI aJ aK
  have uw4 := uw3.trans qw4
  clear qw4 uw3
  go_wp2_with fail
  refine (FN.out _ uw4).mono ?_
  rintro e w5 ⟨rfl, qw5⟩
  replace rc := rc.dn qw5
  replace rf := rf.dn qw5
  have aV := nlt aL qw5.size
  have b0 := nlt aQ qw5.size
  obtain ⟨aW, aX, aY, aZ, b1, b2, b3, b4⟩ := mv8 qw5.cell aM aN aO aP aR aS aT aU
  clear aL aM aN aO aP aQ aR aS aT aU
  have uw5 := uw4.trans qw5
  clear qw5 uw4
  go_wp2_with fail
  refine (HM.out _ uw5).mono ?_
  rintro e w6 ⟨rfl, qw6⟩
  replace rc := rc.dn qw6
  replace rf := rf.dn qw6
  have b5 := nlt aV qw6.size
  have bA := nlt b0 qw6.size
  obtain ⟨b6, b7, b8, b9, bB, bC, bD, bE⟩ := mv8 qw6.cell aW aX aY aZ b1 b2 b3 b4
  clear aV aW aX aY aZ b0 b1 b2 b3 b4
  have uw6 := uw5.trans qw6
  clear qw6 uw5
  go_wp2_with fail
  obtain ⟨W61, hW61⟩ : ∃ W61, W61 = w6.alloc (.cells #[.int .i8 x.a, .int .i64 x.b] 41) := ⟨_, rfl⟩
  have uW61 : Dn w6 W61 := by rw [hW61]; exact (Dn.refl _).alloc _
  replace rc := rc.dn uW61
  replace rf := rf.dn uW61
  have bF := nlt b5 uW61.size
  have bK := nlt bA uW61.size
  obtain ⟨bG, bH, bI, bJ, bL, bM, bN, bO⟩ := mv8 uW61.cell b6 b7 b8 b9 bB bC bD bE
  clear b5 b6 b7 b8 b9 bA bB bC bD bE
  have bP : W61.cell? ⟨w6.heap.size, 0, none⟩ = some (.int .i8 x.a) := by rw [hW61]; simp [go_sem]
  have bQ : W61.cell? ⟨w6.heap.size, 1, none⟩ = some (.int .i64 x.b) := by rw [hW61]; simp [go_sem]
  have bR : w6.heap.size < W61.heap.size := by rw [hW61]; simp <;> omega
  rw [← hW61]
  clear hW61
  have vW61 := uw6.trans uW61
  clear uW61 uw6
  refine (HX.out _ vW61).mono ?_
  rintro e w7 ⟨rfl, qw7⟩
  replace rc := rc.dn qw7
  replace rf := rf.dn qw7
  have bS := nlt bF qw7.size
  have bX := nlt bK qw7.size
  have c6 := nlt bR qw7.size
  obtain ⟨bT, bU, bV, bW, bY, bZ, c0, c1, cA, cB⟩ := mv10 qw7.cell bG bH bI bJ bL bM bN bO bP bQ
  clear bF bG bH bI bJ bK bL bM bN bO bR bP bQ
  have uw7 := vW61.trans qw7
  clear qw7 vW61
  go_wp2_with fail
  obtain ⟨W88, hW88⟩ : ∃ W88, W88 = w7.alloc (.cells #[.int .i8 z.c, .int .i64 z.d] 41) := ⟨_, rfl⟩
  have uW88 : Dn w7 W88 := by rw [hW88]; exact (Dn.refl _).alloc _
  replace rc := rc.dn uW88
  replace rf := rf.dn uW88
  have cC := nlt bS uW88.size
  have cI := nlt bX uW88.size
  have cN := nlt c6 uW88.size
  obtain ⟨cE, cF, cG, cH, cJ, cK, cL, cM, cO, cP⟩ := mv10 uW88.cell bT bU bV bW bY bZ c0 c1 cA cB
  clear bS bT bU bV bW bX bY bZ c0 c1 c6 cA cB
  have cQ : W88.cell? ⟨w7.heap.size, 0, none⟩ = some (.int .i8 z.c) := by rw [hW88]; simp [go_sem]
  have cR : W88.cell? ⟨w7.heap.size, 1, none⟩ = some (.int .i64 z.d) := by rw [hW88]; simp [go_sem]
  have cS : w7.heap.size < W88.heap.size := by rw [hW88]; simp <;> omega
  rw [← hW88]
  clear hW88
  have vW88 := uw7.trans uW88
  clear uW88 uw7
  refine (GC.out _ _ _ _ rc rf).mono ?_
  rintro e w8 ⟨rfl, qw8⟩
  replace rc := rc.dn qw8
  replace rf := rf.dn qw8
  have cT := nlt cC qw8.size
  have cY := nlt cI qw8.size
  have d3 := nlt cN qw8.size
  have d6 := nlt cS qw8.size
  obtain ⟨cU, cV, cW, cX, cZ, d0, d1, d2, d4, d5, d7, d8⟩ := mv12 qw8.cell cE cF cG cH cJ cK cL cM cO cP cQ cR
  clear cC cE cF cG cH cI cJ cK cL cM cN cO cP cS cQ cR
  have uw8 := vW88.trans qw8
  clear qw8 vW88
  go_wp2_with fail
  have HXC := Lib.hid (fun W X m cap t (q : Dn w8 W) (h : (X = pc ∧ m = R.length ∧ cap = R.length ∧ t = false) ∨ (X = some ⟨g, o, none⟩ ∧ m = k + 1 ∧ cap = ca ∧ t = true)) => has_two (XR.out W pc (rc.dn q)) (XL.out W (uw8.trans q)) h)
  have HE := Lib.hid (hE.dn uw8)
  clear rc rf
  have hS121 := kdTF_12 (W := w8) (Dn.refl _) ⟨Dn.refl _, cU, cV, cW, cX, cZ, d0, d1, d2, d4, d5, d7, d8⟩
  have HShS121 := Lib.hid hS121
  clear cU cV cW cX cZ d0 d1 d2 d4 d5 d7 d8
  refine wp_region_held_drew (S := fun w' => Dn w8 w' ∧ w'.cell? ⟨g, o, none⟩ = some (.int .i8 x.a) ∧ w'.cell? ⟨g, o + 1, none⟩ = some (.int .i64 x.b) ∧ w'.cell? ⟨g, o + 2, none⟩ = some (.int .i8 x.c) ∧ w'.cell? ⟨g, o + 3, none⟩ = some (.int .i64 x.d) ∧ w'.cell? ⟨g, o + k * 4, none⟩ = some (.int .i8 z.a) ∧ w'.cell? ⟨g, o + k * 4 + 1, none⟩ = some (.int .i64 z.b) ∧ w'.cell? ⟨g, o + k * 4 + 2, none⟩ = some (.int .i8 z.c) ∧ w'.cell? ⟨g, o + k * 4 + 3, none⟩ = some (.int .i64 z.d) ∧ w'.cell? ⟨w6.heap.size, 0, none⟩ = some (.int .i8 x.a) ∧ w'.cell? ⟨w6.heap.size, 1, none⟩ = some (.int .i64 x.b) ∧ w'.cell? ⟨w7.heap.size, 0, none⟩ = some (.int .i8 z.c) ∧ w'.cell? ⟨w7.heap.size, 1, none⟩ = some (.int .i64 z.d)) (by kernel_rfl) ?_ (fun hHeld => ?_)
  · (try dsimp only); (first | exact kdTF_12 ((Dn.refl _).drew) hS121 | exact kdTF_12 ‹Dn _ _› ‹_› | exact kdTF_12 (Up.dn ‹Up _ _›) ‹_› | assumption | exact kdTF_12 ((Dn.refl _).alloc _) ‹_›)
  refine tk 0 ?_ rfl (by kernel_rfl) (fun _ _ _ => id) (by rfl) (by assumption) ?_ ?_
  rotate_left
  · (intro w hSw; (try dsimp only at hSw); go_simp)
    all_goals with_reducible rfl
  try simp only [Act.put, pL]
  refine tk 1 ?_ rfl (by kernel_rfl) (fun _ _ _ => id) (by rfl) (by assumption) ?_ ?_
  rotate_left
  · (intro w hSw; (try dsimp only at hSw); go_simp)
    all_goals with_reducible rfl
  try simp only [Act.put, pL]
  refine tk 2 ?_ rfl (by kernel_rfl) (fun _ _ _ => id) (by rfl) (by assumption) ?_ ?_
  rotate_left
  · (intro w hSw; (try dsimp only at hSw); go_simp)
    all_goals with_reducible rfl
  try simp only [Act.put, pL]
  refine tk 3 ?_ rfl (by kernel_rfl) (fun _ _ _ => id) (by rfl) (by assumption) ?_ ?_
  rotate_left
  · (intro w hSw; (try dsimp only at hSw); go_simp)
    all_goals with_reducible rfl
  try simp only [Act.put, pL]
  refine tk 4 ?_ rfl (by kernel_rfl) (fun _ _ _ => id) (by rfl) (by assumption) ?_ ?_
  rotate_left
  · (intro w hSw; (try dsimp only at hSw); go_simp)
    all_goals with_reducible rfl
  try simp only [Act.put, pL]
  refine tk 5 ?_ rfl (by kernel_rfl) (fun _ _ _ => id) (by rfl) (by assumption) ?_ ?_
  rotate_left
  · (intro w hSw; (try dsimp only at hSw); go_simp)
    all_goals with_reducible rfl
  try simp only [Act.put, pL]
  refine tk 6 ?_ rfl (by kernel_rfl) (fun _ _ _ => id) (by rfl) (by assumption) ?_ ?_
  rotate_left
  · (intro w hSw; (try dsimp only at hSw); go_simp)
    all_goals with_reducible rfl
  try simp only [Act.put, pL]
  refine tk 7 ?_ rfl (by kernel_rfl) (fun _ _ _ => id) (by rfl) (by assumption) ?_ ?_
  rotate_left
  · (intro w hSw; (try dsimp only at hSw); go_simp)
    all_goals with_reducible rfl
  try simp only [Act.put, pL]
  refine tk 8 ?_ rfl (by kernel_rfl) (fun _ _ _ => id) (by rfl) (by assumption) ?_ ?_
  rotate_left
  · (intro w hSw; (try dsimp only at hSw); go_simp)
    all_goals with_reducible rfl
  try simp only [Act.put, pL]
  refine tk 9 ?_ rfl (by kernel_rfl) (fun _ _ _ => id) (by rfl) (by assumption) ?_ ?_
  rotate_left
  · (intro w hSw; (try dsimp only at hSw); go_simp)
    all_goals with_reducible rfl
  try simp only [Act.put, pL]
  refine tk 10 ?_ rfl (by kernel_rfl) (fun _ _ _ => id) (by rfl) (by assumption) ?_ ?_
  rotate_left
  · (intro w hSw; (try dsimp only at hSw); go_simp)
    all_goals with_reducible rfl
  try simp only [Act.put, pL]
  refine tk 11 ?_ rfl (by kernel_rfl) (fun _ _ _ => id) (by rfl) (by assumption) ?_ ?_
  rotate_left
  · (intro w hSw; (try dsimp only at hSw); go_simp)
    all_goals with_reducible rfl
  try simp only [Act.put, pL]
  refine tk 12 ?_ rfl (by kernel_rfl) (fun _ _ _ => id) (by rfl) (by assumption) ?_ ?_
  rotate_left
  · (intro w hSw; (try dsimp only at hSw); go_simp)
    all_goals with_reducible rfl
  try simp only [Act.put, pL]
  refine tk 13 ?_ rfl (by kernel_rfl) (fun _ _ _ => id) (by rfl) (by assumption) ?_ ?_
  rotate_left
  · (intro w hSw; (try dsimp only at hSw); go_simp)
    all_goals with_reducible rfl
  try simp only [Act.put, pL]
  refine tk 14 ?_ rfl (by kernel_rfl) (fun _ _ _ => id) (by rfl) (by assumption) ?_ ?_
  rotate_left
  · (intro w hSw; (try dsimp only at hSw); go_simp)
    all_goals with_reducible rfl
  try simp only [Act.put, pL]
  refine tk 15 ?_ rfl (by kernel_rfl) (fun _ _ _ => id) (by rfl) (by assumption) ?_ ?_
  rotate_left
  · (intro w hSw; (try dsimp only at hSw); go_simp)
    all_goals with_reducible rfl
  try simp only [Act.put, pL]
  refine tk 16 ?_ rfl (by kernel_rfl) (fun _ _ _ => id) (by rfl) (by assumption) ?_ ?_
  rotate_left
  · (intro w hSw; (try dsimp only at hSw); go_simp)
    all_goals with_reducible rfl
  try simp only [Act.put, pL]
  refine tk 17 ?_ rfl (by kernel_rfl) (fun _ _ _ => id) (by rfl) (by assumption) ?_ ?_
  rotate_left
  · (intro w hSw; (try dsimp only at hSw); go_simp)
    all_goals with_reducible rfl
  try simp only [Act.put, pL]
  refine tk 18 ?_ rfl (by kernel_rfl) (fun _ _ _ => id) (by rfl) (by assumption) ?_ ?_
  rotate_left
  · (intro w hSw; (try dsimp only at hSw); go_simp)
    all_goals with_reducible rfl
  try simp only [Act.put, pL]
  refine tk 19 ?_ rfl (by kernel_rfl) (fun _ _ _ => id) (by rfl) (by assumption) ?_ ?_
  rotate_left
  · (intro w hSw; (try dsimp only at hSw); go_simp)
    all_goals with_reducible rfl
  try simp only [Act.put, pL]
  refine tk 20 ?_ rfl (by kernel_rfl) (fun _ _ _ => id) (by rfl) (by assumption) ?_ ?_
  rotate_left
  · (intro w hSw; (try dsimp only at hSw); go_simp)
    all_goals with_reducible rfl
  try simp only [Act.put, pL]
  refine tk 21 ?_ rfl (by kernel_rfl) (fun _ _ _ => id) (by rfl) (by assumption) ?_ ?_
  rotate_left
  · (intro w hSw; (try dsimp only at hSw); go_simp)
    all_goals with_reducible rfl
  try simp only [Act.put, pL]
  refine tk 22 ?_ rfl (by kernel_rfl) (fun _ _ _ => id) (by rfl) (by assumption) ?_ ?_
  rotate_left
  · (intro w hSw; (try dsimp only at hSw); go_simp)
    all_goals with_reducible rfl
  try simp only [Act.put, pL]
  refine tk 23 ?_ rfl (by kernel_rfl) (fun _ _ _ => id) (by rfl) (by assumption) ?_ ?_
  rotate_left
  · (intro w hSw; (try dsimp only at hSw); go_simp)
    all_goals with_reducible rfl
  try simp only [Act.put, pL]
  refine tk 24 ?_ rfl (by kernel_rfl) (fun _ _ _ => id) (by rfl) (by assumption) ?_ ?_
  rotate_left
  · (intro w hSw; (try dsimp only at hSw); go_simp)
    all_goals with_reducible rfl
  try simp only [Act.put, pL]
  refine tk 25 ?_ rfl (by kernel_rfl) (fun _ _ _ => id) (by rfl) (by assumption) ?_ ?_
  rotate_left
  · (intro w hSw; (try dsimp only at hSw); go_simp)
    all_goals with_reducible rfl
  try simp only [Act.put, pL]
  refine tk 27 ?_ rfl (by kernel_rfl) (fun _ _ _ => id) (by rfl) (by assumption) ?_ ?_
  rotate_left
  · (intro w hSw; (try dsimp only at hSw); go_simp)
    all_goals with_reducible rfl
  try simp only [Act.put, pL]
  refine tk 28 ?_ rfl (by kernel_rfl) (fun _ _ _ => id) (by rfl) (by assumption) ?_ ?_
  rotate_left
  · (intro w hSw; (try dsimp only at hSw); go_simp)
    all_goals with_reducible rfl
  try simp only [Act.put, pL]
  refine wpAnyH_ready (rs := [26]) (by kernel_rfl) (by simp) ?_
  refine AllReadyH.cons rfl (fun K hK => ?_) AllReadyH.nil
  go_simp
  (first
      | (go_at_call 16; refine (HXC.out _ _ _ _ _ (by first | exact (Dn.refl _).drew | exact (‹Dn w8 _ ∧ _› : _ ∧ _).1 | exact And.left (by assumption)) (by first | exact Or.inl ⟨rfl, rfl, rfl, rfl⟩ | exact Or.inr ⟨rfl, rfl, rfl, rfl⟩)).mono ?_; rintro e wa ⟨rfl, qa⟩)
      | (go_at_call 9; refine (lives10 _ (HE.out.dn (by first | exact (Dn.refl _).drew | exact (‹Dn w8 _ ∧ _› : _ ∧ _).1 | exact And.left (by assumption)))).mono ?_; rintro e wa ⟨rfl, qa⟩))
  try go_wp2_with fail
  refine hK.out _ _ ?_ (fun hHeld => ?_)
  · (try dsimp only); (first | exact kdTF_12 ((Dn.refl _).drew) hS121 | exact kdTF_12 ‹Dn _ _› ‹_› | exact kdTF_12 (Up.dn ‹Up _ _›) ‹_› | assumption | exact kdTF_12 ((Dn.refl _).alloc _) ‹_›)
  clear hK K
  try simp only [Act.put, pL]
  refine wpAnyH_ready (rs := [29]) (by kernel_rfl) (by simp) ?_
  refine AllReadyH.cons rfl (fun K hK => ?_) AllReadyH.nil
  go_simp
  (first
      | (go_at_call 16; refine (HXC.out _ _ _ _ _ (by first | exact (Dn.refl _).drew | exact (‹Dn w8 _ ∧ _› : _ ∧ _).1 | exact And.left (by assumption)) (by first | exact Or.inl ⟨rfl, rfl, rfl, rfl⟩ | exact Or.inr ⟨rfl, rfl, rfl, rfl⟩)).mono ?_; rintro e wa ⟨rfl, qa⟩)
      | (go_at_call 9; refine (lives10 _ (HE.out.dn (by first | exact (Dn.refl _).drew | exact (‹Dn w8 _ ∧ _› : _ ∧ _).1 | exact And.left (by assumption)))).mono ?_; rintro e wa ⟨rfl, qa⟩))
  try go_wp2_with fail
  refine hK.out _ _ ?_ (fun hHeld => ?_)
  · (try dsimp only); (first | exact kdTF_12 ((Dn.refl _).drew) hS121 | exact kdTF_12 ‹Dn _ _› ‹_› | exact kdTF_12 (Up.dn ‹Up _ _›) ‹_› | assumption | exact kdTF_12 ((Dn.refl _).alloc _) ‹_›)
  clear hK K
  try simp only [Act.put, pL]
  refine tk 30 ?_ rfl (by kernel_rfl) (fun _ _ _ => id) (by rfl) (by assumption) ?_ ?_
  rotate_left
  · (intro w hSw; (try dsimp only at hSw); go_simp)
    all_goals with_reducible rfl
  try simp only [Act.put, pL]
  refine tk 31 ?_ rfl (by kernel_rfl) (fun _ _ _ => id) (by rfl) (by assumption) ?_ ?_
  rotate_left
  · (intro w hSw; (try dsimp only at hSw); go_simp)
    all_goals with_reducible rfl
  try simp only [Act.put, pL]
  refine tk 32 ?_ rfl (by kernel_rfl) (fun _ _ _ => id) (by rfl) (by assumption) ?_ ?_
  rotate_left
  · (intro w hSw; (try dsimp only at hSw); go_simp)
    all_goals with_reducible rfl
  try simp only [Act.put, pL]
  refine wpAnyH_ready (rs := [33]) (by kernel_rfl) (by simp) ?_
  refine AllReadyH.cons rfl (fun K hK => ?_) AllReadyH.nil
  go_simp
  (first
      | (go_at_call 16; refine (HXC.out _ _ _ _ _ (by first | exact (Dn.refl _).drew | exact (‹Dn w8 _ ∧ _› : _ ∧ _).1 | exact And.left (by assumption)) (by first | exact Or.inl ⟨rfl, rfl, rfl, rfl⟩ | exact Or.inr ⟨rfl, rfl, rfl, rfl⟩)).mono ?_; rintro e wa ⟨rfl, qa⟩)
      | (go_at_call 9; refine (lives10 _ (HE.out.dn (by first | exact (Dn.refl _).drew | exact (‹Dn w8 _ ∧ _› : _ ∧ _).1 | exact And.left (by assumption)))).mono ?_; rintro e wa ⟨rfl, qa⟩))
  try go_wp2_with fail
  refine hK.out _ _ ?_ (fun hHeld => ?_)
  · (try dsimp only); (first | exact kdTF_12 ((Dn.refl _).drew) hS121 | exact kdTF_12 ‹Dn _ _› ‹_› | exact kdTF_12 (Up.dn ‹Up _ _›) ‹_› | assumption | exact kdTF_12 ((Dn.refl _).alloc _) ‹_›)
  clear hK K
  try simp only [Act.put, pL]
  refine tk 34 ?_ rfl (by kernel_rfl) (fun _ _ _ => id) (by rfl) (by assumption) ?_ ?_
  rotate_left
  · (intro w hSw; (try dsimp only at hSw); go_simp)
    all_goals with_reducible rfl
  try simp only [Act.put, pL]
  refine tk 35 ?_ rfl (by kernel_rfl) (fun _ _ _ => id) (by rfl) (by assumption) ?_ ?_
  rotate_left
  · (intro w hSw; (try dsimp only at hSw); go_simp)
    all_goals with_reducible rfl
  try simp only [Act.put, pL]
  refine wpAnyH_done (by kernel_rfl) ?_ _
  all_goals skip
  all_goals
    clear hS121
    obtain ⟨uf134, d9, dA, dB, dC, dD, dE, dF, dG, dH, dI, dJ, dK⟩ := (‹Dn w8 _ ∧ _› : _ ∧ _)
    obtain ⟨w135, rfl⟩ : ∃ w135 : World, w135 = wa := ⟨_, rfl⟩
    have dL := nlt cT uf134.size
    clear cT
    have dM := nlt cY uf134.size
    clear cY
    have dN := nlt d3 uf134.size
    clear d3
    have dO := nlt d6 uf134.size
    clear d6
    have vuf134 := uw8.trans uf134
    clear uf134 uw8 HShS121
    go_wp2_with fail
    go_ret
    exact ⟨rfl, vuf134⟩
theorem one_ok_false (g o k ca : Nat) (x z : Rq) (day n en : Int) (R : List Rq) (w : World) (h1 : k ≤ 19) (hg : g < w.heap.size) (hx : El w g o 0 x) (hz : El w g o k z) (FK : Hid (∀ W, Dn w W → Calls Tryz.prog 15 #[.slice (some ⟨g, o, none⟩) (k + 1) ca] W fun ro w' => ro = .returned (.int .i64 0) ∧ Dn W w')) (HC : Hid (∀ W, Dn w W → Calls Tryz.prog 17 #[.slice (some ⟨g, o, none⟩) (k + 1) ca] W fun ro w' => ∃ p', ro = .returned (.tuple #[.slice p' R.length R.length, .int .i64 0]) ∧ Row w' p' R ∧ Dn W w')) (FC : Hid (∀ W, Dn w W → Calls Tryz.prog 18 #[.slice (some ⟨g, o, none⟩) (k + 1) ca] W fun ro w' => ∃ p' cap', ro = .returned (.tuple #[.slice p' R.length cap', .int .i64 0]) ∧ Row w' p' R ∧ Dn W w')) (HN : Hid (∀ W, Dn w W → Calls Tryz.prog 19 #[.slice (some ⟨g, o, none⟩) (k + 1) ca] W fun ro w' => ro = .returned (.tuple #[.int .i64 n, .int .i64 en]) ∧ Dn W w')) (FN : Hid (∀ W, Dn w W → Calls Tryz.prog 20 #[.slice (some ⟨g, o, none⟩) (k + 1) ca] W fun ro w' => ro = .returned (.tuple #[.int .i64 n, .int .i64 en]) ∧ Dn W w')) (HM : Hid (∀ W, Dn w W → Calls Tryz.prog 21 #[.slice (some ⟨g, o, none⟩) (k + 1) ca] W fun ro w' => ro = .returned (.tuple #[.agg #[.int .i8 x.a, .int .i64 x.b], .int .i64 0]) ∧ Dn W w')) (HX : Hid (∀ W, Dn w W → Calls Tryz.prog 22 #[.slice (some ⟨g, o, none⟩) (k + 1) ca] W fun ro w' => ro = .returned (.tuple #[.agg #[.int .i8 z.c, .int .i64 z.d], .int .i64 0]) ∧ Dn W w')) (GC : Hid (∀ W p1 p2 c2, Row W p1 R → Row W p2 R → Calls Tryz.prog 13 #[.slice p1 R.length R.length, .int .i64 0, .slice p2 R.length c2, .int .i64 0] W fun ro w' => ro = .returned (.bool true) ∧ Dn W w')) (XR : Hid (∀ W p1, Row W p1 R → Calls Tryz.prog 16 #[.slice p1 R.length R.length, .int .i64 day] W fun ro w' => ro = .returned (.bool true) ∧ Dn W w')) (XL : Hid (∀ W, Dn w W → Calls Tryz.prog 16 #[.slice (some ⟨g, o, none⟩) (k + 1) ca, .int .i64 day] W fun ro w' => ro = .returned (.bool false) ∧ Dn W w')) (hE : EnvR w) :
    Calls Tryz.prog 4 #[.slice (some ⟨g, o, none⟩) (k + 1) ca, .int .i64 day] w fun ro w' => ro = .returned (.bool true) ∧ Dn w w' := by
  have e1 : decide ((k : Int) + 1 > 20) = false := by simp; omega
  have e2 : ¬ (20 : Int) < (k : Int) + 1 := by omega
  have e5 : (n != n) = false := by simp
  have e6 : (en != en) = false := by simp
  have e9 : (((k : Int) + 1) == 0) = false := by simp; omega
  have e10 : decide ((k : Int) + 1 = 0) = false := by simp; omega
  have e11 : (k : Int) < (k : Int) + 1 := by omega
  have e12 : (0 : Int) < (k : Int) + 1 := by omega
  have e13 : IntKind.i64.wrap (k : Int) = k := IntWalk.i64_in _ (by omega)
  have e15 : k < k + 1 := by omega
  have e16 : IntKind.i64.wrap 0 = 0 := by decide
  obtain ⟨x0, x1, x2, x3⟩ := hx
  obtain ⟨z0, z1, z2, z3⟩ := hz
  have xl := hg
  have zl := hg
  simp only [Nat.zero_mul, Nat.add_zero] at x0 x1 x2 x3
  clear h1 hg
  go_enter Tryz.func4, Tryz.ntmps4
  go_wp2_with fail
  refine (FK.out _ (Dn.refl _)).mono ?_
  rintro e w1 ⟨rfl, qw1⟩
  have l1 := nlt xl qw1.size
  have l6 := nlt zl qw1.size
  obtain ⟨c2, c3, c4, c5, c7, c8, c9, a0⟩ := mv8 qw1.cell x0 x1 x2 x3 z0 z1 z2 z3
  clear xl x0 x1 x2 x3 zl z0 z1 z2 z3
  have uw1 := qw1
  clear qw1
  go_wp2_with fail
  refine (HC.out _ uw1).mono ?_
  rintro e w2 ⟨pc, rfl, rc, qw2⟩
  have a1 := nlt l1 qw2.size
  have a6 := nlt l6 qw2.size
  obtain ⟨a2, a3, a4, a5, a7, a8, a9, aA⟩ := mv8 qw2.cell c2 c3 c4 c5 c7 c8 c9 a0
  clear l1 c2 c3 c4 c5 l6 c7 c8 c9 a0
  have uw2 := uw1.trans qw2
  clear qw2 uw1
  go_wp2_with fail
  refine (FC.out _ uw2).mono ?_
  rintro e w3 ⟨pf, cf, rfl, rf, qw3⟩
  replace rc := rc.dn qw3
  have aB := nlt a1 qw3.size
  have aG := nlt a6 qw3.size
  obtain ⟨aC, aD, aE, aF, aH, aI, aJ, aK⟩ := mv8 qw3.cell a2 a3 a4 a5 a7 a8 a9 aA
  clear a1 a2 a3 a4 a5 a6 a7 a8 a9 aA
  have uw3 := uw2.trans qw3
  clear qw3 uw2
  go_wp2_with fail
  refine (HN.out _ uw3).mono ?_
  rintro e w4 ⟨rfl, qw4⟩
  replace rc := rc.dn qw4
  replace rf := rf.dn qw4
  have aL := nlt aB qw4.size
  have aQ := nlt aG qw4.size
  obtain ⟨aM, aN, aO, aP, aR, aS, aT, aU⟩ := mv8 qw4.cell aC aD aE aF aH aI aJ aK
  clear aB aC aD aE aF aG aH aI aJ aK
  have uw4 := uw3.trans qw4
  clear qw4 uw3
  go_wp2_with fail
  refine (FN.out _ uw4).mono ?_
  rintro e w5 ⟨rfl, qw5⟩
  replace rc := rc.dn qw5
  replace rf := rf.dn qw5
  have aV := nlt aL qw5.size
  have b0 := nlt aQ qw5.size
  obtain ⟨aW, aX, aY, aZ, b1, b2, b3, b4⟩ := mv8 qw5.cell aM aN aO aP aR aS aT aU
  clear aL aM aN aO aP aQ aR aS aT aU
  have uw5 := uw4.trans qw5
  clear qw5 uw4
  go_wp2_with fail
  refine (HM.out _ uw5).mono ?_
  rintro e w6 ⟨rfl, qw6⟩
  replace rc := rc.dn qw6
  replace rf := rf.dn qw6
  have b5 := nlt aV qw6.size
  have bA := nlt b0 qw6.size
  obtain ⟨b6, b7, b8, b9, bB, bC, bD, bE⟩ := mv8 qw6.cell aW aX aY aZ b1 b2 b3 b4
  clear aV aW aX aY aZ b0 b1 b2 b3 b4
  have uw6 := uw5.trans qw6
  clear qw6 uw5
  go_wp2_with fail
  obtain ⟨W61, hW61⟩ : ∃ W61, W61 = w6.alloc (.cells #[.int .i8 x.a, .int .i64 x.b] 41) := ⟨_, rfl⟩
  have uW61 : Dn w6 W61 := by rw [hW61]; exact (Dn.refl _).alloc _
  replace rc := rc.dn uW61
  replace rf := rf.dn uW61
  have bF := nlt b5 uW61.size
  have bK := nlt bA uW61.size
  obtain ⟨bG, bH, bI, bJ, bL, bM, bN, bO⟩ := mv8 uW61.cell b6 b7 b8 b9 bB bC bD bE
  clear b5 b6 b7 b8 b9 bA bB bC bD bE
  have bP : W61.cell? ⟨w6.heap.size, 0, none⟩ = some (.int .i8 x.a) := by rw [hW61]; simp [go_sem]
  have bQ : W61.cell? ⟨w6.heap.size, 1, none⟩ = some (.int .i64 x.b) := by rw [hW61]; simp [go_sem]
  have bR : w6.heap.size < W61.heap.size := by rw [hW61]; simp <;> omega
  rw [← hW61]
  clear hW61
  have vW61 := uw6.trans uW61
  clear uW61 uw6
  refine (HX.out _ vW61).mono ?_
  rintro e w7 ⟨rfl, qw7⟩
  replace rc := rc.dn qw7
  replace rf := rf.dn qw7
  have bS := nlt bF qw7.size
  have bX := nlt bK qw7.size
  have c6 := nlt bR qw7.size
  obtain ⟨bT, bU, bV, bW, bY, bZ, c0, c1, cA, cB⟩ := mv10 qw7.cell bG bH bI bJ bL bM bN bO bP bQ
  clear bF bG bH bI bJ bK bL bM bN bO bR bP bQ
  have uw7 := vW61.trans qw7
  clear qw7 vW61
  go_wp2_with fail
  obtain ⟨W88, hW88⟩ : ∃ W88, W88 = w7.alloc (.cells #[.int .i8 z.c, .int .i64 z.d] 41) := ⟨_, rfl⟩
  have uW88 : Dn w7 W88 := by rw [hW88]; exact (Dn.refl _).alloc _
  replace rc := rc.dn uW88
  replace rf := rf.dn uW88
  have cC := nlt bS uW88.size
  have cI := nlt bX uW88.size
  have cN := nlt c6 uW88.size
  obtain ⟨cE, cF, cG, cH, cJ, cK, cL, cM, cO, cP⟩ := mv10 uW88.cell bT bU bV bW bY bZ c0 c1 cA cB
  clear bS bT bU bV bW bX bY bZ c0 c1 c6 cA cB
  have cQ : W88.cell? ⟨w7.heap.size, 0, none⟩ = some (.int .i8 z.c) := by rw [hW88]; simp [go_sem]
  have cR : W88.cell? ⟨w7.heap.size, 1, none⟩ = some (.int .i64 z.d) := by rw [hW88]; simp [go_sem]
  have cS : w7.heap.size < W88.heap.size := by rw [hW88]; simp <;> omega
  rw [← hW88]
  clear hW88
  have vW88 := uw7.trans uW88
  clear uW88 uw7
  refine (GC.out _ _ _ _ rc rf).mono ?_
  rintro e w8 ⟨rfl, qw8⟩
  replace rc := rc.dn qw8
  replace rf := rf.dn qw8
  have cT := nlt cC qw8.size
  have cY := nlt cI qw8.size
  have d3 := nlt cN qw8.size
  have d6 := nlt cS qw8.size
  obtain ⟨cU, cV, cW, cX, cZ, d0, d1, d2, d4, d5, d7, d8⟩ := mv12 qw8.cell cE cF cG cH cJ cK cL cM cO cP cQ cR
  clear cC cE cF cG cH cI cJ cK cL cM cN cO cP cS cQ cR
  have uw8 := vW88.trans qw8
  clear qw8 vW88
  go_wp2_with fail
  have HXC := Lib.hid (fun W X m cap t (q : Dn w8 W) (h : (X = pc ∧ m = R.length ∧ cap = R.length ∧ t = true) ∨ (X = some ⟨g, o, none⟩ ∧ m = k + 1 ∧ cap = ca ∧ t = false)) => has_two (XR.out W pc (rc.dn q)) (XL.out W (uw8.trans q)) h)
  have HE := Lib.hid (hE.dn uw8)
  clear rc rf
  have hS121 := kdTF_12 (W := w8) (Dn.refl _) ⟨Dn.refl _, cU, cV, cW, cX, cZ, d0, d1, d2, d4, d5, d7, d8⟩
  have HShS121 := Lib.hid hS121
  clear cU cV cW cX cZ d0 d1 d2 d4 d5 d7 d8
  refine wp_region_held_drew (S := fun w' => Dn w8 w' ∧ w'.cell? ⟨g, o, none⟩ = some (.int .i8 x.a) ∧ w'.cell? ⟨g, o + 1, none⟩ = some (.int .i64 x.b) ∧ w'.cell? ⟨g, o + 2, none⟩ = some (.int .i8 x.c) ∧ w'.cell? ⟨g, o + 3, none⟩ = some (.int .i64 x.d) ∧ w'.cell? ⟨g, o + k * 4, none⟩ = some (.int .i8 z.a) ∧ w'.cell? ⟨g, o + k * 4 + 1, none⟩ = some (.int .i64 z.b) ∧ w'.cell? ⟨g, o + k * 4 + 2, none⟩ = some (.int .i8 z.c) ∧ w'.cell? ⟨g, o + k * 4 + 3, none⟩ = some (.int .i64 z.d) ∧ w'.cell? ⟨w6.heap.size, 0, none⟩ = some (.int .i8 x.a) ∧ w'.cell? ⟨w6.heap.size, 1, none⟩ = some (.int .i64 x.b) ∧ w'.cell? ⟨w7.heap.size, 0, none⟩ = some (.int .i8 z.c) ∧ w'.cell? ⟨w7.heap.size, 1, none⟩ = some (.int .i64 z.d)) (by kernel_rfl) ?_ (fun hHeld => ?_)
  · (try dsimp only); (first | exact kdTF_12 ((Dn.refl _).drew) hS121 | exact kdTF_12 ‹Dn _ _› ‹_› | exact kdTF_12 (Up.dn ‹Up _ _›) ‹_› | assumption | exact kdTF_12 ((Dn.refl _).alloc _) ‹_›)
  refine tk 0 ?_ rfl (by kernel_rfl) (fun _ _ _ => id) (by rfl) (by assumption) ?_ ?_
  rotate_left
  · (intro w hSw; (try dsimp only at hSw); go_simp)
    all_goals with_reducible rfl
  try simp only [Act.put, pL]
  refine tk 1 ?_ rfl (by kernel_rfl) (fun _ _ _ => id) (by rfl) (by assumption) ?_ ?_
  rotate_left
  · (intro w hSw; (try dsimp only at hSw); go_simp)
    all_goals with_reducible rfl
  try simp only [Act.put, pL]
  refine tk 2 ?_ rfl (by kernel_rfl) (fun _ _ _ => id) (by rfl) (by assumption) ?_ ?_
  rotate_left
  · (intro w hSw; (try dsimp only at hSw); go_simp)
    all_goals with_reducible rfl
  try simp only [Act.put, pL]
  refine tk 3 ?_ rfl (by kernel_rfl) (fun _ _ _ => id) (by rfl) (by assumption) ?_ ?_
  rotate_left
  · (intro w hSw; (try dsimp only at hSw); go_simp)
    all_goals with_reducible rfl
  try simp only [Act.put, pL]
  refine tk 4 ?_ rfl (by kernel_rfl) (fun _ _ _ => id) (by rfl) (by assumption) ?_ ?_
  rotate_left
  · (intro w hSw; (try dsimp only at hSw); go_simp)
    all_goals with_reducible rfl
  try simp only [Act.put, pL]
  refine tk 5 ?_ rfl (by kernel_rfl) (fun _ _ _ => id) (by rfl) (by assumption) ?_ ?_
  rotate_left
  · (intro w hSw; (try dsimp only at hSw); go_simp)
    all_goals with_reducible rfl
  try simp only [Act.put, pL]
  refine tk 6 ?_ rfl (by kernel_rfl) (fun _ _ _ => id) (by rfl) (by assumption) ?_ ?_
  rotate_left
  · (intro w hSw; (try dsimp only at hSw); go_simp)
    all_goals with_reducible rfl
  try simp only [Act.put, pL]
  refine tk 7 ?_ rfl (by kernel_rfl) (fun _ _ _ => id) (by rfl) (by assumption) ?_ ?_
  rotate_left
  · (intro w hSw; (try dsimp only at hSw); go_simp)
    all_goals with_reducible rfl
  try simp only [Act.put, pL]
  refine tk 8 ?_ rfl (by kernel_rfl) (fun _ _ _ => id) (by rfl) (by assumption) ?_ ?_
  rotate_left
  · (intro w hSw; (try dsimp only at hSw); go_simp)
    all_goals with_reducible rfl
  try simp only [Act.put, pL]
  refine tk 9 ?_ rfl (by kernel_rfl) (fun _ _ _ => id) (by rfl) (by assumption) ?_ ?_
  rotate_left
  · (intro w hSw; (try dsimp only at hSw); go_simp)
    all_goals with_reducible rfl
  try simp only [Act.put, pL]
  refine tk 10 ?_ rfl (by kernel_rfl) (fun _ _ _ => id) (by rfl) (by assumption) ?_ ?_
  rotate_left
  · (intro w hSw; (try dsimp only at hSw); go_simp)
    all_goals with_reducible rfl
  try simp only [Act.put, pL]
  refine tk 11 ?_ rfl (by kernel_rfl) (fun _ _ _ => id) (by rfl) (by assumption) ?_ ?_
  rotate_left
  · (intro w hSw; (try dsimp only at hSw); go_simp)
    all_goals with_reducible rfl
  try simp only [Act.put, pL]
  refine tk 12 ?_ rfl (by kernel_rfl) (fun _ _ _ => id) (by rfl) (by assumption) ?_ ?_
  rotate_left
  · (intro w hSw; (try dsimp only at hSw); go_simp)
    all_goals with_reducible rfl
  try simp only [Act.put, pL]
  refine tk 13 ?_ rfl (by kernel_rfl) (fun _ _ _ => id) (by rfl) (by assumption) ?_ ?_
  rotate_left
  · (intro w hSw; (try dsimp only at hSw); go_simp)
    all_goals with_reducible rfl
  try simp only [Act.put, pL]
  refine tk 14 ?_ rfl (by kernel_rfl) (fun _ _ _ => id) (by rfl) (by assumption) ?_ ?_
  rotate_left
  · (intro w hSw; (try dsimp only at hSw); go_simp)
    all_goals with_reducible rfl
  try simp only [Act.put, pL]
  refine tk 15 ?_ rfl (by kernel_rfl) (fun _ _ _ => id) (by rfl) (by assumption) ?_ ?_
  rotate_left
  · (intro w hSw; (try dsimp only at hSw); go_simp)
    all_goals with_reducible rfl
  try simp only [Act.put, pL]
  refine tk 16 ?_ rfl (by kernel_rfl) (fun _ _ _ => id) (by rfl) (by assumption) ?_ ?_
  rotate_left
  · (intro w hSw; (try dsimp only at hSw); go_simp)
    all_goals with_reducible rfl
  try simp only [Act.put, pL]
  refine tk 17 ?_ rfl (by kernel_rfl) (fun _ _ _ => id) (by rfl) (by assumption) ?_ ?_
  rotate_left
  · (intro w hSw; (try dsimp only at hSw); go_simp)
    all_goals with_reducible rfl
  try simp only [Act.put, pL]
  refine tk 18 ?_ rfl (by kernel_rfl) (fun _ _ _ => id) (by rfl) (by assumption) ?_ ?_
  rotate_left
  · (intro w hSw; (try dsimp only at hSw); go_simp)
    all_goals with_reducible rfl
  try simp only [Act.put, pL]
  refine tk 19 ?_ rfl (by kernel_rfl) (fun _ _ _ => id) (by rfl) (by assumption) ?_ ?_
  rotate_left
  · (intro w hSw; (try dsimp only at hSw); go_simp)
    all_goals with_reducible rfl
  try simp only [Act.put, pL]
  refine tk 20 ?_ rfl (by kernel_rfl) (fun _ _ _ => id) (by rfl) (by assumption) ?_ ?_
  rotate_left
  · (intro w hSw; (try dsimp only at hSw); go_simp)
    all_goals with_reducible rfl
  try simp only [Act.put, pL]
  refine tk 21 ?_ rfl (by kernel_rfl) (fun _ _ _ => id) (by rfl) (by assumption) ?_ ?_
  rotate_left
  · (intro w hSw; (try dsimp only at hSw); go_simp)
    all_goals with_reducible rfl
  try simp only [Act.put, pL]
  refine tk 22 ?_ rfl (by kernel_rfl) (fun _ _ _ => id) (by rfl) (by assumption) ?_ ?_
  rotate_left
  · (intro w hSw; (try dsimp only at hSw); go_simp)
    all_goals with_reducible rfl
  try simp only [Act.put, pL]
  refine tk 23 ?_ rfl (by kernel_rfl) (fun _ _ _ => id) (by rfl) (by assumption) ?_ ?_
  rotate_left
  · (intro w hSw; (try dsimp only at hSw); go_simp)
    all_goals with_reducible rfl
  try simp only [Act.put, pL]
  refine tk 24 ?_ rfl (by kernel_rfl) (fun _ _ _ => id) (by rfl) (by assumption) ?_ ?_
  rotate_left
  · (intro w hSw; (try dsimp only at hSw); go_simp)
    all_goals with_reducible rfl
  try simp only [Act.put, pL]
  refine tk 25 ?_ rfl (by kernel_rfl) (fun _ _ _ => id) (by rfl) (by assumption) ?_ ?_
  rotate_left
  · (intro w hSw; (try dsimp only at hSw); go_simp)
    all_goals with_reducible rfl
  try simp only [Act.put, pL]
  refine tk 27 ?_ rfl (by kernel_rfl) (fun _ _ _ => id) (by rfl) (by assumption) ?_ ?_
  rotate_left
  · (intro w hSw; (try dsimp only at hSw); go_simp)
    all_goals with_reducible rfl
  try simp only [Act.put, pL]
  refine tk 28 ?_ rfl (by kernel_rfl) (fun _ _ _ => id) (by rfl) (by assumption) ?_ ?_
  rotate_left
  · (intro w hSw; (try dsimp only at hSw); go_simp)
    all_goals with_reducible rfl
  try simp only [Act.put, pL]
  refine wpAnyH_ready (rs := [26]) (by kernel_rfl) (by simp) ?_
  refine AllReadyH.cons rfl (fun K hK => ?_) AllReadyH.nil
  go_simp
  (first
      | (go_at_call 16; refine (HXC.out _ _ _ _ _ (by first | exact (Dn.refl _).drew | exact (‹Dn w8 _ ∧ _› : _ ∧ _).1 | exact And.left (by assumption)) (by first | exact Or.inl ⟨rfl, rfl, rfl, rfl⟩ | exact Or.inr ⟨rfl, rfl, rfl, rfl⟩)).mono ?_; rintro e wa ⟨rfl, qa⟩)
      | (go_at_call 9; refine (lives10 _ (HE.out.dn (by first | exact (Dn.refl _).drew | exact (‹Dn w8 _ ∧ _› : _ ∧ _).1 | exact And.left (by assumption)))).mono ?_; rintro e wa ⟨rfl, qa⟩))
  try go_wp2_with fail
  refine hK.out _ _ ?_ (fun hHeld => ?_)
  · (try dsimp only); (first | exact kdTF_12 ((Dn.refl _).drew) hS121 | exact kdTF_12 ‹Dn _ _› ‹_› | exact kdTF_12 (Up.dn ‹Up _ _›) ‹_› | assumption | exact kdTF_12 ((Dn.refl _).alloc _) ‹_›)
  clear hK K
  try simp only [Act.put, pL]
  refine wpAnyH_ready (rs := [29]) (by kernel_rfl) (by simp) ?_
  refine AllReadyH.cons rfl (fun K hK => ?_) AllReadyH.nil
  go_simp
  (first
      | (go_at_call 16; refine (HXC.out _ _ _ _ _ (by first | exact (Dn.refl _).drew | exact (‹Dn w8 _ ∧ _› : _ ∧ _).1 | exact And.left (by assumption)) (by first | exact Or.inl ⟨rfl, rfl, rfl, rfl⟩ | exact Or.inr ⟨rfl, rfl, rfl, rfl⟩)).mono ?_; rintro e wa ⟨rfl, qa⟩)
      | (go_at_call 9; refine (lives10 _ (HE.out.dn (by first | exact (Dn.refl _).drew | exact (‹Dn w8 _ ∧ _› : _ ∧ _).1 | exact And.left (by assumption)))).mono ?_; rintro e wa ⟨rfl, qa⟩))
  try go_wp2_with fail
  refine hK.out _ _ ?_ (fun hHeld => ?_)
  · (try dsimp only); (first | exact kdTF_12 ((Dn.refl _).drew) hS121 | exact kdTF_12 ‹Dn _ _› ‹_› | exact kdTF_12 (Up.dn ‹Up _ _›) ‹_› | assumption | exact kdTF_12 ((Dn.refl _).alloc _) ‹_›)
  clear hK K
  try simp only [Act.put, pL]
  refine tk 30 ?_ rfl (by kernel_rfl) (fun _ _ _ => id) (by rfl) (by assumption) ?_ ?_
  rotate_left
  · (intro w hSw; (try dsimp only at hSw); go_simp)
    all_goals with_reducible rfl
  try simp only [Act.put, pL]
  refine tk 31 ?_ rfl (by kernel_rfl) (fun _ _ _ => id) (by rfl) (by assumption) ?_ ?_
  rotate_left
  · (intro w hSw; (try dsimp only at hSw); go_simp)
    all_goals with_reducible rfl
  try simp only [Act.put, pL]
  refine tk 32 ?_ rfl (by kernel_rfl) (fun _ _ _ => id) (by rfl) (by assumption) ?_ ?_
  rotate_left
  · (intro w hSw; (try dsimp only at hSw); go_simp)
    all_goals with_reducible rfl
  try simp only [Act.put, pL]
  refine wpAnyH_ready (rs := [33]) (by kernel_rfl) (by simp) ?_
  refine AllReadyH.cons rfl (fun K hK => ?_) AllReadyH.nil
  go_simp
  (first
      | (go_at_call 16; refine (HXC.out _ _ _ _ _ (by first | exact (Dn.refl _).drew | exact (‹Dn w8 _ ∧ _› : _ ∧ _).1 | exact And.left (by assumption)) (by first | exact Or.inl ⟨rfl, rfl, rfl, rfl⟩ | exact Or.inr ⟨rfl, rfl, rfl, rfl⟩)).mono ?_; rintro e wa ⟨rfl, qa⟩)
      | (go_at_call 9; refine (lives10 _ (HE.out.dn (by first | exact (Dn.refl _).drew | exact (‹Dn w8 _ ∧ _› : _ ∧ _).1 | exact And.left (by assumption)))).mono ?_; rintro e wa ⟨rfl, qa⟩))
  try go_wp2_with fail
  refine hK.out _ _ ?_ (fun hHeld => ?_)
  · (try dsimp only); (first | exact kdTF_12 ((Dn.refl _).drew) hS121 | exact kdTF_12 ‹Dn _ _› ‹_› | exact kdTF_12 (Up.dn ‹Up _ _›) ‹_› | assumption | exact kdTF_12 ((Dn.refl _).alloc _) ‹_›)
  clear hK K
  try simp only [Act.put, pL]
  refine tk 34 ?_ rfl (by kernel_rfl) (fun _ _ _ => id) (by rfl) (by assumption) ?_ ?_
  rotate_left
  · (intro w hSw; (try dsimp only at hSw); go_simp)
    all_goals with_reducible rfl
  try simp only [Act.put, pL]
  refine tk 35 ?_ rfl (by kernel_rfl) (fun _ _ _ => id) (by rfl) (by assumption) ?_ ?_
  rotate_left
  · (intro w hSw; (try dsimp only at hSw); go_simp)
    all_goals with_reducible rfl
  try simp only [Act.put, pL]
  refine wpAnyH_done (by kernel_rfl) ?_ _
  all_goals skip
  all_goals
    clear hS121
    obtain ⟨uf134, d9, dA, dB, dC, dD, dE, dF, dG, dH, dI, dJ, dK⟩ := (‹Dn w8 _ ∧ _› : _ ∧ _)
    obtain ⟨w135, rfl⟩ : ∃ w135 : World, w135 = wa := ⟨_, rfl⟩
    have dL := nlt cT uf134.size
    clear cT
    have dM := nlt cY uf134.size
    clear cY
    have dN := nlt d3 uf134.size
    clear d3
    have dO := nlt d6 uf134.size
    clear d6
    have vuf134 := uw8.trans uf134
    clear uf134 uw8 HShS121
    go_wp2_with fail
    go_ret
    exact ⟨rfl, vuf134⟩
theorem runsetsOne_true (p : Option Addr) (ca : Nat) (L : List Rq) (day : Int) (w : World) (hR : Rl w p ca L) (hI : I6 L) (hd : I64 day) (hE : EnvR w) :
   Calls Tryz.prog 4 #[.slice p L.length ca, .int .i64 day] w fun ro w' => ro = .returned (.bool true) ∧ Dn w w' := by
 have la := Nat.le_trans hR.le hR.mx
 by_cases h1 : 20 < L.length
 · exact one_a p L.length ca day w la h1 hE
 obtain ⟨c, hc⟩ : ∃ c, c = chkL L := ⟨_, rfl⟩
 have s1 := fun h : chkL L = 0 => chk_ok hI h
 have eC := fin_same (c := chkL L) (M := cplL L) (N := woL [⟨-1, 0, 1, 0⟩] L) (fun h => complement_eq (s1 h))
 have lC : chkL L = 0 → (woL [⟨-1, 0, 1, 0⟩] L).length ≤ 100 := fun h => by
   rw [← complement_eq (s1 h)]; have := cplL_len L; omega
 have fin_c : c = fin3 (chkL L) (woL [⟨-1, 0, 1, 0⟩] L) := by
   by_cases h0 : chkL L = 0
   · rw [hc, fin_zero h0 (by have := lC h0; omega), h0]
   · rw [hc, fin3_bad h0]
 have hbd : chkL L = 0 → ∀ k, (woL [⟨-1, 0, 1, 0⟩] (L.take k)).length ≤ 300000 := fun h k => by
   rw [← complement_eq (sep_take (s1 h) k)]
   have h2 := cplL_len (L.take k)
   have h3 : (L.take k).length ≤ L.length := by simp; omega
   omega
 obtain ⟨R, hRR⟩ : ∃ R, R = res3 (chkL L) (woL [⟨-1, 0, 1, 0⟩] L) := ⟨_, rfl⟩
 have FK := Lib.hid (fun W (k : Dn w W) => rfCheckE p ca L c W hc (by omega) hI (hR.dn k).row)
 have HC := Lib.hid (fun W (k : Dn w W) => rsComplementS p ca L c R W (by rw [eC.1]; exact fin_c) (by rw [hRR, eC.2]) (by omega) hI (hR.dn k).row)
 have FC := Lib.hid (fun W (k : Dn w W) => rfComplementS p ca L c R W fin_c hRR hbd (by omega) hI (hR.dn k).row)
 have HN := Lib.hid (fun W (k : Dn w W) => rsCount p ca L (cntL L).1 (cntL L).2 W rfl rfl (by omega) hI (hR.dn k).row)
 have FN := Lib.hid (fun W (k : Dn w W) => rfCount p ca L (cntL L).1 (cntL L).2 W rfl rfl (by omega) hI (hR.dn k).row)
 have gv : GvT R R.length c R c ∧ R.length ≤ 100000 := by
   by_cases h0 : chkL L = 0
   · have e : R = woL [⟨-1, 0, 1, 0⟩] L := by rw [hRR]; exact res_ok (fin_zero h0 (by have := lC h0; omega))
     exact ⟨Or.inl ⟨hc.trans h0, rfl, rfl, hc.trans h0⟩, by rw [e]; have := lC h0; omega⟩
   · have e : R = [] := by rw [hRR, res3_bad h0]
     exact ⟨Or.inr ⟨by rw [hc]; exact h0, e, rfl⟩, by rw [e]; simp⟩
 have GC := Lib.hid (fun W p1 p2 c2 (h : Row W p1 R) (k : Row W p2 R) => gv10 p1 R.length R c p2 c2 R c W gv.1 gv.2 h (fun _ => k))
 by_cases h0 : c = 0
 rotate_left
 · have hb : chkL L ≠ 0 := by rw [← hc]; exact h0
   exact one_bad p L.length ca day c _ _ R w (by omega) FK HC FC HN FN
     (Lib.hid (fun W k => rsMin p ca L 0 0 c W (Or.inl ⟨hb, rfl, rfl, hc⟩) (by omega) hI (hR.dn k).row))
     (Lib.hid (fun W k => rsMax p ca L 0 0 c W (Or.inl ⟨hb, rfl, rfl, hc⟩) (by omega) hI (hR.dn k).row)) GC h0 hE
 have hb : chkL L = 0 := hc.symm.trans h0
 by_cases hl : L.length = 0
 · have hn : L = [] := List.length_eq_zero_iff.1 hl
   subst h0
   exact one_nil p L.length ca day _ _ R w (by omega) hl FK HC FC HN FN
     (Lib.hid (fun W k => rsMin p ca L 0 0 17 W (Or.inr (Or.inl ⟨hb, hn, rfl, rfl, rfl⟩)) (by omega) hI (hR.dn k).row))
     (Lib.hid (fun W k => rsMax p ca L 0 0 17 W (Or.inr (Or.inl ⟨hb, hn, rfl, rfl, rfl⟩)) (by omega) hI (hR.dn k).row)) GC hE
 obtain ⟨g, o, rfl, hcs⟩ := hR.row.cs (by omega)
 obtain ⟨k, hk⟩ : ∃ k, L.length = k + 1 := ⟨L.length - 1, by omega⟩
 obtain ⟨x, hx⟩ : ∃ x, L[0]? = some x := ⟨L[0], List.getElem?_eq_getElem _⟩
 obtain ⟨z, hz⟩ : ∃ z, L[k]? = some z := ⟨L[k], List.getElem?_eq_getElem _⟩
 have HM := Lib.hid (fun W (q : Dn w W) => rsMin (some ⟨g, o, none⟩) ca L x.a x.b 0 W (Or.inr (Or.inr ⟨hb, x, hx, rfl, rfl, rfl⟩)) (by omega) hI (hR.dn q).row)
 have HX := Lib.hid (fun W (q : Dn w W) => rsMax (some ⟨g, o, none⟩) ca L z.c z.d 0 W (Or.inr (Or.inr ⟨hb, z, by rw [hk]; exact hz, rfl, rfl, rfl⟩)) (by omega) hI (hR.dn q).row)
 have XL := Lib.hid (fun W (q : Dn w W) => rsHasS (some ⟨g, o, none⟩) ca L day _ W hd rfl (by omega) hI (hR.dn q).row)
 have sL := s1 hb
 have rR : R = cplL L := by rw [hRR, complement_eq sL]; exact res_ok (fin_zero hb (by have := lC hb; omega))
 have lR : R.length ≤ 100 := by rw [rR]; have := cplL_len L; omega
 have XR := Lib.hid (fun W p1 (q : Row W p1 R) => rsHasS p1 R.length R day (!decide (HasL L day)) W hd (by rw [rR]; exact (has_cpl sL hd).symm) (by omega) (by rw [rR]; exact i6_sep (cpl_law sL).1) q)
 have hgl := hcs.lt
 have ex := hcs.el 0 x hx
 have ez := hcs.el k z hz
 subst h0
 rw [hk] at FK HC FC HN FN HM HX XL ⊢
 cases hh : decide (HasL L day) with
 | true =>
   rw [hh] at XL XR
   exact one_ok_true g o k ca x z day _ _ R w (by omega) hgl ex ez FK HC FC HN FN HM HX GC XR XL hE
 | false =>
   rw [hh] at XL XR
   exact one_ok_false g o k ca x z day _ _ R w (by omega) hgl ex ez FK HC FC HN FN HM HX GC XR XL hE
open Go.ChangeShapes Go.WideShapes Go.ChangeAt Go.RowKit Go.Joins Go.Deep
variable {H : Type} {enc : TypeId × Value → H} {P : Program} {W : World} {r : Reach} {b0 : Nat} {t e : TypeId} {v : Value} {d : DataW H} {p : List MemPlace} {sp : Nat → Bool} {hd : Bool} {base : Nat}
theorem open_i64 (ht : P.underlying t = some (.int .i64)) (hv : Value.okWide P W r b0 t v) (h : DataW.Trod enc P W base sp hd t v d p) : ∃ a, v = .int .i64 a ∧ I64 a := by
 obtain ⟨a, rfl, _, _, w⟩ := open_int ht hv h
 exact ⟨a, rfl, i64_of_wf w⟩
theorem cell_i64 {n : Nat} {c : Value} {y : DataW H × List MemPlace} (he : P.underlying e = some (.int .i64)) (h : DataW.trod enc P W base sp hd n e [c] = some y) : ∃ a, c = .int .i64 a ∧ I64 a := by
 obtain ⟨a, ha, _, w⟩ := DataW.trod_int he h
 simp at ha
 exact ⟨a, ha, i64_of_wf w⟩
open Go.ChangeShapes Go.WideShapes Go.ChangeAt Go.RowKit Go.Joins Go.Deep
variable {H : Type} {enc : TypeId × Value → H} {P : Program} {W : World} {r : Reach} {b0 : Nat} {t e : TypeId} {v : Value} {d : DataW H} {p : List MemPlace} {sp : Nat → Bool} {hd : Bool} {base : Nat}
theorem cell_i8 {n : Nat} {c : Value} {y : DataW H × List MemPlace} (he : P.underlying e = some (.int .i8)) (h : DataW.trod enc P W base sp hd n e [c] = some y) : ∃ a, c = .int .i8 a := by
 obtain ⟨a, ha, _, _⟩ := DataW.trod_int he h
 simp at ha
 exact ⟨a, ha⟩
open Go.ChangeShapes Go.WideShapes Go.ChangeAt Go.RowKit Go.Joins Go.Deep
variable {H : Type} {enc : TypeId × Value → H} {P : Program} {W : World} {r : Reach} {b0 : Nat} {t e : TypeId} {v : Value} {d : DataW H} {p : List MemPlace} {sp : Nat → Bool} {hd : Bool} {base : Nat}
theorem end_cells {n : Nat} {g0 g1 : Field} {c0 c1 : Value} {y : DataW H × List MemPlace} (ht : P.underlying e = some (.struct #[g0, g1])) (o0 : g0.offset = 0) (o1 : g1.offset = 1) (k0 : P.cellsOf g0.type = 1) (k1 : P.cellsOf g1.type = 1)
   (h0 : P.underlying g0.type = some (.int .i8)) (h1 : P.underlying g1.type = some (.int .i64)) (h : DataW.trod enc P W base sp hd n e [c0, c1] = some y) :
   ∃ i a, c0 = .int .i8 i ∧ c1 = .int .i64 a ∧ I64 a := by
 obtain ⟨xs, m, _, _, _, hl, hel⟩ := DataW.trod_struct ht h
 match xs, hl with
 | [y0, y1], _ =>
   have z0 := hel 0 g0 rfl
   have z1 := hel 1 g1 rfl
   rw [o0, k0] at z0
   rw [o1, k1] at z1
   simp at z0 z1
   obtain ⟨i, rfl⟩ := cell_i8 h0 z0
   obtain ⟨a, rfl, ha⟩ := cell_i64 h1 z1
   exact ⟨i, a, rfl, rfl, ha⟩
end Go.Proofs.YtoghoddjkdoohaaGreatDoor
