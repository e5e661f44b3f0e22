/- Walks and laws that the claim's theorem leans on: part 26. -/
import Derived.Test.YtoghoddjkdoohaaGreatDoorZKn1
import Derived.Test.YtoghoddjkdoohaaGreatDoorZKn23
import Derived.Test.YtoghoddjkdoohaaGreatDoorZKn24
namespace Go.Proofs.YtoghoddjkdoohaaGreatDoor
set_option maxHeartbeats 4000000
set_option maxRecDepth 100000
open Go.RowKit
set_option linter.unusedVariables false
set_option linter.unusedSimpArgs false
theorem has_two {W : World} {p1 p2 : Option Addr} {m1 m2 c1 c2 : Nat} {day : Int} {t1 t2 : Bool} (h1 : Calls Tryz.prog 16 #[.slice p1 m1 c1, .int .i64 day] W fun ro w' => ro = .returned (.bool t1) /\ Dn W w') (h2 : Calls Tryz.prog 16 #[.slice p2 m2 c2, .int .i64 day] W fun ro w' => ro = .returned (.bool t2) /\ Dn W w') {X : Option Addr} {m cap : Nat} {t : Bool}
   (h : (X = p1 /\ m = m1 /\ cap = c1 /\ t = t1) \/ (X = p2 /\ m = m2 /\ cap = c2 /\ t = t2)) : Calls Tryz.prog 16 #[.slice X m cap, .int .i64 day] W fun ro w' => ro = .returned (.bool t) /\ Dn W w' := by
 rcases h with ⟨rfl, rfl, rfl, rfl⟩ | ⟨rfl, rfl, rfl, rfl⟩
 · exact h1
 · exact h2
theorem one_a (p : Option Addr) (la ca : Nat) (day : Int) (w : World) (hl1 : la <= 9223372036854775807) (h1 : 20 < la) (hE : EnvR w) :
  Calls Tryz.prog 4 #[.slice p la ca, .int .i64 day] w fun ro w' => ro = .returned (.bool true) /\ Dn w w' := by
 have e1 : decide ((la : Int) > 20) = true := by simp; omega
 have e2 : (20 : Int) < la := by omega
 clear h1
 go_enter Tryz.func4, Tryz.ntmps4
 go_wp2_with fail
 refine (lives10 _ hE).mono ?_
 rintro e w1 ⟨rfl, qw1⟩
 have uw1 := qw1
 clear qw1
 go_wp2_with fail
 go_ret
 exact ⟨rfl, uw1⟩
theorem one_bad (p : Option Addr) (la ca : Nat) (day c n en : Int) (R : List Rq) (w : World) (h1 : la <= 20) (FK : Hid (∀ W, Dn w W -> Calls Tryz.prog 15 #[.slice p la ca] W fun ro w' => ro = .returned (.int .i64 c) /\ Dn W w')) (HC : Hid (∀ W, Dn w W -> Calls Tryz.prog 17 #[.slice p la ca] W fun ro w' => ∃ p', ro = .returned (.tuple #[.slice p' R.length R.length, .int .i64 c]) /\ Row w' p' R /\ Dn W w')) (FC : Hid (∀ W, Dn w W -> Calls Tryz.prog 18 #[.slice p la ca] W fun ro w' => ∃ p' cap', ro = .returned (.tuple #[.slice p' R.length cap', .int .i64 c]) /\ Row w' p' R /\ Dn W w')) (HN : Hid (∀ W, Dn w W -> Calls Tryz.prog 19 #[.slice p la ca] W fun ro w' => ro = .returned (.tuple #[.int .i64 n, .int .i64 en]) /\ Dn W w')) (FN : Hid (∀ W, Dn w W -> Calls Tryz.prog 20 #[.slice p la ca] W fun ro w' => ro = .returned (.tuple #[.int .i64 n, .int .i64 en]) /\ Dn W w')) (HM : Hid (∀ W, Dn w W -> Calls Tryz.prog 21 #[.slice p la ca] W fun ro w' => ro = .returned (.tuple #[.agg #[.int .i8 0, .int .i64 0], .int .i64 c]) /\ Dn W w')) (HX : Hid (∀ W, Dn w W -> Calls Tryz.prog 22 #[.slice p la ca] W fun ro w' => ro = .returned (.tuple #[.agg #[.int .i8 0, .int .i64 0], .int .i64 c]) /\ Dn W w')) (GC : Hid (∀ W p1 p2 c2, Row W p1 R -> Row W p2 R -> Calls Tryz.prog 13 #[.slice p1 R.length R.length, .int .i64 c, .slice p2 R.length c2, .int .i64 c] W fun ro w' => ro = .returned (.bool true) /\ Dn W w')) (hc : c ≠ 0) (hE : EnvR w) :
  Calls Tryz.prog 4 #[.slice p la ca, .int .i64 day] w fun ro w' => ro = .returned (.bool true) /\ Dn w w' := by
 have e1 : decide ((la : Int) > 20) = false := by simp; omega
 have e2 : ¬ (20 : Int) < la := by omega
 have e5 : (n != n) = false := by simp
 have e6 : (en != en) = false := by simp
 have e7 : (c == c) = true := by simp
 clear h1
 have e9 : (c != 0) = true := by simpa using hc
 clear hc
 go_enter Tryz.func4, Tryz.ntmps4
 go_wp2_with fail
 refine (FK.out _ (Dn.refl _)).mono ?_
 rintro e w1 ⟨rfl, qw1⟩
 have uw1 := qw1
 clear qw1
 go_wp2_with fail
 refine (HC.out _ uw1).mono ?_
 rintro e w2 ⟨pc, rfl, rc, qw2⟩
 have uw2 := uw1.trans qw2
 clear qw2 uw1
 go_wp2_with fail
 refine (FC.out _ uw2).mono ?_
 rintro e w3 ⟨pf, cf, rfl, rf, qw3⟩
 replace rc := rc.dn qw3
 have uw3 := uw2.trans qw3
 clear qw3 uw2
 go_wp2_with fail
 refine (HN.out _ uw3).mono ?_
 rintro e w4 ⟨rfl, qw4⟩
 replace rc := rc.dn qw4
 replace rf := rf.dn qw4
 have uw4 := uw3.trans qw4
 clear qw4 uw3
 go_wp2_with fail
 refine (FN.out _ uw4).mono ?_
 rintro e w5 ⟨rfl, qw5⟩
 replace rc := rc.dn qw5
 replace rf := rf.dn qw5
 have uw5 := uw4.trans qw5
 clear qw5 uw4
 go_wp2_with fail
 refine (HM.out _ uw5).mono ?_
 rintro e w6 ⟨rfl, qw6⟩
 replace rc := rc.dn qw6
 replace rf := rf.dn qw6
 have uw6 := uw5.trans qw6
 clear qw6 uw5
 go_wp2_with fail
 obtain ⟨W1, hW1⟩ : ∃ W1, W1 = w6.alloc (.cells #[.int .i8 0, .int .i64 0] 41) := ⟨_, rfl⟩
 have uW1 : Dn w6 W1 := by rw [hW1]; exact (Dn.refl _).alloc _
 replace rc := rc.dn uW1
 replace rf := rf.dn uW1
 have c2 : W1.cell? ⟨w6.heap.size, 0, none⟩ = some (.int .i8 0) := by rw [hW1]; simp [go_sem]
 have c3 : W1.cell? ⟨w6.heap.size, 1, none⟩ = some (.int .i64 0) := by rw [hW1]; simp [go_sem]
 have l4 : w6.heap.size < W1.heap.size := by rw [hW1]; simp <;> omega
 rw [<- hW1]
 clear hW1
 have vW1 := uw6.trans uW1
 clear uW1 uw6
 refine (HX.out _ vW1).mono ?_
 rintro e w7 ⟨rfl, qw7⟩
 replace rc := rc.dn qw7
 replace rf := rf.dn qw7
 have l5 := nlt l4 qw7.size
 have c6 := qw7.cell c2
 have c7 := qw7.cell c3
 clear l4 c2 c3
 have uw7 := vW1.trans qw7
 clear qw7 vW1
 go_wp2_with fail
 obtain ⟨W8, hW8⟩ : ∃ W8, W8 = w7.alloc (.cells #[.int .i8 0, .int .i64 0] 41) := ⟨_, rfl⟩
 have uW8 : Dn w7 W8 := by rw [hW8]; exact (Dn.refl _).alloc _
 replace rc := rc.dn uW8
 replace rf := rf.dn uW8
 have l9 := nlt l5 uW8.size
 have a0 := uW8.cell c6
 have a1 := uW8.cell c7
 clear l5 c6 c7
 have a2 : W8.cell? ⟨w7.heap.size, 0, none⟩ = some (.int .i8 0) := by rw [hW8]; simp [go_sem]
 have a3 : W8.cell? ⟨w7.heap.size, 1, none⟩ = some (.int .i64 0) := by rw [hW8]; simp [go_sem]
 have a4 : w7.heap.size < W8.heap.size := by rw [hW8]; simp <;> omega
 rw [<- hW8]
 clear hW8
 have vW8 := uw7.trans uW8
 clear uW8 uw7
 refine (GC.out _ _ _ _ rc rf).mono ?_
 rintro e w8 ⟨rfl, qw8⟩
 replace rc := rc.dn qw8
 replace rf := rf.dn qw8
 obtain ⟨a5, a8⟩ := nl2 qw8.size l9 a4
 obtain ⟨a6, a7, a9, aA⟩ := mv4 qw8.cell a0 a1 a2 a3
 clear l9 a0 a1 a4 a2 a3
 have uw8 := vW8.trans qw8
 clear qw8 vW8
 go_wp2_with fail
 refine (lives10 _ (hE.dn uw8)).mono ?_
 rintro e w9 ⟨rfl, qw9⟩
 replace rc := rc.dn qw9
 replace rf := rf.dn qw9
 obtain ⟨aB, aE⟩ := nl2 qw9.size a5 a8
 obtain ⟨aC, aD, aF, aG⟩ := mv4 qw9.cell a6 a7 a9 aA
 clear a5 a6 a7 a8 a9 aA
 have uw9 := uw8.trans qw9
 clear qw9 uw8
 go_wp2_with fail
 go_ret
 exact ⟨rfl, uw9⟩
theorem one_nil (p : Option Addr) (la ca : Nat) (day n en : Int) (R : List Rq) (w : World) (h1 : la <= 20) (hl : la = 0) (FK : Hid (∀ W, Dn w W -> Calls Tryz.prog 15 #[.slice p la ca] W fun ro w' => ro = .returned (.int .i64 0) /\ Dn W w')) (HC : Hid (∀ W, Dn w W -> Calls Tryz.prog 17 #[.slice p la ca] W fun ro w' => ∃ p', ro = .returned (.tuple #[.slice p' R.length R.length, .int .i64 0]) /\ Row w' p' R /\ Dn W w')) (FC : Hid (∀ W, Dn w W -> Calls Tryz.prog 18 #[.slice p la ca] W fun ro w' => ∃ p' cap', ro = .returned (.tuple #[.slice p' R.length cap', .int .i64 0]) /\ Row w' p' R /\ Dn W w')) (HN : Hid (∀ W, Dn w W -> Calls Tryz.prog 19 #[.slice p la ca] W fun ro w' => ro = .returned (.tuple #[.int .i64 n, .int .i64 en]) /\ Dn W w')) (FN : Hid (∀ W, Dn w W -> Calls Tryz.prog 20 #[.slice p la ca] W fun ro w' => ro = .returned (.tuple #[.int .i64 n, .int .i64 en]) /\ Dn W w')) (HM : Hid (∀ W, Dn w W -> Calls Tryz.prog 21 #[.slice p la ca] W fun ro w' => ro = .returned (.tuple #[.agg #[.int .i8 0, .int .i64 0], .int .i64 17]) /\ Dn W w')) (HX : Hid (∀ W, Dn w W -> Calls Tryz.prog 22 #[.slice p la ca] W fun ro w' => ro = .returned (.tuple #[.agg #[.int .i8 0, .int .i64 0], .int .i64 17]) /\ Dn W w')) (GC : Hid (∀ W p1 p2 c2, Row W p1 R -> Row W p2 R -> Calls Tryz.prog 13 #[.slice p1 R.length R.length, .int .i64 0, .slice p2 R.length c2, .int .i64 0] W fun ro w' => ro = .returned (.bool true) /\ Dn W w')) (hE : EnvR w) :
  Calls Tryz.prog 4 #[.slice p la ca, .int .i64 day] w fun ro w' => ro = .returned (.bool true) /\ Dn w w' := by
 have e1 : decide ((la : Int) > 20) = false := by simp; omega
 have e2 : ¬ (20 : Int) < la := by omega
 have e5 : (n != n) = false := by simp
 have e6 : (en != en) = false := by simp
 clear h1
 subst hl
 go_enter Tryz.func4, Tryz.ntmps4
 go_wp2_with fail
 refine (FK.out _ (Dn.refl _)).mono ?_
 rintro e w1 ⟨rfl, qw1⟩
 have uw1 := qw1
 clear qw1
 go_wp2_with fail
 refine (HC.out _ uw1).mono ?_
 rintro e w2 ⟨pc, rfl, rc, qw2⟩
 have uw2 := uw1.trans qw2
 clear qw2 uw1
 go_wp2_with fail
 refine (FC.out _ uw2).mono ?_
 rintro e w3 ⟨pf, cf, rfl, rf, qw3⟩
 replace rc := rc.dn qw3
 have uw3 := uw2.trans qw3
 clear qw3 uw2
 go_wp2_with fail
 refine (HN.out _ uw3).mono ?_
 rintro e w4 ⟨rfl, qw4⟩
 replace rc := rc.dn qw4
 replace rf := rf.dn qw4
 have uw4 := uw3.trans qw4
 clear qw4 uw3
 go_wp2_with fail
 refine (FN.out _ uw4).mono ?_
 rintro e w5 ⟨rfl, qw5⟩
 replace rc := rc.dn qw5
 replace rf := rf.dn qw5
 have uw5 := uw4.trans qw5
 clear qw5 uw4
 go_wp2_with fail
 refine (HM.out _ uw5).mono ?_
 rintro e w6 ⟨rfl, qw6⟩
 replace rc := rc.dn qw6
 replace rf := rf.dn qw6
 have uw6 := uw5.trans qw6
 clear qw6 uw5
 go_wp2_with fail
 obtain ⟨W1, hW1⟩ : ∃ W1, W1 = w6.alloc (.cells #[.int .i8 0, .int .i64 0] 41) := ⟨_, rfl⟩
 have uW1 : Dn w6 W1 := by rw [hW1]; exact (Dn.refl _).alloc _
 replace rc := rc.dn uW1
 replace rf := rf.dn uW1
 have c2 : W1.cell? ⟨w6.heap.size, 0, none⟩ = some (.int .i8 0) := by rw [hW1]; simp [go_sem]
 have c3 : W1.cell? ⟨w6.heap.size, 1, none⟩ = some (.int .i64 0) := by rw [hW1]; simp [go_sem]
 have l4 : w6.heap.size < W1.heap.size := by rw [hW1]; simp <;> omega
 rw [<- hW1]
 clear hW1
 have vW1 := uw6.trans uW1
 clear uW1 uw6
 refine (HX.out _ vW1).mono ?_
 rintro e w7 ⟨rfl, qw7⟩
 replace rc := rc.dn qw7
 replace rf := rf.dn qw7
 have l5 := nlt l4 qw7.size
 have c6 := qw7.cell c2
 have c7 := qw7.cell c3
 clear l4 c2 c3
 have uw7 := vW1.trans qw7
 clear qw7 vW1
 go_wp2_with fail
 obtain ⟨W8, hW8⟩ : ∃ W8, W8 = w7.alloc (.cells #[.int .i8 0, .int .i64 0] 41) := ⟨_, rfl⟩
 have uW8 : Dn w7 W8 := by rw [hW8]; exact (Dn.refl _).alloc _
 replace rc := rc.dn uW8
 replace rf := rf.dn uW8
 have l9 := nlt l5 uW8.size
 have a0 := uW8.cell c6
 have a1 := uW8.cell c7
 clear l5 c6 c7
 have a2 : W8.cell? ⟨w7.heap.size, 0, none⟩ = some (.int .i8 0) := by rw [hW8]; simp [go_sem]
 have a3 : W8.cell? ⟨w7.heap.size, 1, none⟩ = some (.int .i64 0) := by rw [hW8]; simp [go_sem]
 have a4 : w7.heap.size < W8.heap.size := by rw [hW8]; simp <;> omega
 rw [<- hW8]
 clear hW8
 have vW8 := uw7.trans uW8
 clear uW8 uw7
 refine (GC.out _ _ _ _ rc rf).mono ?_
 rintro e w8 ⟨rfl, qw8⟩
 replace rc := rc.dn qw8
 replace rf := rf.dn qw8
 obtain ⟨a5, a8⟩ := nl2 qw8.size l9 a4
 obtain ⟨a6, a7, a9, aA⟩ := mv4 qw8.cell a0 a1 a2 a3
 clear l9 a0 a1 a4 a2 a3
 have uw8 := vW8.trans qw8
 clear qw8 vW8
 go_wp2_with fail
 refine (lives10 _ (hE.dn uw8)).mono ?_
 rintro e w9 ⟨rfl, qw9⟩
 replace rc := rc.dn qw9
 replace rf := rf.dn qw9
 obtain ⟨aB, aE⟩ := nl2 qw9.size a5 a8
 obtain ⟨aC, aD, aF, aG⟩ := mv4 qw9.cell a6 a7 a9 aA
 clear a5 a6 a7 a8 a9 aA
 have uw9 := uw8.trans qw9
 clear qw9 uw8
 go_wp2_with fail
 go_ret
 exact ⟨rfl, uw9⟩
theorem one_ok_true (g o k ca : Nat) (x z : Rq) (day n en : Int) (R : List Rq) (w : World) (h1 : k <= 19) (hg : g < w.heap.size) (hx : El w g o 0 x) (hz : El w g o k z) (FK : Hid (∀ W, Dn w W -> Calls Tryz.prog 15 #[.slice (some ⟨g, o, none⟩) (k + 1) ca] W fun ro w' => ro = .returned (.int .i64 0) /\ Dn W w')) (HC : Hid (∀ W, Dn w W -> Calls Tryz.prog 17 #[.slice (some ⟨g, o, none⟩) (k + 1) ca] W fun ro w' => ∃ p', ro = .returned (.tuple #[.slice p' R.length R.length, .int .i64 0]) /\ Row w' p' R /\ Dn W w')) (FC : Hid (∀ W, Dn w W -> Calls Tryz.prog 18 #[.slice (some ⟨g, o, none⟩) (k + 1) ca] W fun ro w' => ∃ p' cap', ro = .returned (.tuple #[.slice p' R.length cap', .int .i64 0]) /\ Row w' p' R /\ Dn W w')) (HN : Hid (∀ W, Dn w W -> Calls Tryz.prog 19 #[.slice (some ⟨g, o, none⟩) (k + 1) ca] W fun ro w' => ro = .returned (.tuple #[.int .i64 n, .int .i64 en]) /\ Dn W w')) (FN : Hid (∀ W, Dn w W -> Calls Tryz.prog 20 #[.slice (some ⟨g, o, none⟩) (k + 1) ca] W fun ro w' => ro = .returned (.tuple #[.int .i64 n, .int .i64 en]) /\ Dn W w')) (HM : Hid (∀ W, Dn w W -> Calls Tryz.prog 21 #[.slice (some ⟨g, o, none⟩) (k + 1) ca] W fun ro w' => ro = .returned (.tuple #[.agg #[.int .i8 x.a, .int .i64 x.b], .int .i64 0]) /\ Dn W w')) (HX : Hid (∀ W, Dn w W -> Calls Tryz.prog 22 #[.slice (some ⟨g, o, none⟩) (k + 1) ca] W fun ro w' => ro = .returned (.tuple #[.agg #[.int .i8 z.c, .int .i64 z.d], .int .i64 0]) /\ Dn W w')) (GC : Hid (∀ W p1 p2 c2, Row W p1 R -> Row W p2 R -> Calls Tryz.prog 13 #[.slice p1 R.length R.length, .int .i64 0, .slice p2 R.length c2, .int .i64 0] W fun ro w' => ro = .returned (.bool true) /\ Dn W w')) (XR : Hid (∀ W p1, Row W p1 R -> Calls Tryz.prog 16 #[.slice p1 R.length R.length, .int .i64 day] W fun ro w' => ro = .returned (.bool false) /\ Dn W w')) (XL : Hid (∀ W, Dn w W -> Calls Tryz.prog 16 #[.slice (some ⟨g, o, none⟩) (k + 1) ca, .int .i64 day] W fun ro w' => ro = .returned (.bool true) /\ Dn W w')) (hE : EnvR w) :
   Calls Tryz.prog 4 #[.slice (some ⟨g, o, none⟩) (k + 1) ca, .int .i64 day] w fun ro w' => ro = .returned (.bool true) /\ Dn w w' := by
 have e1 : decide ((k : Int) + 1 > 20) = false := by simp; omega
 have e2 : ¬ (20 : Int) < (k : Int) + 1 := by omega
 have e5 : (n != n) = false := by simp
 have e6 : (en != en) = false := by simp
 have e9 : (((k : Int) + 1) == 0) = false := by simp; omega
 have e10 : decide ((k : Int) + 1 = 0) = false := by simp; omega
 have e11 : (k : Int) < (k : Int) + 1 := by omega
 have e12 : (0 : Int) < (k : Int) + 1 := by omega
 have e13 : IntKind.i64.wrap (k : Int) = k := IntWalk.i64_in _ (by omega)
 have e15 : k < k + 1 := by omega
 have e16 : IntKind.i64.wrap 0 = 0 := by decide
 obtain ⟨x0, x1, x2, x3⟩ := hx
 obtain ⟨z0, z1, z2, z3⟩ := hz
 have xl := hg
 have zl := hg
 simp only [Nat.zero_mul, Nat.add_zero] at x0 x1 x2 x3
 clear h1 hg
 go_enter Tryz.func4, Tryz.ntmps4
 go_wp2_with fail
 refine (FK.out _ (Dn.refl _)).mono ?_
 rintro e w1 ⟨rfl, qw1⟩
 obtain ⟨l1, l6⟩ := nl2 qw1.size xl zl
 obtain ⟨c2, c3, c4, c5, c7, c8, c9, a0⟩ := mv8 qw1.cell x0 x1 x2 x3 z0 z1 z2 z3
 clear xl x0 x1 x2 x3 zl z0 z1 z2 z3
 have uw1 := qw1
 clear qw1
 go_wp2_with fail
 refine (HC.out _ uw1).mono ?_
 rintro e w2 ⟨pc, rfl, rc, qw2⟩
 obtain ⟨a1, a6⟩ := nl2 qw2.size l1 l6
 obtain ⟨a2, a3, a4, a5, a7, a8, a9, aA⟩ := mv8 qw2.cell c2 c3 c4 c5 c7 c8 c9 a0
 clear l1 c2 c3 c4 c5 l6 c7 c8 c9 a0
 have uw2 := uw1.trans qw2
 clear qw2 uw1
 go_wp2_with fail
 refine (FC.out _ uw2).mono ?_
 rintro e w3 ⟨pf, cf, rfl, rf, qw3⟩
 replace rc := rc.dn qw3
 obtain ⟨aB, aG⟩ := nl2 qw3.size a1 a6
 obtain ⟨aC, aD, aE, aF, aH, aI, aJ, aK⟩ := mv8 qw3.cell a2 a3 a4 a5 a7 a8 a9 aA
 clear a1 a2 a3 a4 a5 a6 a7 a8 a9 aA
 have uw3 := uw2.trans qw3
 clear qw3 uw2
 go_wp2_with fail
 refine (HN.out _ uw3).mono ?_
 rintro e w4 ⟨rfl, qw4⟩
 replace rc := rc.dn qw4
 replace rf := rf.dn qw4
 obtain ⟨aL, aQ⟩ := nl2 qw4.size aB aG
 obtain ⟨aM, aN, aO, aP, aR, aS, aT, aU⟩ := mv8 qw4.cell aC aD aE aF aH aI aJ aK
 clear aB aC aD aE aF aG aH aI aJ aK
 have uw4 := uw3.trans qw4
 clear qw4 uw3
 go_wp2_with fail
 refine (FN.out _ uw4).mono ?_
 rintro e w5 ⟨rfl, qw5⟩
 replace rc := rc.dn qw5
 replace rf := rf.dn qw5
 obtain ⟨aV, b0⟩ := nl2 qw5.size aL aQ
 obtain ⟨aW, aX, aY, aZ, b1, b2, b3, b4⟩ := mv8 qw5.cell aM aN aO aP aR aS aT aU
 clear aL aM aN aO aP aQ aR aS aT aU
 have uw5 := uw4.trans qw5
 clear qw5 uw4
 go_wp2_with fail
 refine (HM.out _ uw5).mono ?_
 rintro e w6 ⟨rfl, qw6⟩
 replace rc := rc.dn qw6
 replace rf := rf.dn qw6
 obtain ⟨b5, bA⟩ := nl2 qw6.size aV b0
 obtain ⟨b6, b7, b8, b9, bB, bC, bD, bE⟩ := mv8 qw6.cell aW aX aY aZ b1 b2 b3 b4
 clear aV aW aX aY aZ b0 b1 b2 b3 b4
 have uw6 := uw5.trans qw6
 clear qw6 uw5
 go_wp2_with fail
 obtain ⟨W61, hW61⟩ : ∃ W61, W61 = w6.alloc (.cells #[.int .i8 x.a, .int .i64 x.b] 41) := ⟨_, rfl⟩
 have uW61 : Dn w6 W61 := by rw [hW61]; exact (Dn.refl _).alloc _
 replace rc := rc.dn uW61
 replace rf := rf.dn uW61
 obtain ⟨bF, bK⟩ := nl2 uW61.size b5 bA
 obtain ⟨bG, bH, bI, bJ, bL, bM, bN, bO⟩ := mv8 uW61.cell b6 b7 b8 b9 bB bC bD bE
 clear b5 b6 b7 b8 b9 bA bB bC bD bE
 have bP : W61.cell? ⟨w6.heap.size, 0, none⟩ = some (.int .i8 x.a) := by rw [hW61]; simp [go_sem]
 have bQ : W61.cell? ⟨w6.heap.size, 1, none⟩ = some (.int .i64 x.b) := by rw [hW61]; simp [go_sem]
 have bR : w6.heap.size < W61.heap.size := by rw [hW61]; simp <;> omega
 rw [<- hW61]
 clear hW61
 have vW61 := uw6.trans uW61
 clear uW61 uw6
 refine (HX.out _ vW61).mono ?_
 rintro e w7 ⟨rfl, qw7⟩
 replace rc := rc.dn qw7
 replace rf := rf.dn qw7
 obtain ⟨bS, bX, c6⟩ := nl3 qw7.size bF bK bR
 obtain ⟨bT, bU, bV, bW, bY, bZ, c0, c1, cA, cB⟩ := mv10 qw7.cell bG bH bI bJ bL bM bN bO bP bQ
 clear bF bG bH bI bJ bK bL bM bN bO bR bP bQ
 have uw7 := vW61.trans qw7
 clear qw7 vW61
 go_wp2_with fail
 obtain ⟨W88, hW88⟩ : ∃ W88, W88 = w7.alloc (.cells #[.int .i8 z.c, .int .i64 z.d] 41) := ⟨_, rfl⟩
 have uW88 : Dn w7 W88 := by rw [hW88]; exact (Dn.refl _).alloc _
 replace rc := rc.dn uW88
 replace rf := rf.dn uW88
 obtain ⟨cC, cI, cN⟩ := nl3 uW88.size bS bX c6
 obtain ⟨cE, cF, cG, cH, cJ, cK, cL, cM, cO, cP⟩ := mv10 uW88.cell bT bU bV bW bY bZ c0 c1 cA cB
 clear bS bT bU bV bW bX bY bZ c0 c1 c6 cA cB
 have cQ : W88.cell? ⟨w7.heap.size, 0, none⟩ = some (.int .i8 z.c) := by rw [hW88]; simp [go_sem]
 have cR : W88.cell? ⟨w7.heap.size, 1, none⟩ = some (.int .i64 z.d) := by rw [hW88]; simp [go_sem]
 have cS : w7.heap.size < W88.heap.size := by rw [hW88]; simp <;> omega
 rw [<- hW88]
 clear hW88
 have vW88 := uw7.trans uW88
 clear uW88 uw7
 refine (GC.out _ _ _ _ rc rf).mono ?_
 rintro e w8 ⟨rfl, qw8⟩
 replace rc := rc.dn qw8
 replace rf := rf.dn qw8
 obtain ⟨cT, cY, d3, d6⟩ := nl4 qw8.size cC cI cN cS
 obtain ⟨cU, cV, cW, cX, cZ, d0, d1, d2, d4, d5, d7, d8⟩ := mv12 qw8.cell cE cF cG cH cJ cK cL cM cO cP cQ cR
 clear cC cE cF cG cH cI cJ cK cL cM cN cO cP cS cQ cR
 have uw8 := vW88.trans qw8
 clear qw8 vW88
 go_wp2_with fail
 have HXC := Lib.hid (fun W X m cap t (q : Dn w8 W) (h : (X = pc /\ m = R.length /\ cap = R.length /\ t = false) \/ (X = some ⟨g, o, none⟩ /\ m = k + 1 /\ cap = ca /\ t = true)) => has_two (XR.out W pc (rc.dn q)) (XL.out W (uw8.trans q)) h)
 have HE := Lib.hid (hE.dn uw8)
 clear rc rf
 have hS121 := kd_12 (W := w8) (Dn.refl _) ⟨Dn.refl _, cU, cV, cW, cX, cZ, d0, d1, d2, d4, d5, d7, d8⟩
 have HShS121 := Lib.hid hS121
 clear cU cV cW cX cZ d0 d1 d2 d4 d5 d7 d8
 refine wp_region_held_drew (S := fun w' => Dn w8 w' /\ w'.cell? ⟨g, o, none⟩ = some (.int .i8 x.a) /\ w'.cell? ⟨g, o + 1, none⟩ = some (.int .i64 x.b) /\ w'.cell? ⟨g, o + 2, none⟩ = some (.int .i8 x.c) /\ w'.cell? ⟨g, o + 3, none⟩ = some (.int .i64 x.d) /\ w'.cell? ⟨g, o + k * 4, none⟩ = some (.int .i8 z.a) /\ w'.cell? ⟨g, o + k * 4 + 1, none⟩ = some (.int .i64 z.b) /\ w'.cell? ⟨g, o + k * 4 + 2, none⟩ = some (.int .i8 z.c) /\ w'.cell? ⟨g, o + k * 4 + 3, none⟩ = some (.int .i64 z.d) /\ w'.cell? ⟨w6.heap.size, 0, none⟩ = some (.int .i8 x.a) /\ w'.cell? ⟨w6.heap.size, 1, none⟩ = some (.int .i64 x.b) /\ w'.cell? ⟨w7.heap.size, 0, none⟩ = some (.int .i8 z.c) /\ w'.cell? ⟨w7.heap.size, 1, none⟩ = some (.int .i64 z.d)) (by kernel_rfl) ?_ (fun hHeld => ?_)
 · (try dsimp only); (exact ke kd_12)
 refine tS 0 rfl ?_
 refine tS 1 rfl ?_
 refine tS 2 rfl ?_
 refine tS 3 rfl ?_
 refine tS 4 rfl ?_
 refine tS 5 rfl ?_
 refine tS 6 rfl ?_
 refine tS 7 rfl ?_
 refine tS 8 rfl ?_
 refine tS 9 rfl ?_
 refine tS 10 rfl ?_
 refine tS 11 rfl ?_
 refine tS 12 rfl ?_
 refine tS 13 rfl ?_
 refine tS 14 rfl ?_
 refine tS 15 rfl ?_
 refine tS 16 rfl ?_
 refine tS 17 rfl ?_
 refine tS 18 rfl ?_
 refine tS 19 rfl ?_
 refine tS 20 rfl ?_
 refine tS 21 rfl ?_
 refine tS 22 rfl ?_
 refine tS 23 rfl ?_
 refine tS 24 rfl ?_
 refine tS 25 rfl ?_
 refine tS 27 rfl ?_
 refine tS 28 rfl ?_
 refine rD 26 rfl (fun K hK => ?_)
 go_simp
 (first | (go_at_call 16; refine (HXC.out _ _ _ _ _ (by first | exact (Dn.refl _).drew | exact (‹Dn w8 _ /\ _› : _ /\ _).1 | exact And.left (by assumption)) (by first | exact Or.inl ⟨rfl, rfl, rfl, rfl⟩ | exact Or.inr ⟨rfl, rfl, rfl, rfl⟩)).mono ?_; rintro e wa ⟨rfl, qa⟩) | (go_at_call 9; refine (lives10 _ (HE.out.dn (by first | exact (Dn.refl _).drew | exact (‹Dn w8 _ /\ _› : _ /\ _).1 | exact And.left (by assumption)))).mono ?_; rintro e wa ⟨rfl, qa⟩))
 try go_wp2_with fail
 refine hK.out _ _ ?_ (fun hHeld => ?_)
 · (try dsimp only); (exact ke kd_12)
 clear hK K
 try simp only [Act.put, pL]
 refine rD 29 rfl (fun K hK => ?_)
 go_simp
 (first | (go_at_call 16; refine (HXC.out _ _ _ _ _ (by first | exact (Dn.refl _).drew | exact (‹Dn w8 _ /\ _› : _ /\ _).1 | exact And.left (by assumption)) (by first | exact Or.inl ⟨rfl, rfl, rfl, rfl⟩ | exact Or.inr ⟨rfl, rfl, rfl, rfl⟩)).mono ?_; rintro e wa ⟨rfl, qa⟩) | (go_at_call 9; refine (lives10 _ (HE.out.dn (by first | exact (Dn.refl _).drew | exact (‹Dn w8 _ /\ _› : _ /\ _).1 | exact And.left (by assumption)))).mono ?_; rintro e wa ⟨rfl, qa⟩))
 try go_wp2_with fail
 refine hK.out _ _ ?_ (fun hHeld => ?_)
 · (try dsimp only); (exact ke kd_12)
 clear hK K
 try simp only [Act.put, pL]
 refine tS 30 rfl ?_
 refine tS 31 rfl ?_
 refine tS 32 rfl ?_
 refine rD 33 rfl (fun K hK => ?_)
 go_simp
 (first | (go_at_call 16; refine (HXC.out _ _ _ _ _ (by first | exact (Dn.refl _).drew | exact (‹Dn w8 _ /\ _› : _ /\ _).1 | exact And.left (by assumption)) (by first | exact Or.inl ⟨rfl, rfl, rfl, rfl⟩ | exact Or.inr ⟨rfl, rfl, rfl, rfl⟩)).mono ?_; rintro e wa ⟨rfl, qa⟩) | (go_at_call 9; refine (lives10 _ (HE.out.dn (by first | exact (Dn.refl _).drew | exact (‹Dn w8 _ /\ _› : _ /\ _).1 | exact And.left (by assumption)))).mono ?_; rintro e wa ⟨rfl, qa⟩))
 try go_wp2_with fail
 refine hK.out _ _ ?_ (fun hHeld => ?_)
 · (try dsimp only); (exact ke kd_12)
 clear hK K
 try simp only [Act.put, pL]
 refine tS 34 rfl ?_
 refine tS 35 rfl ?_
 refine wpAnyH_done (by kernel_rfl) ?_ _
 all_goals skip
 all_goals
   clear hS121; obtain ⟨uf134, d9, dA, dB, dC, dD, dE, dF, dG, dH, dI, dJ, dK⟩ := (‹Dn w8 _ /\ _› : _ /\ _); obtain ⟨w135, rfl⟩ : ∃ w135 : World, w135 = wa := ⟨_, rfl⟩; have dL := nlt cT uf134.size; clear cT; have dM := nlt cY uf134.size; clear cY; have dN := nlt d3 uf134.size; clear d3; have dO := nlt d6 uf134.size; clear d6; have vuf134 := uw8.trans uf134; clear uf134 uw8 HShS121; go_wp2_with fail; go_ret; exact ⟨rfl, vuf134⟩
theorem one_ok_false (g o k ca : Nat) (x z : Rq) (day n en : Int) (R : List Rq) (w : World) (h1 : k <= 19) (hg : g < w.heap.size) (hx : El w g o 0 x) (hz : El w g o k z) (FK : Hid (∀ W, Dn w W -> Calls Tryz.prog 15 #[.slice (some ⟨g, o, none⟩) (k + 1) ca] W fun ro w' => ro = .returned (.int .i64 0) /\ Dn W w')) (HC : Hid (∀ W, Dn w W -> Calls Tryz.prog 17 #[.slice (some ⟨g, o, none⟩) (k + 1) ca] W fun ro w' => ∃ p', ro = .returned (.tuple #[.slice p' R.length R.length, .int .i64 0]) /\ Row w' p' R /\ Dn W w')) (FC : Hid (∀ W, Dn w W -> Calls Tryz.prog 18 #[.slice (some ⟨g, o, none⟩) (k + 1) ca] W fun ro w' => ∃ p' cap', ro = .returned (.tuple #[.slice p' R.length cap', .int .i64 0]) /\ Row w' p' R /\ Dn W w')) (HN : Hid (∀ W, Dn w W -> Calls Tryz.prog 19 #[.slice (some ⟨g, o, none⟩) (k + 1) ca] W fun ro w' => ro = .returned (.tuple #[.int .i64 n, .int .i64 en]) /\ Dn W w')) (FN : Hid (∀ W, Dn w W -> Calls Tryz.prog 20 #[.slice (some ⟨g, o, none⟩) (k + 1) ca] W fun ro w' => ro = .returned (.tuple #[.int .i64 n, .int .i64 en]) /\ Dn W w')) (HM : Hid (∀ W, Dn w W -> Calls Tryz.prog 21 #[.slice (some ⟨g, o, none⟩) (k + 1) ca] W fun ro w' => ro = .returned (.tuple #[.agg #[.int .i8 x.a, .int .i64 x.b], .int .i64 0]) /\ Dn W w')) (HX : Hid (∀ W, Dn w W -> Calls Tryz.prog 22 #[.slice (some ⟨g, o, none⟩) (k + 1) ca] W fun ro w' => ro = .returned (.tuple #[.agg #[.int .i8 z.c, .int .i64 z.d], .int .i64 0]) /\ Dn W w')) (GC : Hid (∀ W p1 p2 c2, Row W p1 R -> Row W p2 R -> Calls Tryz.prog 13 #[.slice p1 R.length R.length, .int .i64 0, .slice p2 R.length c2, .int .i64 0] W fun ro w' => ro = .returned (.bool true) /\ Dn W w')) (XR : Hid (∀ W p1, Row W p1 R -> Calls Tryz.prog 16 #[.slice p1 R.length R.length, .int .i64 day] W fun ro w' => ro = .returned (.bool true) /\ Dn W w')) (XL : Hid (∀ W, Dn w W -> Calls Tryz.prog 16 #[.slice (some ⟨g, o, none⟩) (k + 1) ca, .int .i64 day] W fun ro w' => ro = .returned (.bool false) /\ Dn W w')) (hE : EnvR w) :
   Calls Tryz.prog 4 #[.slice (some ⟨g, o, none⟩) (k + 1) ca, .int .i64 day] w fun ro w' => ro = .returned (.bool true) /\ Dn w w' := by
 have e1 : decide ((k : Int) + 1 > 20) = false := by simp; omega
 have e2 : ¬ (20 : Int) < (k : Int) + 1 := by omega
 have e5 : (n != n) = false := by simp
 have e6 : (en != en) = false := by simp
 have e9 : (((k : Int) + 1) == 0) = false := by simp; omega
 have e10 : decide ((k : Int) + 1 = 0) = false := by simp; omega
 have e11 : (k : Int) < (k : Int) + 1 := by omega
 have e12 : (0 : Int) < (k : Int) + 1 := by omega
 have e13 : IntKind.i64.wrap (k : Int) = k := IntWalk.i64_in _ (by omega)
 have e15 : k < k + 1 := by omega
 have e16 : IntKind.i64.wrap 0 = 0 := by decide
 obtain ⟨x0, x1, x2, x3⟩ := hx
 obtain ⟨z0, z1, z2, z3⟩ := hz
 have xl := hg
 have zl := hg
 simp only [Nat.zero_mul, Nat.add_zero] at x0 x1 x2 x3
 clear h1 hg
 go_enter Tryz.func4, Tryz.ntmps4
 go_wp2_with fail
 refine (FK.out _ (Dn.refl _)).mono ?_
 rintro e w1 ⟨rfl, qw1⟩
 obtain ⟨l1, l6⟩ := nl2 qw1.size xl zl
 obtain ⟨c2, c3, c4, c5, c7, c8, c9, a0⟩ := mv8 qw1.cell x0 x1 x2 x3 z0 z1 z2 z3
 clear xl x0 x1 x2 x3 zl z0 z1 z2 z3
 have uw1 := qw1
 clear qw1
 go_wp2_with fail
 refine (HC.out _ uw1).mono ?_
 rintro e w2 ⟨pc, rfl, rc, qw2⟩
 obtain ⟨a1, a6⟩ := nl2 qw2.size l1 l6
 obtain ⟨a2, a3, a4, a5, a7, a8, a9, aA⟩ := mv8 qw2.cell c2 c3 c4 c5 c7 c8 c9 a0
 clear l1 c2 c3 c4 c5 l6 c7 c8 c9 a0
 have uw2 := uw1.trans qw2
 clear qw2 uw1
 go_wp2_with fail
 refine (FC.out _ uw2).mono ?_
 rintro e w3 ⟨pf, cf, rfl, rf, qw3⟩
 replace rc := rc.dn qw3
 obtain ⟨aB, aG⟩ := nl2 qw3.size a1 a6
 obtain ⟨aC, aD, aE, aF, aH, aI, aJ, aK⟩ := mv8 qw3.cell a2 a3 a4 a5 a7 a8 a9 aA
 clear a1 a2 a3 a4 a5 a6 a7 a8 a9 aA
 have uw3 := uw2.trans qw3
 clear qw3 uw2
 go_wp2_with fail
 refine (HN.out _ uw3).mono ?_
 rintro e w4 ⟨rfl, qw4⟩
 replace rc := rc.dn qw4
 replace rf := rf.dn qw4
 obtain ⟨aL, aQ⟩ := nl2 qw4.size aB aG
 obtain ⟨aM, aN, aO, aP, aR, aS, aT, aU⟩ := mv8 qw4.cell aC aD aE aF aH aI aJ aK
 clear aB aC aD aE aF aG aH aI aJ aK
 have uw4 := uw3.trans qw4
 clear qw4 uw3
 go_wp2_with fail
 refine (FN.out _ uw4).mono ?_
 rintro e w5 ⟨rfl, qw5⟩
 replace rc := rc.dn qw5
 replace rf := rf.dn qw5
 obtain ⟨aV, b0⟩ := nl2 qw5.size aL aQ
 obtain ⟨aW, aX, aY, aZ, b1, b2, b3, b4⟩ := mv8 qw5.cell aM aN aO aP aR aS aT aU
 clear aL aM aN aO aP aQ aR aS aT aU
 have uw5 := uw4.trans qw5
 clear qw5 uw4
 go_wp2_with fail
 refine (HM.out _ uw5).mono ?_
 rintro e w6 ⟨rfl, qw6⟩
 replace rc := rc.dn qw6
 replace rf := rf.dn qw6
 obtain ⟨b5, bA⟩ := nl2 qw6.size aV b0
 obtain ⟨b6, b7, b8, b9, bB, bC, bD, bE⟩ := mv8 qw6.cell aW aX aY aZ b1 b2 b3 b4
 clear aV aW aX aY aZ b0 b1 b2 b3 b4
 have uw6 := uw5.trans qw6
 clear qw6 uw5
 go_wp2_with fail
 obtain ⟨W61, hW61⟩ : ∃ W61, W61 = w6.alloc (.cells #[.int .i8 x.a, .int .i64 x.b] 41) := ⟨_, rfl⟩
 have uW61 : Dn w6 W61 := by rw [hW61]; exact (Dn.refl _).alloc _
 replace rc := rc.dn uW61
 replace rf := rf.dn uW61
 obtain ⟨bF, bK⟩ := nl2 uW61.size b5 bA
 obtain ⟨bG, bH, bI, bJ, bL, bM, bN, bO⟩ := mv8 uW61.cell b6 b7 b8 b9 bB bC bD bE
 clear b5 b6 b7 b8 b9 bA bB bC bD bE
 have bP : W61.cell? ⟨w6.heap.size, 0, none⟩ = some (.int .i8 x.a) := by rw [hW61]; simp [go_sem]
 have bQ : W61.cell? ⟨w6.heap.size, 1, none⟩ = some (.int .i64 x.b) := by rw [hW61]; simp [go_sem]
 have bR : w6.heap.size < W61.heap.size := by rw [hW61]; simp <;> omega
 rw [<- hW61]
 clear hW61
 have vW61 := uw6.trans uW61
 clear uW61 uw6
 refine (HX.out _ vW61).mono ?_
 rintro e w7 ⟨rfl, qw7⟩
 replace rc := rc.dn qw7
 replace rf := rf.dn qw7
 obtain ⟨bS, bX, c6⟩ := nl3 qw7.size bF bK bR
 obtain ⟨bT, bU, bV, bW, bY, bZ, c0, c1, cA, cB⟩ := mv10 qw7.cell bG bH bI bJ bL bM bN bO bP bQ
 clear bF bG bH bI bJ bK bL bM bN bO bR bP bQ
 have uw7 := vW61.trans qw7
 clear qw7 vW61
 go_wp2_with fail
 obtain ⟨W88, hW88⟩ : ∃ W88, W88 = w7.alloc (.cells #[.int .i8 z.c, .int .i64 z.d] 41) := ⟨_, rfl⟩
 have uW88 : Dn w7 W88 := by rw [hW88]; exact (Dn.refl _).alloc _
 replace rc := rc.dn uW88
 replace rf := rf.dn uW88
 obtain ⟨cC, cI, cN⟩ := nl3 uW88.size bS bX c6
 obtain ⟨cE, cF, cG, cH, cJ, cK, cL, cM, cO, cP⟩ := mv10 uW88.cell bT bU bV bW bY bZ c0 c1 cA cB
 clear bS bT bU bV bW bX bY bZ c0 c1 c6 cA cB
 have cQ : W88.cell? ⟨w7.heap.size, 0, none⟩ = some (.int .i8 z.c) := by rw [hW88]; simp [go_sem]
 have cR : W88.cell? ⟨w7.heap.size, 1, none⟩ = some (.int .i64 z.d) := by rw [hW88]; simp [go_sem]
 have cS : w7.heap.size < W88.heap.size := by rw [hW88]; simp <;> omega
 rw [<- hW88]
 clear hW88
 have vW88 := uw7.trans uW88
 clear uW88 uw7
 refine (GC.out _ _ _ _ rc rf).mono ?_
 rintro e w8 ⟨rfl, qw8⟩
 replace rc := rc.dn qw8
 replace rf := rf.dn qw8
 obtain ⟨cT, cY, d3, d6⟩ := nl4 qw8.size cC cI cN cS
 obtain ⟨cU, cV, cW, cX, cZ, d0, d1, d2, d4, d5, d7, d8⟩ := mv12 qw8.cell cE cF cG cH cJ cK cL cM cO cP cQ cR
 clear cC cE cF cG cH cI cJ cK cL cM cN cO cP cS cQ cR
 have uw8 := vW88.trans qw8
 clear qw8 vW88
 go_wp2_with fail
 have HXC := Lib.hid (fun W X m cap t (q : Dn w8 W) (h : (X = pc /\ m = R.length /\ cap = R.length /\ t = true) \/ (X = some ⟨g, o, none⟩ /\ m = k + 1 /\ cap = ca /\ t = false)) => has_two (XR.out W pc (rc.dn q)) (XL.out W (uw8.trans q)) h)
 have HE := Lib.hid (hE.dn uw8)
 clear rc rf
 have hS121 := kd_12 (W := w8) (Dn.refl _) ⟨Dn.refl _, cU, cV, cW, cX, cZ, d0, d1, d2, d4, d5, d7, d8⟩
 have HShS121 := Lib.hid hS121
 clear cU cV cW cX cZ d0 d1 d2 d4 d5 d7 d8
 refine wp_region_held_drew (S := fun w' => Dn w8 w' /\ w'.cell? ⟨g, o, none⟩ = some (.int .i8 x.a) /\ w'.cell? ⟨g, o + 1, none⟩ = some (.int .i64 x.b) /\ w'.cell? ⟨g, o + 2, none⟩ = some (.int .i8 x.c) /\ w'.cell? ⟨g, o + 3, none⟩ = some (.int .i64 x.d) /\ w'.cell? ⟨g, o + k * 4, none⟩ = some (.int .i8 z.a) /\ w'.cell? ⟨g, o + k * 4 + 1, none⟩ = some (.int .i64 z.b) /\ w'.cell? ⟨g, o + k * 4 + 2, none⟩ = some (.int .i8 z.c) /\ w'.cell? ⟨g, o + k * 4 + 3, none⟩ = some (.int .i64 z.d) /\ w'.cell? ⟨w6.heap.size, 0, none⟩ = some (.int .i8 x.a) /\ w'.cell? ⟨w6.heap.size, 1, none⟩ = some (.int .i64 x.b) /\ w'.cell? ⟨w7.heap.size, 0, none⟩ = some (.int .i8 z.c) /\ w'.cell? ⟨w7.heap.size, 1, none⟩ = some (.int .i64 z.d)) (by kernel_rfl) ?_ (fun hHeld => ?_)
 · (try dsimp only); (exact ke kd_12)
 refine tS 0 rfl ?_
 refine tS 1 rfl ?_
 refine tS 2 rfl ?_
 refine tS 3 rfl ?_
 refine tS 4 rfl ?_
 refine tS 5 rfl ?_
 refine tS 6 rfl ?_
 refine tS 7 rfl ?_
 refine tS 8 rfl ?_
 refine tS 9 rfl ?_
 refine tS 10 rfl ?_
 refine tS 11 rfl ?_
 refine tS 12 rfl ?_
 refine tS 13 rfl ?_
 refine tS 14 rfl ?_
 refine tS 15 rfl ?_
 refine tS 16 rfl ?_
 refine tS 17 rfl ?_
 refine tS 18 rfl ?_
 refine tS 19 rfl ?_
 refine tS 20 rfl ?_
 refine tS 21 rfl ?_
 refine tS 22 rfl ?_
 refine tS 23 rfl ?_
 refine tS 24 rfl ?_
 refine tS 25 rfl ?_
 refine tS 27 rfl ?_
 refine tS 28 rfl ?_
 refine rD 26 rfl (fun K hK => ?_)
 go_simp
 (first | (go_at_call 16; refine (HXC.out _ _ _ _ _ (by first | exact (Dn.refl _).drew | exact (‹Dn w8 _ /\ _› : _ /\ _).1 | exact And.left (by assumption)) (by first | exact Or.inl ⟨rfl, rfl, rfl, rfl⟩ | exact Or.inr ⟨rfl, rfl, rfl, rfl⟩)).mono ?_; rintro e wa ⟨rfl, qa⟩) | (go_at_call 9; refine (lives10 _ (HE.out.dn (by first | exact (Dn.refl _).drew | exact (‹Dn w8 _ /\ _› : _ /\ _).1 | exact And.left (by assumption)))).mono ?_; rintro e wa ⟨rfl, qa⟩))
 try go_wp2_with fail
 refine hK.out _ _ ?_ (fun hHeld => ?_)
 · (try dsimp only); (exact ke kd_12)
 clear hK K
 try simp only [Act.put, pL]
 refine rD 29 rfl (fun K hK => ?_)
 go_simp
 (first | (go_at_call 16; refine (HXC.out _ _ _ _ _ (by first | exact (Dn.refl _).drew | exact (‹Dn w8 _ /\ _› : _ /\ _).1 | exact And.left (by assumption)) (by first | exact Or.inl ⟨rfl, rfl, rfl, rfl⟩ | exact Or.inr ⟨rfl, rfl, rfl, rfl⟩)).mono ?_; rintro e wa ⟨rfl, qa⟩) | (go_at_call 9; refine (lives10 _ (HE.out.dn (by first | exact (Dn.refl _).drew | exact (‹Dn w8 _ /\ _› : _ /\ _).1 | exact And.left (by assumption)))).mono ?_; rintro e wa ⟨rfl, qa⟩))
 try go_wp2_with fail
 refine hK.out _ _ ?_ (fun hHeld => ?_)
 · (try dsimp only); (exact ke kd_12)
 clear hK K
 try simp only [Act.put, pL]
 refine tS 30 rfl ?_
 refine tS 31 rfl ?_
 refine tS 32 rfl ?_
 refine rD 33 rfl (fun K hK => ?_)
 go_simp
 (first | (go_at_call 16; refine (HXC.out _ _ _ _ _ (by first | exact (Dn.refl _).drew | exact (‹Dn w8 _ /\ _› : _ /\ _).1 | exact And.left (by assumption)) (by first | exact Or.inl ⟨rfl, rfl, rfl, rfl⟩ | exact Or.inr ⟨rfl, rfl, rfl, rfl⟩)).mono ?_; rintro e wa ⟨rfl, qa⟩) | (go_at_call 9; refine (lives10 _ (HE.out.dn (by first | exact (Dn.refl _).drew | exact (‹Dn w8 _ /\ _› : _ /\ _).1 | exact And.left (by assumption)))).mono ?_; rintro e wa ⟨rfl, qa⟩))
 try go_wp2_with fail
 refine hK.out _ _ ?_ (fun hHeld => ?_)
 · (try dsimp only); (exact ke kd_12)
 clear hK K
 try simp only [Act.put, pL]
 refine tS 34 rfl ?_
 refine tS 35 rfl ?_
 refine wpAnyH_done (by kernel_rfl) ?_ _
 all_goals skip
 all_goals
   clear hS121; obtain ⟨uf134, d9, dA, dB, dC, dD, dE, dF, dG, dH, dI, dJ, dK⟩ := (‹Dn w8 _ /\ _› : _ /\ _); obtain ⟨w135, rfl⟩ : ∃ w135 : World, w135 = wa := ⟨_, rfl⟩; have dL := nlt cT uf134.size; clear cT; have dM := nlt cY uf134.size; clear cY; have dN := nlt d3 uf134.size; clear d3; have dO := nlt d6 uf134.size; clear d6; have vuf134 := uw8.trans uf134; clear uf134 uw8 HShS121; go_wp2_with fail; go_ret; exact ⟨rfl, vuf134⟩
theorem runsetsOne_true (p : Option Addr) (ca : Nat) (L : List Rq) (day : Int) (w : World) (hR : Rl w p ca L) (hI : I6 L) (hd : I64 day) (hE : EnvR w) :
   Calls Tryz.prog 4 #[.slice p L.length ca, .int .i64 day] w fun ro w' => ro = .returned (.bool true) /\ Dn w w' := by
 have la := Nat.le_trans hR.le hR.mx
 by_cases h1 : 20 < L.length
 · exact one_a p L.length ca day w la h1 hE
 obtain ⟨c, hc⟩ : ∃ c, c = chkL L := ⟨_, rfl⟩
 have s1 := fun h : chkL L = 0 => chk_ok hI h
 have eC := fin_same (c := chkL L) (M := cplL L) (N := woL [⟨-1, 0, 1, 0⟩] L) (fun h => complement_eq (s1 h))
 have lC : chkL L = 0 -> (woL [⟨-1, 0, 1, 0⟩] L).length <= 100 := fun h => by
   rw [<- complement_eq (s1 h)]; have := cplL_len L; omega
 have fin_c : c = fin3 (chkL L) (woL [⟨-1, 0, 1, 0⟩] L) := by
   by_cases h0 : chkL L = 0
   · rw [hc, fin_zero h0 (by have := lC h0; omega), h0]
   · rw [hc, fin3_bad h0]
 have hbd : chkL L = 0 -> ∀ k, (woL [⟨-1, 0, 1, 0⟩] (L.take k)).length <= 300000 := fun h k => by
   rw [<- complement_eq (sep_take (s1 h) k)]; have h2 := cplL_len (L.take k)
   have h3 : (L.take k).length <= L.length := by simp; omega
   omega
 obtain ⟨R, hRR⟩ : ∃ R, R = res3 (chkL L) (woL [⟨-1, 0, 1, 0⟩] L) := ⟨_, rfl⟩
 have FK := Lib.hid (fun W (k : Dn w W) => rfCheckE p ca L c W hc (by omega) hI (hR.dn k).row)
 have HC := Lib.hid (fun W (k : Dn w W) => rsComplementS p ca L c R W (by rw [eC.1]; exact fin_c) (by rw [hRR, eC.2]) (by omega) hI (hR.dn k).row)
 have FC := Lib.hid (fun W (k : Dn w W) => rfComplementS p ca L c R W fin_c hRR hbd (by omega) hI (hR.dn k).row)
 have HN := Lib.hid (fun W (k : Dn w W) => rsCount p ca L (cntL L).1 (cntL L).2 W rfl rfl (by omega) hI (hR.dn k).row)
 have FN := Lib.hid (fun W (k : Dn w W) => rfCount p ca L (cntL L).1 (cntL L).2 W rfl rfl (by omega) hI (hR.dn k).row)
 have gv : GvT R R.length c R c /\ R.length <= 100000 := by
   by_cases h0 : chkL L = 0
   · have e : R = woL [⟨-1, 0, 1, 0⟩] L := by rw [hRR]; exact res_ok (fin_zero h0 (by have := lC h0; omega))
     exact ⟨Or.inl ⟨hc.trans h0, rfl, rfl, hc.trans h0⟩, by rw [e]; have := lC h0; omega⟩
   · have e : R = [] := by rw [hRR, res3_bad h0]
     exact ⟨Or.inr ⟨by rw [hc]; exact h0, e, rfl⟩, by rw [e]; simp⟩
 have GC := Lib.hid (fun W p1 p2 c2 (h : Row W p1 R) (k : Row W p2 R) => gv10 p1 R.length R c p2 c2 R c W gv.1 gv.2 h (fun _ => k))
 by_cases h0 : c = 0
 rotate_left
 · have hb : chkL L ≠ 0 := by rw [<- hc]; exact h0
   exact one_bad p L.length ca day c _ _ R w (by omega) FK HC FC HN FN
     (Lib.hid (fun W k => rsMin p ca L 0 0 c W (Or.inl ⟨hb, rfl, rfl, hc⟩) (by omega) hI (hR.dn k).row))
     (Lib.hid (fun W k => rsMax p ca L 0 0 c W (Or.inl ⟨hb, rfl, rfl, hc⟩) (by omega) hI (hR.dn k).row)) GC h0 hE
 have hb : chkL L = 0 := hc.symm.trans h0
 by_cases hl : L.length = 0
 · have hn : L = [] := List.length_eq_zero_iff.1 hl
   subst h0
   exact one_nil p L.length ca day _ _ R w (by omega) hl FK HC FC HN FN
     (Lib.hid (fun W k => rsMin p ca L 0 0 17 W (Or.inr (Or.inl ⟨hb, hn, rfl, rfl, rfl⟩)) (by omega) hI (hR.dn k).row))
     (Lib.hid (fun W k => rsMax p ca L 0 0 17 W (Or.inr (Or.inl ⟨hb, hn, rfl, rfl, rfl⟩)) (by omega) hI (hR.dn k).row)) GC hE
 obtain ⟨g, o, rfl, hcs⟩ := hR.row.cs (by omega)
 obtain ⟨k, hk⟩ : ∃ k, L.length = k + 1 := ⟨L.length - 1, by omega⟩
 obtain ⟨x, hx⟩ : ∃ x, L[0]? = some x := ⟨L[0], List.getElem?_eq_getElem _⟩
 obtain ⟨z, hz⟩ : ∃ z, L[k]? = some z := ⟨L[k], List.getElem?_eq_getElem _⟩
 have HM := Lib.hid (fun W (q : Dn w W) => rsMin (some ⟨g, o, none⟩) ca L x.a x.b 0 W (Or.inr (Or.inr ⟨hb, x, hx, rfl, rfl, rfl⟩)) (by omega) hI (hR.dn q).row)
 have HX := Lib.hid (fun W (q : Dn w W) => rsMax (some ⟨g, o, none⟩) ca L z.c z.d 0 W (Or.inr (Or.inr ⟨hb, z, by rw [hk]; exact hz, rfl, rfl, rfl⟩)) (by omega) hI (hR.dn q).row)
 have XL := Lib.hid (fun W (q : Dn w W) => rsHasS (some ⟨g, o, none⟩) ca L day _ W hd rfl (by omega) hI (hR.dn q).row)
 have sL := s1 hb
 have rR : R = cplL L := by rw [hRR, complement_eq sL]; exact res_ok (fin_zero hb (by have := lC hb; omega))
 have lR : R.length <= 100 := by rw [rR]; have := cplL_len L; omega
 have XR := Lib.hid (fun W p1 (q : Row W p1 R) => rsHasS p1 R.length R day (!decide (HasL L day)) W hd (by rw [rR]; exact (has_cpl sL hd).symm) (by omega) (by rw [rR]; exact i6_sep (cpl_law sL).1) q)
 have hgl := hcs.lt
 have ex := hcs.el 0 x hx
 have ez := hcs.el k z hz
 subst h0
 rw [hk] at FK HC FC HN FN HM HX XL ⊢
 cases hh : decide (HasL L day) with
 | true =>
   rw [hh] at XL XR; exact one_ok_true g o k ca x z day _ _ R w (by omega) hgl ex ez FK HC FC HN FN HM HX GC XR XL hE
 | false =>
   rw [hh] at XL XR; exact one_ok_false g o k ca x z day _ _ R w (by omega) hgl ex ez FK HC FC HN FN HM HX GC XR XL hE
def ev : Nat -> List Rq
 | 0 => []
 | n + 1 => ev n ++ [⟨0, 4 * (n : Int), 0, 4 * (n : Int) + 1⟩]
def od : Nat -> List Rq
 | 0 => []
 | n + 1 => od n ++ [⟨0, 4 * (n : Int) + 2, 0, 4 * (n : Int) + 3⟩]
theorem ev_len : ∀ n, (ev n).length = n
 | 0 => rfl
 | n + 1 => by simp [ev, ev_len n]
theorem od_len : ∀ n, (od n).length = n
 | 0 => rfl
 | n + 1 => by simp [od, od_len n]
theorem fin_run {a b : Int} (ha : I64 a) (hb : I64 b) (h : a <= b) : (⟨0, a, 0, b⟩ : Rq).ok /\ (⟨0, a, 0, b⟩ : Rq).lo = a /\ (⟨0, a, 0, b⟩ : Rq).hi = b := by
 have e1 : (⟨0, a, 0, b⟩ : Rq).lo = a := by show 36893488147419103232 * (0 : Int) + a = a; omega
 have e2 : (⟨0, a, 0, b⟩ : Rq).hi = b := by show 36893488147419103232 * (0 : Int) + b = b; omega
 refine ⟨⟨ha, hb, .inl rfl, .inl rfl, Int.le_refl 0, Int.le_refl 0, ?_⟩, e1, e2⟩
 show (⟨0, a, 0, b⟩ : Rq).lo <= (⟨0, a, 0, b⟩ : Rq).hi
 omega
theorem sep_one {x : Rq} (h : x.ok) : Sep [x] := ⟨h, fun y hy => (nomatch hy), trivial⟩
theorem mem_one {k : Int} {x : Rq} : Mem k [x] ↔ x.lo <= k /\ k <= x.hi := by
 rw [mem_cons]
 exact ⟨fun h => h.elim id (fun h => absurd h mem_nil), Or.inl⟩
theorem ev_law : ∀ n : Nat, n <= 5000 -> Sep (ev n) /\ (∀ x ∈ ev n, 0 <= x.lo /\ x.hi + 3 <= 4 * (n : Int)) /\ ∀ k, Mem k (ev n) ↔ 0 <= k /\ k < 4 * (n : Int) /\ (k % 4 = 0 \/ k % 4 = 1)
 | 0, _ => ⟨trivial, fun x hx => (nomatch hx), fun k => ⟨fun h => absurd h mem_nil, fun h => by omega⟩⟩
 | n + 1, hn => by
   obtain ⟨h1, h2, h3⟩ := ev_law n (by omega); obtain ⟨r1, r2, r3⟩ := fin_run (a := 4 * (n : Int)) (b := 4 * (n : Int) + 1) (by unfold I64; omega) (by unfold I64; omega) (by omega); refine ⟨Sep.append h1 (sep_one r1) (fun x hx y hy => ?_), fun x hx => ?_, fun k => ?_⟩
   · have := h2 x hx
     obtain rfl := List.mem_singleton.1 hy; omega
   · rcases List.mem_append.1 hx with e | e
     · have := h2 x e; omega
     · obtain rfl := List.mem_singleton.1 e
       omega
   · show Mem k (ev n ++ [_]) ↔ _
     rw [mem_append, mem_one, h3, r2, r3]; omega
theorem od_law : ∀ n : Nat, n <= 5000 -> Sep (od n) /\ (∀ x ∈ od n, 2 <= x.lo /\ x.hi + 1 <= 4 * (n : Int)) /\ ∀ k, Mem k (od n) ↔ 0 <= k /\ k < 4 * (n : Int) /\ (k % 4 = 2 \/ k % 4 = 3)
 | 0, _ => ⟨trivial, fun x hx => (nomatch hx), fun k => ⟨fun h => absurd h mem_nil, fun h => by omega⟩⟩
 | n + 1, hn => by
   obtain ⟨h1, h2, h3⟩ := od_law n (by omega); obtain ⟨r1, r2, r3⟩ := fin_run (a := 4 * (n : Int) + 2) (b := 4 * (n : Int) + 3) (by unfold I64; omega) (by unfold I64; omega) (by omega); refine ⟨Sep.append h1 (sep_one r1) (fun x hx y hy => ?_), fun x hx => ?_, fun k => ?_⟩
   · have := h2 x hx
     obtain rfl := List.mem_singleton.1 hy; omega
   · rcases List.mem_append.1 hx with e | e
     · have := h2 x e; omega
     · obtain rfl := List.mem_singleton.1 e
       omega
   · show Mem k (od n ++ [_]) ↔ _
     rw [mem_append, mem_one, h3, r2, r3]; omega
theorem whole_law : Sep [(⟨0, 0, 0, 16383⟩ : Rq)] /\ ∀ k, Mem k [(⟨0, 0, 0, 16383⟩ : Rq)] ↔ 0 <= k /\ k <= 16383 := by
 obtain ⟨r1, r2, r3⟩ := fin_run (a := 0) (b := 16383) (by decide) (by decide) (by decide)
 refine ⟨sep_one r1, fun k => ?_⟩
 rw [mem_one, r2, r3]
theorem kn_union {n : Nat} (hn : n = 4096) : (od n).foldl putL (ev n) = [⟨0, 0, 0, 16383⟩] := by
 obtain ⟨e1, _, e3⟩ := ev_law n (by omega)
 obtain ⟨o1, _, o3⟩ := od_law n (by omega)
 obtain ⟨w1, w3⟩ := whole_law
 refine sep_ext (sep_union e1 o1) w1 (fun k _ => ?_)
 rw [union_day e1 o1, e3, o3, w3]; omega
theorem kn_common {n : Nat} (hn : n = 4096) : cmL (ev n) [⟨0, 0, 0, 16383⟩] = ev n := by
 obtain ⟨e1, _, e3⟩ := ev_law n (by omega)
 obtain ⟨w1, w3⟩ := whole_law
 refine sep_ext (sep_common e1 w1) e1 (fun k _ => ?_)
 rw [common_day e1 w1, e3, w3]; omega
theorem kn_without {n : Nat} (hn : n = 4096) : woL [⟨0, 0, 0, 16383⟩] (ev n) = od n := by
 obtain ⟨e1, _, e3⟩ := ev_law n (by omega)
 obtain ⟨o1, _, o3⟩ := od_law n (by omega)
 obtain ⟨w1, w3⟩ := whole_law
 refine sep_ext (sep_without w1 e1) o1 (fun k hk => ?_)
 have hr := rep_i64 k
 rw [(wo_law w1 (Sep.all e1)).2 k hk, w3, e3, o3]; omega
theorem kn_cpl (n : Nat) (hn : n <= 4990) : cplL (ev (n + 1)) = ⟨-1, 0, 0, -1⟩ :: (od n ++ [⟨0, 4 * (n : Int) + 2, 1, 0⟩]) := by
 obtain ⟨e1, _, e3⟩ := ev_law (n + 1) (by omega)
 obtain ⟨o1, o2, o3⟩ := od_law n (by omega)
 have a2 : (⟨-1, 0, 0, -1⟩ : Rq).lo = -36893488147419103232 := by show 36893488147419103232 * (-1 : Int) + 0 = _; omega
 have a3 : (⟨-1, 0, 0, -1⟩ : Rq).hi = -1 := by show 36893488147419103232 * (0 : Int) + (-1) = _; omega
 have a1 : (⟨-1, 0, 0, -1⟩ : Rq).ok := ⟨by decide, by decide, by show eOk (-1) 0; decide, by show eOk 0 (-1); exact .inl rfl, by show (-1 : Int) <= 0; decide, Int.le_refl 0, by show (⟨-1, 0, 0, -1⟩ : Rq).lo <= (⟨-1, 0, 0, -1⟩ : Rq).hi; omega⟩
 have z2 : (⟨0, 4 * (n : Int) + 2, 1, 0⟩ : Rq).lo = 4 * (n : Int) + 2 := by show 36893488147419103232 * (0 : Int) + (4 * (n : Int) + 2) = _; omega
 have z3 : (⟨0, 4 * (n : Int) + 2, 1, 0⟩ : Rq).hi = 36893488147419103232 := by show 36893488147419103232 * (1 : Int) + 0 = _; omega
 have z1 : (⟨0, 4 * (n : Int) + 2, 1, 0⟩ : Rq).ok := ⟨by show I64 (4 * (n : Int) + 2); unfold I64; omega, by show I64 0; decide, .inl rfl, by show eOk 1 0; decide, Int.le_refl 0, by show (0 : Int) <= 1; decide, by show (⟨0, 4 * (n : Int) + 2, 1, 0⟩ : Rq).lo <= (⟨0, 4 * (n : Int) + 2, 1, 0⟩ : Rq).hi; omega⟩
 have s1 : Sep (od n ++ [⟨0, 4 * (n : Int) + 2, 1, 0⟩]) := Sep.append o1 (sep_one z1) (fun x hx y hy => by
  have := o2 x hx; obtain rfl := List.mem_singleton.1 hy
  omega)
 have s2 : Sep (⟨-1, 0, 0, -1⟩ :: (od n ++ [⟨0, 4 * (n : Int) + 2, 1, 0⟩])) := ⟨a1, fun y hy => by
  rcases List.mem_append.1 hy with e | e
  · have := o2 y e; omega
  · obtain rfl := List.mem_singleton.1 e
    omega, s1⟩
 refine sep_ext (cpl_law e1).1 s2 (fun k hk => ?_)
 have hr := rep_i64 k
 have hp := pt_cases hk
 unfold I64 at hp
 rw [(cpl_law e1).2 k hk, e3, mem_cons, mem_append, mem_one, o3, a2, a3, z2, z3]; omega
theorem kn_cpl_len (n : Nat) (hn : n <= 4990) : (cplL (ev (n + 1))).length = n + 2 := by rw [kn_cpl n hn]; simp [od_len]
theorem kn_sum : ∀ n : Nat, sumL (ev n) = 2 * (n : Int)
 | 0 => rfl
 | n + 1 => by
   have h : (ev (n + 1))[n]? = some ⟨0, 4 * (n : Int), 0, 4 * (n : Int) + 1⟩ := by
    show (ev n ++ [_])[n]? = _
    rw [List.getElem?_append_right (Nat.le_of_eq (ev_len _)), ev_len]; simp
   have h2 := sum_take h; rw [List.take_of_length_le (Nat.le_of_eq (ev_len _))] at h2
   have h3 : (ev (n + 1)).take n = ev n := by
    show (ev n ++ [_]).take n = _
    rw [List.take_append_of_le_length (Nat.le_of_eq (ev_len _).symm), List.take_of_length_le (Nat.le_of_eq (ev_len _))]
   rw [h3, kn_sum n] at h2; rw [h2]; push_cast; omega
theorem kn_fin : ∀ n : Nat, ∀ x ∈ ev n, infB x = false
 | 0, x, hx => (nomatch hx)
 | n + 1, x, hx => by
   rcases List.mem_append.1 hx with e | e
   · exact kn_fin n x e
   · obtain rfl := List.mem_singleton.1 e
     rfl
theorem kn_count {n : Nat} (hn : n = 4096) : cntL (ev n) = (8192, 0) := by
 obtain ⟨e1, _, _⟩ := ev_law n (by omega)
 have hI := i6_sep e1
 have ha : (ev n).any infB = false := by rw [List.any_eq_false]; intro x hx; rw [kn_fin n x hx]; simp
 rw [cnt_ref hI (chk_of hI e1 (by rw [ev_len]; omega)) ha, kn_sum, hn]
 rfl
def moreL (n : Nat) : List Rq := ev n ++ [⟨0, 20000, 0, 20001⟩]
theorem more_len (n : Nat) : (moreL n).length = n + 1 := by unfold moreL; rw [List.length_append, ev_len]; rfl
theorem more_sep {n : Nat} (hn : n = 4096) : Sep (moreL n) := by
 obtain ⟨e1, e2, _⟩ := ev_law n (by omega)
 obtain ⟨r1, r2, r3⟩ := fin_run (a := 20000) (b := 20001) (by decide) (by decide) (by decide)
 exact Sep.append e1 (sep_one r1) (fun x hx y hy => by
  have := e2 x hx; obtain rfl := List.mem_singleton.1 hy
  omega)
theorem kn_more {n : Nat} (hn : n = 4096) : [(⟨0, 20000, 0, 20001⟩ : Rq)].foldl putL (ev n) = moreL n := by
 obtain ⟨e1, e2, e3⟩ := ev_law n (by omega)
 obtain ⟨r1, r2, r3⟩ := fin_run (a := 20000) (b := 20001) (by decide) (by decide) (by decide)
 refine sep_ext (sep_union e1 (sep_one r1)) (more_sep hn) (fun k _ => ?_)
 unfold moreL
 rw [union_day e1 (sep_one r1), mem_append]
theorem ev_take (n : Nat) : (ev (n + 1)).take n = ev n := by
 show (ev n ++ [_]).take n = _
 rw [List.take_append_of_le_length (Nat.le_of_eq (ev_len _).symm), List.take_of_length_le (Nat.le_of_eq (ev_len _))]
end Go.Proofs.YtoghoddjkdoohaaGreatDoor
