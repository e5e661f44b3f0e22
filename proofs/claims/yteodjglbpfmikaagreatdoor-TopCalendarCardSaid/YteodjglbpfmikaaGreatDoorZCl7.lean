/- Walks and laws that the claim's theorem leans on: part 7. -/
import Derived.Test.YteodjglbpfmikaaGreatDoorZCl1
import Derived.Test.YteodjglbpfmikaaGreatDoorZCl6
namespace Go.Proofs.YteodjglbpfmikaaGreatDoor
set_option maxHeartbeats 4000000
set_option maxRecDepth 100000
open Go.RowKit
set_option linter.unusedVariables false
set_option linter.unusedSimpArgs false
structure PB (w0 w : World) (x : List UInt8) (y m d e : Int) : Prop where
 dn : Dn w0 w
 c0 : w.cell? ⟨w0.heap.size, 0, none⟩ = some (.int .i64 y)
 c1 : w.cell? ⟨w0.heap.size, 1, none⟩ = some (.int .i64 m)
 c2 : w.cell? ⟨w0.heap.size, 2, none⟩ = some (.int .i64 d)
 z0 : w.frozen? ⟨w0.heap.size, 0, none⟩ = false
 z1 : w.frozen? ⟨w0.heap.size, 1, none⟩ = false
 z2 : w.frozen? ⟨w0.heap.size, 2, none⟩ = false
 ce : w.cell? ⟨w0.heap.size + 1, 0, none⟩ = some (.int .i64 e)
 ze : w.frozen? ⟨w0.heap.size + 1, 0, none⟩ = false
 cr : w.cell? ⟨w0.heap.size + 1 + 1, 0, none⟩ = some (.string (bA x))
 zr : w.frozen? ⟨w0.heap.size + 1 + 1, 0, none⟩ = false
 lt : w0.heap.size + 1 + 1 < w.heap.size
theorem PB.start (w : World) (x : List UInt8) : PB w (((w.alloc (.cells #[.int .i64 0, .int .i64 0, .int .i64 0] 64)).alloc (.cells #[.int .i64 0] 31)).alloc (.cells #[.string (bA x)] 122)) x 0 0 0 0 := by
 refine ⟨(((Dn.refl _).alloc _).alloc _).alloc _, ?_, ?_, ?_, ?_, ?_, ?_, ?_, ?_, ?_, ?_, ?_⟩ <;> simp [go_sem]
theorem PB.go {w0 w w' : World} {x : List UInt8} {y m d e : Int} (h : PB w0 w x y m d e) (k : Dn w w') : PB w0 w' x y m d e :=
 have l := h.lt
 ⟨h.dn.trans k, k.cell h.c0, k.cell h.c1, k.cell h.c2, (k.frozen (a := ⟨w0.heap.size, 0, none⟩) (by show w0.heap.size < _; omega)).trans h.z0, (k.frozen (a := ⟨w0.heap.size, 1, none⟩) (by show w0.heap.size < _; omega)).trans h.z1, (k.frozen (a := ⟨w0.heap.size, 2, none⟩) (by show w0.heap.size < _; omega)).trans h.z2,
  k.cell h.ce, (k.frozen (a := ⟨w0.heap.size + 1, 0, none⟩) (by show w0.heap.size + 1 < _; omega)).trans h.ze, k.cell h.cr, (k.frozen (a := ⟨w0.heap.size + 1 + 1, 0, none⟩) h.lt).trans h.zr, Nat.lt_of_lt_of_le h.lt k.size⟩
theorem PB.setR {w0 w : World} {x : List UInt8} {y m d e : Int} (h : PB w0 w x y m d e) (x' : List UInt8) : PB w0 (w.setCell ⟨w0.heap.size + 1 + 1, 0, none⟩ (.string (bA x'))) x' y m d e := by
 have l := h.lt
 obtain ⟨dn, c0, c1, c2, z0, z1, z2, ce, ze, cr, zr, lt⟩ := h
 refine ⟨dn.setCell (by show w0.heap.size ≤ w0.heap.size + 1 + 1; omega) _, ?_, ?_, ?_, ?_, ?_, ?_, ?_, ?_, ?_, ?_, ?_⟩ <;> simp [go_sem, c0, c1, c2, z0, z1, z2, ce, ze, cr, zr] <;> omega
theorem PB.set0 {w0 w : World} {x : List UInt8} {y m d e : Int} (h : PB w0 w x y m d e) (v : Int) : PB w0 (w.setCell ⟨w0.heap.size, 0, none⟩ (.int .i64 v)) x v m d e := by
 have l := h.lt
 obtain ⟨dn, c0, c1, c2, z0, z1, z2, ce, ze, cr, zr, lt⟩ := h
 refine ⟨dn.setCell (Nat.le_refl _) _, ?_, ?_, ?_, ?_, ?_, ?_, ?_, ?_, ?_, ?_, ?_⟩ <;> simp [go_sem, c0, c1, c2, z0, z1, z2, ce, ze, cr, zr] <;> omega
theorem PB.set1 {w0 w : World} {x : List UInt8} {y m d e : Int} (h : PB w0 w x y m d e) (v : Int) : PB w0 (w.setCell ⟨w0.heap.size, 1, none⟩ (.int .i64 v)) x y v d e := by
 have l := h.lt
 obtain ⟨dn, c0, c1, c2, z0, z1, z2, ce, ze, cr, zr, lt⟩ := h
 refine ⟨dn.setCell (Nat.le_refl _) _, ?_, ?_, ?_, ?_, ?_, ?_, ?_, ?_, ?_, ?_, ?_⟩ <;> simp [go_sem, c0, c1, c2, z0, z1, z2, ce, ze, cr, zr] <;> omega
theorem PB.set2 {w0 w : World} {x : List UInt8} {y m d e : Int} (h : PB w0 w x y m d e) (v : Int) : PB w0 (w.setCell ⟨w0.heap.size, 2, none⟩ (.int .i64 v)) x y m v e := by
 have l := h.lt
 obtain ⟨dn, c0, c1, c2, z0, z1, z2, ce, ze, cr, zr, lt⟩ := h
 refine ⟨dn.setCell (Nat.le_refl _) _, ?_, ?_, ?_, ?_, ?_, ?_, ?_, ?_, ?_, ?_, ?_⟩ <;> simp [go_sem, c0, c1, c2, z0, z1, z2, ce, ze, cr, zr] <;> omega
theorem hasC (x : List UInt8) (b : Bool) (h : isNeg x = b) (W : World) : Calls Tryz.prog 86 #[.string (bA x), .string ⟨#[45]⟩] W fun e w' => e = .returned (.bool b) ∧ W = w' := by
 refine (Tryz.strings_HasPrefix (bA x) ⟨#[45]⟩ W).mono ?_
 rintro e w' ⟨he, rfl⟩
 refine ⟨he.trans ?_, rfl⟩
 have e1 : Lib.hasPrefix (bA x).data.toList (⟨#[45]⟩ : ByteArray).data.toList = b := (has_neg x).trans h
 rw [e1]
theorem cvNum4_at (v : Int) (B : Nat) (x : List UInt8) (w : World) (hv : clampV (Dg.nvA 0 (x.takeWhile nd)) = v) (hB : w.cell? ⟨B, 0, none⟩ = some (.string (bA x))) (hz : w.frozen? ⟨B, 0, none⟩ = false) (hl : B < w.heap.size) (hE : EnvK w) (hx : x.length ≤ 1000) (hp : Part (x.takeWhile nd) 4 true) :
  Calls Tryz.prog 88 #[.pointer (some ⟨B, 0, none⟩), .int .i64 4, .bool true] w fun e w' => e = .returned (.int .i64 v) ∧ ∃ W, Dn w W ∧ w' = W.setCell ⟨B, 0, none⟩ (.string (bA (x.dropWhile nd))) := by
 subst hv; exact cvNum4_ok B x w hB hz hl hE hx hp
theorem cvNum2_at (v : Int) (B : Nat) (x : List UInt8) (w : World) (hv : clampV (Dg.nvA 0 (x.takeWhile nd)) = v) (hB : w.cell? ⟨B, 0, none⟩ = some (.string (bA x))) (hz : w.frozen? ⟨B, 0, none⟩ = false) (hl : B < w.heap.size) (hE : EnvK w) (hx : x.length ≤ 1000) (hp : Part (x.takeWhile nd) 2 false) :
  Calls Tryz.prog 88 #[.pointer (some ⟨B, 0, none⟩), .int .i64 2, .bool false] w fun e w' => e = .returned (.int .i64 v) ∧ ∃ W, Dn w W ∧ w' = W.setCell ⟨B, 0, none⟩ (.string (bA (x.dropWhile nd))) := by
 subst hv; exact cvNum2_ok B x w hB hz hl hE hx hp
theorem cvPs_pa (x x2 x3 : List UInt8) (w : World) (hE : EnvK w) (v1 v2 v3 : Int) (hx0 : x.length ≤ 1000) (hx1 : x2.length ≤ 1000) (hx2 : x3.length ≤ 1000) (hneg : isNeg x = false) (hP1 : ¬ Part (x.takeWhile nd) 4 true) :
  Calls Tryz.prog 35 #[.string (bA x)] w fun o w' => o = .returned (.tuple #[.agg #[.int .i64 0, .int .i64 0, .int .i64 0], .int .i64 5]) ∧ Dn w w' := by
 have hmf : ∀ (fn : Fn) (first cap : Array Value) (w : World), (Instr.makeFunc fn first cap).run Tryz.prog w = .ok (.func fn first cap) w := fun _ _ _ _ => rfl
 have HN := Lib.hid (hneg)
 clear hneg
 have HP1 := Lib.hid hP1
 clear hP1
 go_enter_defers Tryz.func35, Tryz.ntmps35
 go_wp2_with fail
 have hp := PB.start w x
 obtain ⟨W0, hW0⟩ : ∃ W0, W0 = ((w.alloc (.cells #[.int .i64 0, .int .i64 0, .int .i64 0] 64)).alloc (.cells #[.int .i64 0] 31)).alloc (.cells #[.string (bA x)] 122) := ⟨_, rfl⟩
 rw [← hW0] at hp ⊢
 clear hW0
 refine (hasC x _ HN.out _).mono ?_
 rintro e _ ⟨rfl, rfl⟩
 obtain ⟨dn, c0, c1, c2, z0, z1, z2, ce, ze, cr, zr, lt⟩ := hp
 go_wp2_with fail
 refine (cvNum4_bad _ x _ cr zr lt (hE.dn dn) hx0 HP1.out).mono ?_
 rintro e _ ⟨rfl, q⟩
 have hp : PB w _ _ _ _ _ _ := ⟨dn, c0, c1, c2, z0, z1, z2, ce, ze, cr, zr, lt⟩
 clear dn c0 c1 c2 z0 z1 z2 ce ze cr zr lt
 replace hp := hp.go q
 obtain ⟨dn, c0, c1, c2, z0, z1, z2, ce, ze, cr, zr, lt⟩ := hp
 go_wp2_with fail
 refine leaves_cons (f := 85) (args := #[.pointer (some ⟨w.heap.size, 0, none⟩), .pointer (some ⟨w.heap.size + 1, 0, none⟩)]) (by simp) (by simp [go_sem]) ?_
 refine (catch_panicking w.heap.size (w.heap.size + 1) _ _ _ _ 5 [] _ c0 c1 c2 ce z0 z1 z2 ze (by omega)).mono ?_
 rintro o u' w'' ⟨rfl, rfl, ⟨k0, k1, k2, k3⟩, hd⟩
 show ∃ v, (results Tryz.f35 _).run Tryz.prog w'' = .ok v w'' ∧ _
 exact ⟨.tuple #[.agg #[.int .i64 0, .int .i64 0, .int .i64 0], .int .i64 5], by simp [results, Tryz.results35, go_sem, k0, k1, k2, k3], rfl, hd w dn (Nat.le_refl _) (by omega)⟩
theorem cvPs_pb (x x2 x3 : List UInt8) (w : World) (hE : EnvK w) (v1 v2 v3 : Int) (hx0 : x.length ≤ 1000) (hx1 : x2.length ≤ 1000) (hx2 : x3.length ≤ 1000) (hneg : isNeg x = false) (hP1 : Part (x.takeWhile nd) 4 true) (hv1 : clampV (Dg.nvA 0 (x.takeWhile nd)) = v1) (h2 : isNeg (x.dropWhile nd) = false) :
  Calls Tryz.prog 35 #[.string (bA x)] w fun o w' => o = .returned (.tuple #[.agg #[.int .i64 0, .int .i64 0, .int .i64 0], .int .i64 5]) ∧ Dn w w' := by
 have hmf : ∀ (fn : Fn) (first cap : Array Value) (w : World), (Instr.makeFunc fn first cap).run Tryz.prog w = .ok (.func fn first cap) w := fun _ _ _ _ => rfl
 have HN := Lib.hid (hneg)
 clear hneg
 have HP1 := Lib.hid hP1
 have Hv1 := Lib.hid hv1
 have H2 := Lib.hid h2
 clear hP1 hv1 h2
 go_enter_defers Tryz.func35, Tryz.ntmps35
 go_wp2_with fail
 have hp := PB.start w x
 obtain ⟨W0, hW0⟩ : ∃ W0, W0 = ((w.alloc (.cells #[.int .i64 0, .int .i64 0, .int .i64 0] 64)).alloc (.cells #[.int .i64 0] 31)).alloc (.cells #[.string (bA x)] 122) := ⟨_, rfl⟩
 rw [← hW0] at hp ⊢
 clear hW0
 refine (hasC x _ HN.out _).mono ?_
 rintro e _ ⟨rfl, rfl⟩
 obtain ⟨dn, c0, c1, c2, z0, z1, z2, ce, ze, cr, zr, lt⟩ := hp
 go_wp2_with fail
 refine (cvNum4_at v1 _ x _ Hv1.out cr zr lt (hE.dn dn) hx0 HP1.out).mono ?_
 rintro e _ ⟨rfl, V, q, rfl⟩
 have hp : PB w _ _ _ _ _ _ := ⟨dn, c0, c1, c2, z0, z1, z2, ce, ze, cr, zr, lt⟩
 clear dn c0 c1 c2 z0 z1 z2 ce ze cr zr lt
 replace hp := hp.go q
 clear q
 obtain ⟨W1, hW1⟩ : ∃ W1, W1 = V.setCell ⟨w.heap.size + 1 + 1, 0, none⟩ (.string (bA (x.dropWhile nd))) := ⟨_, rfl⟩
 replace hp := hp.setR (x.dropWhile nd)
 rw [← hW1] at hp ⊢
 clear hW1
 obtain ⟨dn, c0, c1, c2, z0, z1, z2, ce, ze, cr, zr, lt⟩ := hp
 go_wp2_with fail
 have hp : PB w _ _ _ _ _ _ := ⟨dn, c0, c1, c2, z0, z1, z2, ce, ze, cr, zr, lt⟩
 clear dn c0 c1 c2 z0 z1 z2 ce ze cr zr lt
 obtain ⟨W2, hW2⟩ : ∃ W2, W2 = W1.setCell ⟨w.heap.size, 0, none⟩ (.int .i64 v1) := ⟨_, rfl⟩
 replace hp := hp.set0 v1
 rw [← hW2] at hp ⊢
 clear hW2
 obtain ⟨dn, c0, c1, c2, z0, z1, z2, ce, ze, cr, zr, lt⟩ := hp
 refine (cvMin_bad _ _ _ cr H2.out).mono ?_
 rintro e _ ⟨rfl, rfl⟩
 go_wp2_with fail
 refine leaves_cons (f := 85) (args := #[.pointer (some ⟨w.heap.size, 0, none⟩), .pointer (some ⟨w.heap.size + 1, 0, none⟩)]) (by simp) (by simp [go_sem]) ?_
 refine (catch_panicking w.heap.size (w.heap.size + 1) _ _ _ _ 5 [] _ c0 c1 c2 ce z0 z1 z2 ze (by omega)).mono ?_
 rintro o u' w'' ⟨rfl, rfl, ⟨k0, k1, k2, k3⟩, hd⟩
 show ∃ v, (results Tryz.f35 _).run Tryz.prog w'' = .ok v w'' ∧ _
 exact ⟨.tuple #[.agg #[.int .i64 0, .int .i64 0, .int .i64 0], .int .i64 5], by simp [results, Tryz.results35, go_sem, k0, k1, k2, k3], rfl, hd w dn (Nat.le_refl _) (by omega)⟩
theorem cvPs_pc (x x2 x3 : List UInt8) (w : World) (hE : EnvK w) (v1 v2 v3 : Int) (hx0 : x.length ≤ 1000) (hx1 : x2.length ≤ 1000) (hx2 : x3.length ≤ 1000) (hneg : isNeg x = false) (hP1 : Part (x.takeWhile nd) 4 true) (hv1 : clampV (Dg.nvA 0 (x.takeWhile nd)) = v1) (h2 : x.dropWhile nd = 45 :: x2) (hP2 : ¬ Part (x2.takeWhile nd) 2 false) :
  Calls Tryz.prog 35 #[.string (bA x)] w fun o w' => o = .returned (.tuple #[.agg #[.int .i64 0, .int .i64 0, .int .i64 0], .int .i64 5]) ∧ Dn w w' := by
 have hmf : ∀ (fn : Fn) (first cap : Array Value) (w : World), (Instr.makeFunc fn first cap).run Tryz.prog w = .ok (.func fn first cap) w := fun _ _ _ _ => rfl
 have HN := Lib.hid (hneg)
 clear hneg
 have HP1 := Lib.hid hP1
 have Hv1 := Lib.hid hv1
 have H2 := Lib.hid h2
 have HP2 := Lib.hid hP2
 clear hP1 hv1 h2 hP2
 go_enter_defers Tryz.func35, Tryz.ntmps35
 go_wp2_with fail
 have hp := PB.start w x
 obtain ⟨W0, hW0⟩ : ∃ W0, W0 = ((w.alloc (.cells #[.int .i64 0, .int .i64 0, .int .i64 0] 64)).alloc (.cells #[.int .i64 0] 31)).alloc (.cells #[.string (bA x)] 122) := ⟨_, rfl⟩
 rw [← hW0] at hp ⊢
 clear hW0
 refine (hasC x _ HN.out _).mono ?_
 rintro e _ ⟨rfl, rfl⟩
 obtain ⟨dn, c0, c1, c2, z0, z1, z2, ce, ze, cr, zr, lt⟩ := hp
 go_wp2_with fail
 refine (cvNum4_at v1 _ x _ Hv1.out cr zr lt (hE.dn dn) hx0 HP1.out).mono ?_
 rintro e _ ⟨rfl, V, q, rfl⟩
 have hp : PB w _ _ _ _ _ _ := ⟨dn, c0, c1, c2, z0, z1, z2, ce, ze, cr, zr, lt⟩
 clear dn c0 c1 c2 z0 z1 z2 ce ze cr zr lt
 replace hp := hp.go q
 clear q
 obtain ⟨W1, hW1⟩ : ∃ W1, W1 = V.setCell ⟨w.heap.size + 1 + 1, 0, none⟩ (.string (bA (x.dropWhile nd))) := ⟨_, rfl⟩
 replace hp := hp.setR (x.dropWhile nd)
 rw [← hW1] at hp ⊢
 clear hW1
 obtain ⟨dn, c0, c1, c2, z0, z1, z2, ce, ze, cr, zr, lt⟩ := hp
 go_wp2_with fail
 have hp : PB w _ _ _ _ _ _ := ⟨dn, c0, c1, c2, z0, z1, z2, ce, ze, cr, zr, lt⟩
 clear dn c0 c1 c2 z0 z1 z2 ce ze cr zr lt
 obtain ⟨W2, hW2⟩ : ∃ W2, W2 = W1.setCell ⟨w.heap.size, 0, none⟩ (.int .i64 v1) := ⟨_, rfl⟩
 replace hp := hp.set0 v1
 rw [← hW2] at hp ⊢
 clear hW2
 obtain ⟨dn, c0, c1, c2, z0, z1, z2, ce, ze, cr, zr, lt⟩ := hp
 rw [H2.out] at cr
 refine (cvMin_ok _ x2 _ cr zr).mono ?_
 rintro e _ ⟨rfl, rfl⟩
 have hp : PB w _ _ _ _ _ _ := ⟨dn, c0, c1, c2, z0, z1, z2, ce, ze, cr, zr, lt⟩
 clear dn c0 c1 c2 z0 z1 z2 ce ze cr zr lt
 obtain ⟨W3, hW3⟩ : ∃ W3, W3 = W2.setCell ⟨w.heap.size + 1 + 1, 0, none⟩ (.string (bA x2)) := ⟨_, rfl⟩
 replace hp := hp.setR x2
 rw [← hW3] at hp ⊢
 clear hW3
 obtain ⟨dn, c0, c1, c2, z0, z1, z2, ce, ze, cr, zr, lt⟩ := hp
 go_wp2_with fail
 refine (cvNum2_bad _ x2 _ cr zr lt (hE.dn dn) hx1 HP2.out).mono ?_
 rintro e _ ⟨rfl, q⟩
 have hp : PB w _ _ _ _ _ _ := ⟨dn, c0, c1, c2, z0, z1, z2, ce, ze, cr, zr, lt⟩
 clear dn c0 c1 c2 z0 z1 z2 ce ze cr zr lt
 replace hp := hp.go q
 obtain ⟨dn, c0, c1, c2, z0, z1, z2, ce, ze, cr, zr, lt⟩ := hp
 go_wp2_with fail
 refine leaves_cons (f := 85) (args := #[.pointer (some ⟨w.heap.size, 0, none⟩), .pointer (some ⟨w.heap.size + 1, 0, none⟩)]) (by simp) (by simp [go_sem]) ?_
 refine (catch_panicking w.heap.size (w.heap.size + 1) _ _ _ _ 5 [] _ c0 c1 c2 ce z0 z1 z2 ze (by omega)).mono ?_
 rintro o u' w'' ⟨rfl, rfl, ⟨k0, k1, k2, k3⟩, hd⟩
 show ∃ v, (results Tryz.f35 _).run Tryz.prog w'' = .ok v w'' ∧ _
 exact ⟨.tuple #[.agg #[.int .i64 0, .int .i64 0, .int .i64 0], .int .i64 5], by simp [results, Tryz.results35, go_sem, k0, k1, k2, k3], rfl, hd w dn (Nat.le_refl _) (by omega)⟩
theorem cvPs_pd (x x2 x3 : List UInt8) (w : World) (hE : EnvK w) (v1 v2 v3 : Int) (hx0 : x.length ≤ 1000) (hx1 : x2.length ≤ 1000) (hx2 : x3.length ≤ 1000) (hneg : isNeg x = false) (hP1 : Part (x.takeWhile nd) 4 true) (hv1 : clampV (Dg.nvA 0 (x.takeWhile nd)) = v1) (h2 : x.dropWhile nd = 45 :: x2) (hP2 : Part (x2.takeWhile nd) 2 false) (hv2 : clampV (Dg.nvA 0 (x2.takeWhile nd)) = v2) (h3 : isNeg (x2.dropWhile nd) = false) :
  Calls Tryz.prog 35 #[.string (bA x)] w fun o w' => o = .returned (.tuple #[.agg #[.int .i64 0, .int .i64 0, .int .i64 0], .int .i64 5]) ∧ Dn w w' := by
 have hmf : ∀ (fn : Fn) (first cap : Array Value) (w : World), (Instr.makeFunc fn first cap).run Tryz.prog w = .ok (.func fn first cap) w := fun _ _ _ _ => rfl
 have HN := Lib.hid (hneg)
 clear hneg
 have HP1 := Lib.hid hP1
 have Hv1 := Lib.hid hv1
 have H2 := Lib.hid h2
 have HP2 := Lib.hid hP2
 have Hv2 := Lib.hid hv2
 have H3 := Lib.hid h3
 clear hP1 hv1 h2 hP2 hv2 h3
 go_enter_defers Tryz.func35, Tryz.ntmps35
 go_wp2_with fail
 have hp := PB.start w x
 obtain ⟨W0, hW0⟩ : ∃ W0, W0 = ((w.alloc (.cells #[.int .i64 0, .int .i64 0, .int .i64 0] 64)).alloc (.cells #[.int .i64 0] 31)).alloc (.cells #[.string (bA x)] 122) := ⟨_, rfl⟩
 rw [← hW0] at hp ⊢
 clear hW0
 refine (hasC x _ HN.out _).mono ?_
 rintro e _ ⟨rfl, rfl⟩
 obtain ⟨dn, c0, c1, c2, z0, z1, z2, ce, ze, cr, zr, lt⟩ := hp
 go_wp2_with fail
 refine (cvNum4_at v1 _ x _ Hv1.out cr zr lt (hE.dn dn) hx0 HP1.out).mono ?_
 rintro e _ ⟨rfl, V, q, rfl⟩
 have hp : PB w _ _ _ _ _ _ := ⟨dn, c0, c1, c2, z0, z1, z2, ce, ze, cr, zr, lt⟩
 clear dn c0 c1 c2 z0 z1 z2 ce ze cr zr lt
 replace hp := hp.go q
 clear q
 obtain ⟨W1, hW1⟩ : ∃ W1, W1 = V.setCell ⟨w.heap.size + 1 + 1, 0, none⟩ (.string (bA (x.dropWhile nd))) := ⟨_, rfl⟩
 replace hp := hp.setR (x.dropWhile nd)
 rw [← hW1] at hp ⊢
 clear hW1
 obtain ⟨dn, c0, c1, c2, z0, z1, z2, ce, ze, cr, zr, lt⟩ := hp
 go_wp2_with fail
 have hp : PB w _ _ _ _ _ _ := ⟨dn, c0, c1, c2, z0, z1, z2, ce, ze, cr, zr, lt⟩
 clear dn c0 c1 c2 z0 z1 z2 ce ze cr zr lt
 obtain ⟨W2, hW2⟩ : ∃ W2, W2 = W1.setCell ⟨w.heap.size, 0, none⟩ (.int .i64 v1) := ⟨_, rfl⟩
 replace hp := hp.set0 v1
 rw [← hW2] at hp ⊢
 clear hW2
 obtain ⟨dn, c0, c1, c2, z0, z1, z2, ce, ze, cr, zr, lt⟩ := hp
 rw [H2.out] at cr
 refine (cvMin_ok _ x2 _ cr zr).mono ?_
 rintro e _ ⟨rfl, rfl⟩
 have hp : PB w _ _ _ _ _ _ := ⟨dn, c0, c1, c2, z0, z1, z2, ce, ze, cr, zr, lt⟩
 clear dn c0 c1 c2 z0 z1 z2 ce ze cr zr lt
 obtain ⟨W3, hW3⟩ : ∃ W3, W3 = W2.setCell ⟨w.heap.size + 1 + 1, 0, none⟩ (.string (bA x2)) := ⟨_, rfl⟩
 replace hp := hp.setR x2
 rw [← hW3] at hp ⊢
 clear hW3
 obtain ⟨dn, c0, c1, c2, z0, z1, z2, ce, ze, cr, zr, lt⟩ := hp
 go_wp2_with fail
 refine (cvNum2_at v2 _ x2 _ Hv2.out cr zr lt (hE.dn dn) hx1 HP2.out).mono ?_
 rintro e _ ⟨rfl, V, q, rfl⟩
 have hp : PB w _ _ _ _ _ _ := ⟨dn, c0, c1, c2, z0, z1, z2, ce, ze, cr, zr, lt⟩
 clear dn c0 c1 c2 z0 z1 z2 ce ze cr zr lt
 replace hp := hp.go q
 clear q
 obtain ⟨W4, hW4⟩ : ∃ W4, W4 = V.setCell ⟨w.heap.size + 1 + 1, 0, none⟩ (.string (bA (x2.dropWhile nd))) := ⟨_, rfl⟩
 replace hp := hp.setR (x2.dropWhile nd)
 rw [← hW4] at hp ⊢
 clear hW4
 obtain ⟨dn, c0, c1, c2, z0, z1, z2, ce, ze, cr, zr, lt⟩ := hp
 go_wp2_with fail
 have hp : PB w _ _ _ _ _ _ := ⟨dn, c0, c1, c2, z0, z1, z2, ce, ze, cr, zr, lt⟩
 clear dn c0 c1 c2 z0 z1 z2 ce ze cr zr lt
 obtain ⟨W5, hW5⟩ : ∃ W5, W5 = W4.setCell ⟨w.heap.size, 1, none⟩ (.int .i64 v2) := ⟨_, rfl⟩
 replace hp := hp.set1 v2
 rw [← hW5] at hp ⊢
 clear hW5
 obtain ⟨dn, c0, c1, c2, z0, z1, z2, ce, ze, cr, zr, lt⟩ := hp
 refine (cvMin_bad _ _ _ cr H3.out).mono ?_
 rintro e _ ⟨rfl, rfl⟩
 go_wp2_with fail
 refine leaves_cons (f := 85) (args := #[.pointer (some ⟨w.heap.size, 0, none⟩), .pointer (some ⟨w.heap.size + 1, 0, none⟩)]) (by simp) (by simp [go_sem]) ?_
 refine (catch_panicking w.heap.size (w.heap.size + 1) _ _ _ _ 5 [] _ c0 c1 c2 ce z0 z1 z2 ze (by omega)).mono ?_
 rintro o u' w'' ⟨rfl, rfl, ⟨k0, k1, k2, k3⟩, hd⟩
 show ∃ v, (results Tryz.f35 _).run Tryz.prog w'' = .ok v w'' ∧ _
 exact ⟨.tuple #[.agg #[.int .i64 0, .int .i64 0, .int .i64 0], .int .i64 5], by simp [results, Tryz.results35, go_sem, k0, k1, k2, k3], rfl, hd w dn (Nat.le_refl _) (by omega)⟩
theorem cvPs_pe (x x2 x3 : List UInt8) (w : World) (hE : EnvK w) (v1 v2 v3 : Int) (hx0 : x.length ≤ 1000) (hx1 : x2.length ≤ 1000) (hx2 : x3.length ≤ 1000) (hneg : isNeg x = false) (hP1 : Part (x.takeWhile nd) 4 true) (hv1 : clampV (Dg.nvA 0 (x.takeWhile nd)) = v1) (h2 : x.dropWhile nd = 45 :: x2) (hP2 : Part (x2.takeWhile nd) 2 false) (hv2 : clampV (Dg.nvA 0 (x2.takeWhile nd)) = v2) (h3 : x2.dropWhile nd = 45 :: x3) (hP3 : ¬ Part (x3.takeWhile nd) 2 false) :
  Calls Tryz.prog 35 #[.string (bA x)] w fun o w' => o = .returned (.tuple #[.agg #[.int .i64 0, .int .i64 0, .int .i64 0], .int .i64 5]) ∧ Dn w w' := by
 have hmf : ∀ (fn : Fn) (first cap : Array Value) (w : World), (Instr.makeFunc fn first cap).run Tryz.prog w = .ok (.func fn first cap) w := fun _ _ _ _ => rfl
 have HN := Lib.hid (hneg)
 clear hneg
 have HP1 := Lib.hid hP1
 have Hv1 := Lib.hid hv1
 have H2 := Lib.hid h2
 have HP2 := Lib.hid hP2
 have Hv2 := Lib.hid hv2
 have H3 := Lib.hid h3
 have HP3 := Lib.hid hP3
 clear hP1 hv1 h2 hP2 hv2 h3 hP3
 go_enter_defers Tryz.func35, Tryz.ntmps35
 go_wp2_with fail
 have hp := PB.start w x
 obtain ⟨W0, hW0⟩ : ∃ W0, W0 = ((w.alloc (.cells #[.int .i64 0, .int .i64 0, .int .i64 0] 64)).alloc (.cells #[.int .i64 0] 31)).alloc (.cells #[.string (bA x)] 122) := ⟨_, rfl⟩
 rw [← hW0] at hp ⊢
 clear hW0
 refine (hasC x _ HN.out _).mono ?_
 rintro e _ ⟨rfl, rfl⟩
 obtain ⟨dn, c0, c1, c2, z0, z1, z2, ce, ze, cr, zr, lt⟩ := hp
 go_wp2_with fail
 refine (cvNum4_at v1 _ x _ Hv1.out cr zr lt (hE.dn dn) hx0 HP1.out).mono ?_
 rintro e _ ⟨rfl, V, q, rfl⟩
 have hp : PB w _ _ _ _ _ _ := ⟨dn, c0, c1, c2, z0, z1, z2, ce, ze, cr, zr, lt⟩
 clear dn c0 c1 c2 z0 z1 z2 ce ze cr zr lt
 replace hp := hp.go q
 clear q
 obtain ⟨W1, hW1⟩ : ∃ W1, W1 = V.setCell ⟨w.heap.size + 1 + 1, 0, none⟩ (.string (bA (x.dropWhile nd))) := ⟨_, rfl⟩
 replace hp := hp.setR (x.dropWhile nd)
 rw [← hW1] at hp ⊢
 clear hW1
 obtain ⟨dn, c0, c1, c2, z0, z1, z2, ce, ze, cr, zr, lt⟩ := hp
 go_wp2_with fail
 have hp : PB w _ _ _ _ _ _ := ⟨dn, c0, c1, c2, z0, z1, z2, ce, ze, cr, zr, lt⟩
 clear dn c0 c1 c2 z0 z1 z2 ce ze cr zr lt
 obtain ⟨W2, hW2⟩ : ∃ W2, W2 = W1.setCell ⟨w.heap.size, 0, none⟩ (.int .i64 v1) := ⟨_, rfl⟩
 replace hp := hp.set0 v1
 rw [← hW2] at hp ⊢
 clear hW2
 obtain ⟨dn, c0, c1, c2, z0, z1, z2, ce, ze, cr, zr, lt⟩ := hp
 rw [H2.out] at cr
 refine (cvMin_ok _ x2 _ cr zr).mono ?_
 rintro e _ ⟨rfl, rfl⟩
 have hp : PB w _ _ _ _ _ _ := ⟨dn, c0, c1, c2, z0, z1, z2, ce, ze, cr, zr, lt⟩
 clear dn c0 c1 c2 z0 z1 z2 ce ze cr zr lt
 obtain ⟨W3, hW3⟩ : ∃ W3, W3 = W2.setCell ⟨w.heap.size + 1 + 1, 0, none⟩ (.string (bA x2)) := ⟨_, rfl⟩
 replace hp := hp.setR x2
 rw [← hW3] at hp ⊢
 clear hW3
 obtain ⟨dn, c0, c1, c2, z0, z1, z2, ce, ze, cr, zr, lt⟩ := hp
 go_wp2_with fail
 refine (cvNum2_at v2 _ x2 _ Hv2.out cr zr lt (hE.dn dn) hx1 HP2.out).mono ?_
 rintro e _ ⟨rfl, V, q, rfl⟩
 have hp : PB w _ _ _ _ _ _ := ⟨dn, c0, c1, c2, z0, z1, z2, ce, ze, cr, zr, lt⟩
 clear dn c0 c1 c2 z0 z1 z2 ce ze cr zr lt
 replace hp := hp.go q
 clear q
 obtain ⟨W4, hW4⟩ : ∃ W4, W4 = V.setCell ⟨w.heap.size + 1 + 1, 0, none⟩ (.string (bA (x2.dropWhile nd))) := ⟨_, rfl⟩
 replace hp := hp.setR (x2.dropWhile nd)
 rw [← hW4] at hp ⊢
 clear hW4
 obtain ⟨dn, c0, c1, c2, z0, z1, z2, ce, ze, cr, zr, lt⟩ := hp
 go_wp2_with fail
 have hp : PB w _ _ _ _ _ _ := ⟨dn, c0, c1, c2, z0, z1, z2, ce, ze, cr, zr, lt⟩
 clear dn c0 c1 c2 z0 z1 z2 ce ze cr zr lt
 obtain ⟨W5, hW5⟩ : ∃ W5, W5 = W4.setCell ⟨w.heap.size, 1, none⟩ (.int .i64 v2) := ⟨_, rfl⟩
 replace hp := hp.set1 v2
 rw [← hW5] at hp ⊢
 clear hW5
 obtain ⟨dn, c0, c1, c2, z0, z1, z2, ce, ze, cr, zr, lt⟩ := hp
 rw [H3.out] at cr
 refine (cvMin_ok _ x3 _ cr zr).mono ?_
 rintro e _ ⟨rfl, rfl⟩
 have hp : PB w _ _ _ _ _ _ := ⟨dn, c0, c1, c2, z0, z1, z2, ce, ze, cr, zr, lt⟩
 clear dn c0 c1 c2 z0 z1 z2 ce ze cr zr lt
 obtain ⟨W6, hW6⟩ : ∃ W6, W6 = W5.setCell ⟨w.heap.size + 1 + 1, 0, none⟩ (.string (bA x3)) := ⟨_, rfl⟩
 replace hp := hp.setR x3
 rw [← hW6] at hp ⊢
 clear hW6
 obtain ⟨dn, c0, c1, c2, z0, z1, z2, ce, ze, cr, zr, lt⟩ := hp
 go_wp2_with fail
 refine (cvNum2_bad _ x3 _ cr zr lt (hE.dn dn) hx2 HP3.out).mono ?_
 rintro e _ ⟨rfl, q⟩
 have hp : PB w _ _ _ _ _ _ := ⟨dn, c0, c1, c2, z0, z1, z2, ce, ze, cr, zr, lt⟩
 clear dn c0 c1 c2 z0 z1 z2 ce ze cr zr lt
 replace hp := hp.go q
 obtain ⟨dn, c0, c1, c2, z0, z1, z2, ce, ze, cr, zr, lt⟩ := hp
 go_wp2_with fail
 refine leaves_cons (f := 85) (args := #[.pointer (some ⟨w.heap.size, 0, none⟩), .pointer (some ⟨w.heap.size + 1, 0, none⟩)]) (by simp) (by simp [go_sem]) ?_
 refine (catch_panicking w.heap.size (w.heap.size + 1) _ _ _ _ 5 [] _ c0 c1 c2 ce z0 z1 z2 ze (by omega)).mono ?_
 rintro o u' w'' ⟨rfl, rfl, ⟨k0, k1, k2, k3⟩, hd⟩
 show ∃ v, (results Tryz.f35 _).run Tryz.prog w'' = .ok v w'' ∧ _
 exact ⟨.tuple #[.agg #[.int .i64 0, .int .i64 0, .int .i64 0], .int .i64 5], by simp [results, Tryz.results35, go_sem, k0, k1, k2, k3], rfl, hd w dn (Nat.le_refl _) (by omega)⟩
theorem cvPs_pf (x x2 x3 : List UInt8) (w : World) (hE : EnvK w) (v1 v2 v3 : Int) (hx0 : x.length ≤ 1000) (hx1 : x2.length ≤ 1000) (hx2 : x3.length ≤ 1000) (hneg : isNeg x = false) (hP1 : Part (x.takeWhile nd) 4 true) (hv1 : clampV (Dg.nvA 0 (x.takeWhile nd)) = v1) (h2 : x.dropWhile nd = 45 :: x2) (hP2 : Part (x2.takeWhile nd) 2 false) (hv2 : clampV (Dg.nvA 0 (x2.takeWhile nd)) = v2) (h3 : x2.dropWhile nd = 45 :: x3) (hP3 : Part (x3.takeWhile nd) 2 false) (hv3 : clampV (Dg.nvA 0 (x3.takeWhile nd)) = v3) (hr : x3.dropWhile nd ≠ []) :
  Calls Tryz.prog 35 #[.string (bA x)] w fun o w' => o = .returned (.tuple #[.agg #[.int .i64 0, .int .i64 0, .int .i64 0], .int .i64 5]) ∧ Dn w w' := by
 have hmf : ∀ (fn : Fn) (first cap : Array Value) (w : World), (Instr.makeFunc fn first cap).run Tryz.prog w = .ok (.func fn first cap) w := fun _ _ _ _ => rfl
 have HN := Lib.hid (hneg)
 clear hneg
 have HP1 := Lib.hid hP1
 have Hv1 := Lib.hid hv1
 have H2 := Lib.hid h2
 have HP2 := Lib.hid hP2
 have Hv2 := Lib.hid hv2
 have H3 := Lib.hid h3
 have HP3 := Lib.hid hP3
 have Hv3 := Lib.hid hv3
 clear hP1 hv1 h2 hP2 hv2 h3 hP3 hv3
 have r1 : ¬ x3.dropWhile nd = [] := hr
 go_enter_defers Tryz.func35, Tryz.ntmps35
 go_wp2_with fail
 have hp := PB.start w x
 obtain ⟨W0, hW0⟩ : ∃ W0, W0 = ((w.alloc (.cells #[.int .i64 0, .int .i64 0, .int .i64 0] 64)).alloc (.cells #[.int .i64 0] 31)).alloc (.cells #[.string (bA x)] 122) := ⟨_, rfl⟩
 rw [← hW0] at hp ⊢
 clear hW0
 refine (hasC x _ HN.out _).mono ?_
 rintro e _ ⟨rfl, rfl⟩
 obtain ⟨dn, c0, c1, c2, z0, z1, z2, ce, ze, cr, zr, lt⟩ := hp
 go_wp2_with fail
 refine (cvNum4_at v1 _ x _ Hv1.out cr zr lt (hE.dn dn) hx0 HP1.out).mono ?_
 rintro e _ ⟨rfl, V, q, rfl⟩
 have hp : PB w _ _ _ _ _ _ := ⟨dn, c0, c1, c2, z0, z1, z2, ce, ze, cr, zr, lt⟩
 clear dn c0 c1 c2 z0 z1 z2 ce ze cr zr lt
 replace hp := hp.go q
 clear q
 obtain ⟨W1, hW1⟩ : ∃ W1, W1 = V.setCell ⟨w.heap.size + 1 + 1, 0, none⟩ (.string (bA (x.dropWhile nd))) := ⟨_, rfl⟩
 replace hp := hp.setR (x.dropWhile nd)
 rw [← hW1] at hp ⊢
 clear hW1
 obtain ⟨dn, c0, c1, c2, z0, z1, z2, ce, ze, cr, zr, lt⟩ := hp
 go_wp2_with fail
 have hp : PB w _ _ _ _ _ _ := ⟨dn, c0, c1, c2, z0, z1, z2, ce, ze, cr, zr, lt⟩
 clear dn c0 c1 c2 z0 z1 z2 ce ze cr zr lt
 obtain ⟨W2, hW2⟩ : ∃ W2, W2 = W1.setCell ⟨w.heap.size, 0, none⟩ (.int .i64 v1) := ⟨_, rfl⟩
 replace hp := hp.set0 v1
 rw [← hW2] at hp ⊢
 clear hW2
 obtain ⟨dn, c0, c1, c2, z0, z1, z2, ce, ze, cr, zr, lt⟩ := hp
 rw [H2.out] at cr
 refine (cvMin_ok _ x2 _ cr zr).mono ?_
 rintro e _ ⟨rfl, rfl⟩
 have hp : PB w _ _ _ _ _ _ := ⟨dn, c0, c1, c2, z0, z1, z2, ce, ze, cr, zr, lt⟩
 clear dn c0 c1 c2 z0 z1 z2 ce ze cr zr lt
 obtain ⟨W3, hW3⟩ : ∃ W3, W3 = W2.setCell ⟨w.heap.size + 1 + 1, 0, none⟩ (.string (bA x2)) := ⟨_, rfl⟩
 replace hp := hp.setR x2
 rw [← hW3] at hp ⊢
 clear hW3
 obtain ⟨dn, c0, c1, c2, z0, z1, z2, ce, ze, cr, zr, lt⟩ := hp
 go_wp2_with fail
 refine (cvNum2_at v2 _ x2 _ Hv2.out cr zr lt (hE.dn dn) hx1 HP2.out).mono ?_
 rintro e _ ⟨rfl, V, q, rfl⟩
 have hp : PB w _ _ _ _ _ _ := ⟨dn, c0, c1, c2, z0, z1, z2, ce, ze, cr, zr, lt⟩
 clear dn c0 c1 c2 z0 z1 z2 ce ze cr zr lt
 replace hp := hp.go q
 clear q
 obtain ⟨W4, hW4⟩ : ∃ W4, W4 = V.setCell ⟨w.heap.size + 1 + 1, 0, none⟩ (.string (bA (x2.dropWhile nd))) := ⟨_, rfl⟩
 replace hp := hp.setR (x2.dropWhile nd)
 rw [← hW4] at hp ⊢
 clear hW4
 obtain ⟨dn, c0, c1, c2, z0, z1, z2, ce, ze, cr, zr, lt⟩ := hp
 go_wp2_with fail
 have hp : PB w _ _ _ _ _ _ := ⟨dn, c0, c1, c2, z0, z1, z2, ce, ze, cr, zr, lt⟩
 clear dn c0 c1 c2 z0 z1 z2 ce ze cr zr lt
 obtain ⟨W5, hW5⟩ : ∃ W5, W5 = W4.setCell ⟨w.heap.size, 1, none⟩ (.int .i64 v2) := ⟨_, rfl⟩
 replace hp := hp.set1 v2
 rw [← hW5] at hp ⊢
 clear hW5
 obtain ⟨dn, c0, c1, c2, z0, z1, z2, ce, ze, cr, zr, lt⟩ := hp
 rw [H3.out] at cr
 refine (cvMin_ok _ x3 _ cr zr).mono ?_
 rintro e _ ⟨rfl, rfl⟩
 have hp : PB w _ _ _ _ _ _ := ⟨dn, c0, c1, c2, z0, z1, z2, ce, ze, cr, zr, lt⟩
 clear dn c0 c1 c2 z0 z1 z2 ce ze cr zr lt
 obtain ⟨W6, hW6⟩ : ∃ W6, W6 = W5.setCell ⟨w.heap.size + 1 + 1, 0, none⟩ (.string (bA x3)) := ⟨_, rfl⟩
 replace hp := hp.setR x3
 rw [← hW6] at hp ⊢
 clear hW6
 obtain ⟨dn, c0, c1, c2, z0, z1, z2, ce, ze, cr, zr, lt⟩ := hp
 go_wp2_with fail
 refine (cvNum2_at v3 _ x3 _ Hv3.out cr zr lt (hE.dn dn) hx2 HP3.out).mono ?_
 rintro e _ ⟨rfl, V, q, rfl⟩
 have hp : PB w _ _ _ _ _ _ := ⟨dn, c0, c1, c2, z0, z1, z2, ce, ze, cr, zr, lt⟩
 clear dn c0 c1 c2 z0 z1 z2 ce ze cr zr lt
 replace hp := hp.go q
 clear q
 obtain ⟨W21, hW21⟩ : ∃ W21, W21 = V.setCell ⟨w.heap.size + 1 + 1, 0, none⟩ (.string (bA (x3.dropWhile nd))) := ⟨_, rfl⟩
 replace hp := hp.setR (x3.dropWhile nd)
 rw [← hW21] at hp ⊢
 clear hW21
 obtain ⟨dn, c0, c1, c2, z0, z1, z2, ce, ze, cr, zr, lt⟩ := hp
 go_wp2_with fail
 have hp : PB w _ _ _ _ _ _ := ⟨dn, c0, c1, c2, z0, z1, z2, ce, ze, cr, zr, lt⟩
 clear dn c0 c1 c2 z0 z1 z2 ce ze cr zr lt
 obtain ⟨W22, hW22⟩ : ∃ W22, W22 = W21.setCell ⟨w.heap.size, 2, none⟩ (.int .i64 v3) := ⟨_, rfl⟩
 replace hp := hp.set2 v3
 rw [← hW22] at hp ⊢
 clear hW22
 obtain ⟨dn, c0, c1, c2, z0, z1, z2, ce, ze, cr, zr, lt⟩ := hp
 refine leaves_cons (f := 85) (args := #[.pointer (some ⟨w.heap.size, 0, none⟩), .pointer (some ⟨w.heap.size + 1, 0, none⟩)]) (by simp) (by simp [go_sem]) ?_
 refine (catch_panicking w.heap.size (w.heap.size + 1) _ _ _ _ 5 [] _ c0 c1 c2 ce z0 z1 z2 ze (by omega)).mono ?_
 rintro o u' w'' ⟨rfl, rfl, ⟨k0, k1, k2, k3⟩, hd⟩
 show ∃ v, (results Tryz.f35 _).run Tryz.prog w'' = .ok v w'' ∧ _
 exact ⟨.tuple #[.agg #[.int .i64 0, .int .i64 0, .int .i64 0], .int .i64 5], by simp [results, Tryz.results35, go_sem, k0, k1, k2, k3], rfl, hd w dn (Nat.le_refl _) (by omega)⟩
theorem cvPs_ph (x x2 x3 : List UInt8) (w : World) (hE : EnvK w) (v1 v2 v3 : Int) (hx0 : x.length ≤ 1000) (hx1 : x2.length ≤ 1000) (hx2 : x3.length ≤ 1000) (hneg : isNeg x = false) (hP1 : Part (x.takeWhile nd) 4 true) (hv1 : clampV (Dg.nvA 0 (x.takeWhile nd)) = v1) (h2 : x.dropWhile nd = 45 :: x2) (hP2 : Part (x2.takeWhile nd) 2 false) (hv2 : clampV (Dg.nvA 0 (x2.takeWhile nd)) = v2) (h3 : x2.dropWhile nd = 45 :: x3) (hP3 : Part (x3.takeWhile nd) 2 false) (hv3 : clampV (Dg.nvA 0 (x3.takeWhile nd)) = v3) (hr : x3.dropWhile nd = []) (e0 : Int) (he : cErr v1 v2 v3 = e0) (h0 : e0 ≠ 0) :
  Calls Tryz.prog 35 #[.string (bA x)] w fun o w' => o = .returned (.tuple #[.agg #[.int .i64 0, .int .i64 0, .int .i64 0], .int .i64 e0]) ∧ Dn w w' := by
 have hmf : ∀ (fn : Fn) (first cap : Array Value) (w : World), (Instr.makeFunc fn first cap).run Tryz.prog w = .ok (.func fn first cap) w := fun _ _ _ _ => rfl
 have HN := Lib.hid (hneg)
 clear hneg
 have HP1 := Lib.hid hP1
 have Hv1 := Lib.hid hv1
 have H2 := Lib.hid h2
 have HP2 := Lib.hid hP2
 have Hv2 := Lib.hid hv2
 have H3 := Lib.hid h3
 have HP3 := Lib.hid hP3
 have Hv3 := Lib.hid hv3
 clear hP1 hv1 h2 hP2 hv2 h3 hP3 hv3
 have HR := Lib.hid hr
 clear hr
 have HC := Lib.hid he
 have t2 : (e0 != 0) = true := by simpa using h0
 clear he h0
 go_enter_defers Tryz.func35, Tryz.ntmps35
 go_wp2_with fail
 have hp := PB.start w x
 obtain ⟨W0, hW0⟩ : ∃ W0, W0 = ((w.alloc (.cells #[.int .i64 0, .int .i64 0, .int .i64 0] 64)).alloc (.cells #[.int .i64 0] 31)).alloc (.cells #[.string (bA x)] 122) := ⟨_, rfl⟩
 rw [← hW0] at hp ⊢
 clear hW0
 refine (hasC x _ HN.out _).mono ?_
 rintro e _ ⟨rfl, rfl⟩
 obtain ⟨dn, c0, c1, c2, z0, z1, z2, ce, ze, cr, zr, lt⟩ := hp
 go_wp2_with fail
 refine (cvNum4_at v1 _ x _ Hv1.out cr zr lt (hE.dn dn) hx0 HP1.out).mono ?_
 rintro e _ ⟨rfl, V, q, rfl⟩
 have hp : PB w _ _ _ _ _ _ := ⟨dn, c0, c1, c2, z0, z1, z2, ce, ze, cr, zr, lt⟩
 clear dn c0 c1 c2 z0 z1 z2 ce ze cr zr lt
 replace hp := hp.go q
 clear q
 obtain ⟨W1, hW1⟩ : ∃ W1, W1 = V.setCell ⟨w.heap.size + 1 + 1, 0, none⟩ (.string (bA (x.dropWhile nd))) := ⟨_, rfl⟩
 replace hp := hp.setR (x.dropWhile nd)
 rw [← hW1] at hp ⊢
 clear hW1
 obtain ⟨dn, c0, c1, c2, z0, z1, z2, ce, ze, cr, zr, lt⟩ := hp
 go_wp2_with fail
 have hp : PB w _ _ _ _ _ _ := ⟨dn, c0, c1, c2, z0, z1, z2, ce, ze, cr, zr, lt⟩
 clear dn c0 c1 c2 z0 z1 z2 ce ze cr zr lt
 obtain ⟨W2, hW2⟩ : ∃ W2, W2 = W1.setCell ⟨w.heap.size, 0, none⟩ (.int .i64 v1) := ⟨_, rfl⟩
 replace hp := hp.set0 v1
 rw [← hW2] at hp ⊢
 clear hW2
 obtain ⟨dn, c0, c1, c2, z0, z1, z2, ce, ze, cr, zr, lt⟩ := hp
 rw [H2.out] at cr
 refine (cvMin_ok _ x2 _ cr zr).mono ?_
 rintro e _ ⟨rfl, rfl⟩
 have hp : PB w _ _ _ _ _ _ := ⟨dn, c0, c1, c2, z0, z1, z2, ce, ze, cr, zr, lt⟩
 clear dn c0 c1 c2 z0 z1 z2 ce ze cr zr lt
 obtain ⟨W3, hW3⟩ : ∃ W3, W3 = W2.setCell ⟨w.heap.size + 1 + 1, 0, none⟩ (.string (bA x2)) := ⟨_, rfl⟩
 replace hp := hp.setR x2
 rw [← hW3] at hp ⊢
 clear hW3
 obtain ⟨dn, c0, c1, c2, z0, z1, z2, ce, ze, cr, zr, lt⟩ := hp
 go_wp2_with fail
 refine (cvNum2_at v2 _ x2 _ Hv2.out cr zr lt (hE.dn dn) hx1 HP2.out).mono ?_
 rintro e _ ⟨rfl, V, q, rfl⟩
 have hp : PB w _ _ _ _ _ _ := ⟨dn, c0, c1, c2, z0, z1, z2, ce, ze, cr, zr, lt⟩
 clear dn c0 c1 c2 z0 z1 z2 ce ze cr zr lt
 replace hp := hp.go q
 clear q
 obtain ⟨W4, hW4⟩ : ∃ W4, W4 = V.setCell ⟨w.heap.size + 1 + 1, 0, none⟩ (.string (bA (x2.dropWhile nd))) := ⟨_, rfl⟩
 replace hp := hp.setR (x2.dropWhile nd)
 rw [← hW4] at hp ⊢
 clear hW4
 obtain ⟨dn, c0, c1, c2, z0, z1, z2, ce, ze, cr, zr, lt⟩ := hp
 go_wp2_with fail
 have hp : PB w _ _ _ _ _ _ := ⟨dn, c0, c1, c2, z0, z1, z2, ce, ze, cr, zr, lt⟩
 clear dn c0 c1 c2 z0 z1 z2 ce ze cr zr lt
 obtain ⟨W5, hW5⟩ : ∃ W5, W5 = W4.setCell ⟨w.heap.size, 1, none⟩ (.int .i64 v2) := ⟨_, rfl⟩
 replace hp := hp.set1 v2
 rw [← hW5] at hp ⊢
 clear hW5
 obtain ⟨dn, c0, c1, c2, z0, z1, z2, ce, ze, cr, zr, lt⟩ := hp
 rw [H3.out] at cr
 refine (cvMin_ok _ x3 _ cr zr).mono ?_
 rintro e _ ⟨rfl, rfl⟩
 have hp : PB w _ _ _ _ _ _ := ⟨dn, c0, c1, c2, z0, z1, z2, ce, ze, cr, zr, lt⟩
 clear dn c0 c1 c2 z0 z1 z2 ce ze cr zr lt
 obtain ⟨W6, hW6⟩ : ∃ W6, W6 = W5.setCell ⟨w.heap.size + 1 + 1, 0, none⟩ (.string (bA x3)) := ⟨_, rfl⟩
 replace hp := hp.setR x3
 rw [← hW6] at hp ⊢
 clear hW6
 obtain ⟨dn, c0, c1, c2, z0, z1, z2, ce, ze, cr, zr, lt⟩ := hp
 go_wp2_with fail
 refine (cvNum2_at v3 _ x3 _ Hv3.out cr zr lt (hE.dn dn) hx2 HP3.out).mono ?_
 rintro e _ ⟨rfl, V, q, rfl⟩
 have hp : PB w _ _ _ _ _ _ := ⟨dn, c0, c1, c2, z0, z1, z2, ce, ze, cr, zr, lt⟩
 clear dn c0 c1 c2 z0 z1 z2 ce ze cr zr lt
 replace hp := hp.go q
 clear q
 obtain ⟨W21, hW21⟩ : ∃ W21, W21 = V.setCell ⟨w.heap.size + 1 + 1, 0, none⟩ (.string (bA (x3.dropWhile nd))) := ⟨_, rfl⟩
 replace hp := hp.setR (x3.dropWhile nd)
 rw [← hW21] at hp ⊢
 clear hW21
 rw [HR.out] at hp
 obtain ⟨dn, c0, c1, c2, z0, z1, z2, ce, ze, cr, zr, lt⟩ := hp
 replace cr : W21.cell? ⟨w.heap.size + 1 + 1, 0, none⟩ = some (.string ⟨#[]⟩) := cr
 go_wp2_with fail
 have hp : PB w W21 [] _ _ _ _ := ⟨dn, c0, c1, c2, z0, z1, z2, ce, ze, cr, zr, lt⟩
 clear dn c0 c1 c2 z0 z1 z2 ce ze cr zr lt
 obtain ⟨W22, hW22⟩ : ∃ W22, W22 = W21.setCell ⟨w.heap.size, 2, none⟩ (.int .i64 v3) := ⟨_, rfl⟩
 replace hp := hp.set2 v3
 rw [← hW22] at hp ⊢
 clear hW22
 obtain ⟨dn, c0, c1, c2, z0, z1, z2, ce, ze, cr, zr, lt⟩ := hp
 refine (cvChk _ _ _ _ _ (hE.dn dn) HC.out).mono ?_
 rintro e V2 ⟨rfl, q⟩
 have hp : PB w _ _ _ _ _ _ := ⟨dn, c0, c1, c2, z0, z1, z2, ce, ze, cr, zr, lt⟩
 clear dn c0 c1 c2 z0 z1 z2 ce ze cr zr lt
 replace hp := hp.go q
 clear q
 obtain ⟨dn, c0, c1, c2, z0, z1, z2, ce, ze, cr, zr, lt⟩ := hp
 go_wp2_with fail
 refine leaves_cons (f := 85) (args := #[.pointer (some ⟨w.heap.size, 0, none⟩), .pointer (some ⟨w.heap.size + 1, 0, none⟩)]) (by simp) (by simp [go_sem]) ?_
 refine (catch_panicking w.heap.size (w.heap.size + 1) _ _ _ _ e0 [] _ c0 c1 c2 ce z0 z1 z2 ze (by omega)).mono ?_
 rintro o u' w'' ⟨rfl, rfl, ⟨k0, k1, k2, k3⟩, hd⟩
 show ∃ v, (results Tryz.f35 _).run Tryz.prog w'' = .ok v w'' ∧ _
 exact ⟨.tuple #[.agg #[.int .i64 0, .int .i64 0, .int .i64 0], .int .i64 e0], by simp [results, Tryz.results35, go_sem, k0, k1, k2, k3], rfl, hd w dn (Nat.le_refl _) (by omega)⟩
theorem cvPs_pi (x x2 x3 : List UInt8) (w : World) (hE : EnvK w) (v1 v2 v3 : Int) (hx0 : x.length ≤ 1000) (hx1 : x2.length ≤ 1000) (hx2 : x3.length ≤ 1000) (hneg : isNeg x = false) (hP1 : Part (x.takeWhile nd) 4 true) (hv1 : clampV (Dg.nvA 0 (x.takeWhile nd)) = v1) (h2 : x.dropWhile nd = 45 :: x2) (hP2 : Part (x2.takeWhile nd) 2 false) (hv2 : clampV (Dg.nvA 0 (x2.takeWhile nd)) = v2) (h3 : x2.dropWhile nd = 45 :: x3) (hP3 : Part (x3.takeWhile nd) 2 false) (hv3 : clampV (Dg.nvA 0 (x3.takeWhile nd)) = v3) (hr : x3.dropWhile nd = []) (he : cErr v1 v2 v3 = 0) :
  Calls Tryz.prog 35 #[.string (bA x)] w fun o w' => o = .returned (.tuple #[.agg #[.int .i64 v1, .int .i64 v2, .int .i64 v3], .int .i64 0]) ∧ Dn w w' := by
 have hmf : ∀ (fn : Fn) (first cap : Array Value) (w : World), (Instr.makeFunc fn first cap).run Tryz.prog w = .ok (.func fn first cap) w := fun _ _ _ _ => rfl
 have HN := Lib.hid (hneg)
 clear hneg
 have HP1 := Lib.hid hP1
 have Hv1 := Lib.hid hv1
 have H2 := Lib.hid h2
 have HP2 := Lib.hid hP2
 have Hv2 := Lib.hid hv2
 have H3 := Lib.hid h3
 have HP3 := Lib.hid hP3
 have Hv3 := Lib.hid hv3
 clear hP1 hv1 h2 hP2 hv2 h3 hP3 hv3
 have HR := Lib.hid hr
 clear hr
 have HC := Lib.hid he
 clear he
 go_enter_defers Tryz.func35, Tryz.ntmps35
 go_wp2_with fail
 have hp := PB.start w x
 obtain ⟨W0, hW0⟩ : ∃ W0, W0 = ((w.alloc (.cells #[.int .i64 0, .int .i64 0, .int .i64 0] 64)).alloc (.cells #[.int .i64 0] 31)).alloc (.cells #[.string (bA x)] 122) := ⟨_, rfl⟩
 rw [← hW0] at hp ⊢
 clear hW0
 refine (hasC x _ HN.out _).mono ?_
 rintro e _ ⟨rfl, rfl⟩
 obtain ⟨dn, c0, c1, c2, z0, z1, z2, ce, ze, cr, zr, lt⟩ := hp
 go_wp2_with fail
 refine (cvNum4_at v1 _ x _ Hv1.out cr zr lt (hE.dn dn) hx0 HP1.out).mono ?_
 rintro e _ ⟨rfl, V, q, rfl⟩
 have hp : PB w _ _ _ _ _ _ := ⟨dn, c0, c1, c2, z0, z1, z2, ce, ze, cr, zr, lt⟩
 clear dn c0 c1 c2 z0 z1 z2 ce ze cr zr lt
 replace hp := hp.go q
 clear q
 obtain ⟨W1, hW1⟩ : ∃ W1, W1 = V.setCell ⟨w.heap.size + 1 + 1, 0, none⟩ (.string (bA (x.dropWhile nd))) := ⟨_, rfl⟩
 replace hp := hp.setR (x.dropWhile nd)
 rw [← hW1] at hp ⊢
 clear hW1
 obtain ⟨dn, c0, c1, c2, z0, z1, z2, ce, ze, cr, zr, lt⟩ := hp
 go_wp2_with fail
 have hp : PB w _ _ _ _ _ _ := ⟨dn, c0, c1, c2, z0, z1, z2, ce, ze, cr, zr, lt⟩
 clear dn c0 c1 c2 z0 z1 z2 ce ze cr zr lt
 obtain ⟨W2, hW2⟩ : ∃ W2, W2 = W1.setCell ⟨w.heap.size, 0, none⟩ (.int .i64 v1) := ⟨_, rfl⟩
 replace hp := hp.set0 v1
 rw [← hW2] at hp ⊢
 clear hW2
 obtain ⟨dn, c0, c1, c2, z0, z1, z2, ce, ze, cr, zr, lt⟩ := hp
 rw [H2.out] at cr
 refine (cvMin_ok _ x2 _ cr zr).mono ?_
 rintro e _ ⟨rfl, rfl⟩
 have hp : PB w _ _ _ _ _ _ := ⟨dn, c0, c1, c2, z0, z1, z2, ce, ze, cr, zr, lt⟩
 clear dn c0 c1 c2 z0 z1 z2 ce ze cr zr lt
 obtain ⟨W3, hW3⟩ : ∃ W3, W3 = W2.setCell ⟨w.heap.size + 1 + 1, 0, none⟩ (.string (bA x2)) := ⟨_, rfl⟩
 replace hp := hp.setR x2
 rw [← hW3] at hp ⊢
 clear hW3
 obtain ⟨dn, c0, c1, c2, z0, z1, z2, ce, ze, cr, zr, lt⟩ := hp
 go_wp2_with fail
 refine (cvNum2_at v2 _ x2 _ Hv2.out cr zr lt (hE.dn dn) hx1 HP2.out).mono ?_
 rintro e _ ⟨rfl, V, q, rfl⟩
 have hp : PB w _ _ _ _ _ _ := ⟨dn, c0, c1, c2, z0, z1, z2, ce, ze, cr, zr, lt⟩
 clear dn c0 c1 c2 z0 z1 z2 ce ze cr zr lt
 replace hp := hp.go q
 clear q
 obtain ⟨W4, hW4⟩ : ∃ W4, W4 = V.setCell ⟨w.heap.size + 1 + 1, 0, none⟩ (.string (bA (x2.dropWhile nd))) := ⟨_, rfl⟩
 replace hp := hp.setR (x2.dropWhile nd)
 rw [← hW4] at hp ⊢
 clear hW4
 obtain ⟨dn, c0, c1, c2, z0, z1, z2, ce, ze, cr, zr, lt⟩ := hp
 go_wp2_with fail
 have hp : PB w _ _ _ _ _ _ := ⟨dn, c0, c1, c2, z0, z1, z2, ce, ze, cr, zr, lt⟩
 clear dn c0 c1 c2 z0 z1 z2 ce ze cr zr lt
 obtain ⟨W5, hW5⟩ : ∃ W5, W5 = W4.setCell ⟨w.heap.size, 1, none⟩ (.int .i64 v2) := ⟨_, rfl⟩
 replace hp := hp.set1 v2
 rw [← hW5] at hp ⊢
 clear hW5
 obtain ⟨dn, c0, c1, c2, z0, z1, z2, ce, ze, cr, zr, lt⟩ := hp
 rw [H3.out] at cr
 refine (cvMin_ok _ x3 _ cr zr).mono ?_
 rintro e _ ⟨rfl, rfl⟩
 have hp : PB w _ _ _ _ _ _ := ⟨dn, c0, c1, c2, z0, z1, z2, ce, ze, cr, zr, lt⟩
 clear dn c0 c1 c2 z0 z1 z2 ce ze cr zr lt
 obtain ⟨W6, hW6⟩ : ∃ W6, W6 = W5.setCell ⟨w.heap.size + 1 + 1, 0, none⟩ (.string (bA x3)) := ⟨_, rfl⟩
 replace hp := hp.setR x3
 rw [← hW6] at hp ⊢
 clear hW6
 obtain ⟨dn, c0, c1, c2, z0, z1, z2, ce, ze, cr, zr, lt⟩ := hp
 go_wp2_with fail
 refine (cvNum2_at v3 _ x3 _ Hv3.out cr zr lt (hE.dn dn) hx2 HP3.out).mono ?_
 rintro e _ ⟨rfl, V, q, rfl⟩
 have hp : PB w _ _ _ _ _ _ := ⟨dn, c0, c1, c2, z0, z1, z2, ce, ze, cr, zr, lt⟩
 clear dn c0 c1 c2 z0 z1 z2 ce ze cr zr lt
 replace hp := hp.go q
 clear q
 obtain ⟨W21, hW21⟩ : ∃ W21, W21 = V.setCell ⟨w.heap.size + 1 + 1, 0, none⟩ (.string (bA (x3.dropWhile nd))) := ⟨_, rfl⟩
 replace hp := hp.setR (x3.dropWhile nd)
 rw [← hW21] at hp ⊢
 clear hW21
 rw [HR.out] at hp
 obtain ⟨dn, c0, c1, c2, z0, z1, z2, ce, ze, cr, zr, lt⟩ := hp
 replace cr : W21.cell? ⟨w.heap.size + 1 + 1, 0, none⟩ = some (.string ⟨#[]⟩) := cr
 go_wp2_with fail
 have hp : PB w W21 [] _ _ _ _ := ⟨dn, c0, c1, c2, z0, z1, z2, ce, ze, cr, zr, lt⟩
 clear dn c0 c1 c2 z0 z1 z2 ce ze cr zr lt
 obtain ⟨W22, hW22⟩ : ∃ W22, W22 = W21.setCell ⟨w.heap.size, 2, none⟩ (.int .i64 v3) := ⟨_, rfl⟩
 replace hp := hp.set2 v3
 rw [← hW22] at hp ⊢
 clear hW22
 obtain ⟨dn, c0, c1, c2, z0, z1, z2, ce, ze, cr, zr, lt⟩ := hp
 refine (cvChk _ _ _ _ _ (hE.dn dn) HC.out).mono ?_
 rintro e V2 ⟨rfl, q⟩
 have hp : PB w _ _ _ _ _ _ := ⟨dn, c0, c1, c2, z0, z1, z2, ce, ze, cr, zr, lt⟩
 clear dn c0 c1 c2 z0 z1 z2 ce ze cr zr lt
 replace hp := hp.go q
 clear q
 obtain ⟨dn, c0, c1, c2, z0, z1, z2, ce, ze, cr, zr, lt⟩ := hp
 go_wp2_with fail
 refine leaves_cons (f := 85) (args := #[.pointer (some ⟨w.heap.size, 0, none⟩), .pointer (some ⟨w.heap.size + 1, 0, none⟩)]) (by simp) (by simp [go_sem]) ?_
 refine (catch_idle _ _ _).mono ?_
 rintro o u' w'' ⟨rfl, rfl, rfl⟩
 show ∃ v, (results Tryz.f35 _).run Tryz.prog _ = .ok v _ ∧ _
 exact ⟨.tuple #[.agg #[.int .i64 v1, .int .i64 v2, .int .i64 v3], .int .i64 0], by simp [results, Tryz.results35, go_sem, c0, c1, c2, ce, z0, z1, z2, ze], rfl, (((dn.setCell (by simp <;> omega) _).setCell (by simp <;> omega) _).setCell (by simp <;> omega) _).setCell (by simp <;> omega) _⟩
theorem cvPs_na (x x2 x3 : List UInt8) (w : World) (hE : EnvK w) (v1 v2 v3 : Int) (hx0 : x.length ≤ 1000) (hx1 : x2.length ≤ 1000) (hx2 : x3.length ≤ 1000) (hP1 : ¬ Part (x.takeWhile nd) 4 true) :
  Calls Tryz.prog 35 #[.string (bA (45 :: x))] w fun o w' => o = .returned (.tuple #[.agg #[.int .i64 0, .int .i64 0, .int .i64 0], .int .i64 5]) ∧ Dn w w' := by
 have hmf : ∀ (fn : Fn) (first cap : Array Value) (w : World), (Instr.makeFunc fn first cap).run Tryz.prog w = .ok (.func fn first cap) w := fun _ _ _ _ => rfl
 have HN := Lib.hid (show isNeg (45 :: x) = true from rfl)
 have HP1 := Lib.hid hP1
 clear hP1
 go_enter_defers Tryz.func35, Tryz.ntmps35
 go_wp2_with fail
 have hp := PB.start w (45 :: x)
 obtain ⟨W0, hW0⟩ : ∃ W0, W0 = ((w.alloc (.cells #[.int .i64 0, .int .i64 0, .int .i64 0] 64)).alloc (.cells #[.int .i64 0] 31)).alloc (.cells #[.string (bA (45 :: x))] 122) := ⟨_, rfl⟩
 rw [← hW0] at hp ⊢
 clear hW0
 refine (hasC (45 :: x) _ HN.out _).mono ?_
 rintro e _ ⟨rfl, rfl⟩
 obtain ⟨dn, c0, c1, c2, z0, z1, z2, ce, ze, cr, zr, lt⟩ := hp
 go_wp2_with fail
 refine (cvMin_ok _ x _ cr zr).mono ?_
 rintro e _ ⟨rfl, rfl⟩
 have hp : PB w _ _ _ _ _ _ := ⟨dn, c0, c1, c2, z0, z1, z2, ce, ze, cr, zr, lt⟩
 clear dn c0 c1 c2 z0 z1 z2 ce ze cr zr lt
 obtain ⟨W1, hW1⟩ : ∃ W1, W1 = W0.setCell ⟨w.heap.size + 1 + 1, 0, none⟩ (.string (bA x)) := ⟨_, rfl⟩
 replace hp := hp.setR x
 rw [← hW1] at hp ⊢
 clear hW1
 obtain ⟨dn, c0, c1, c2, z0, z1, z2, ce, ze, cr, zr, lt⟩ := hp
 go_wp2_with fail
 refine (cvNum4_bad _ x _ cr zr lt (hE.dn dn) hx0 HP1.out).mono ?_
 rintro e _ ⟨rfl, q⟩
 have hp : PB w _ _ _ _ _ _ := ⟨dn, c0, c1, c2, z0, z1, z2, ce, ze, cr, zr, lt⟩
 clear dn c0 c1 c2 z0 z1 z2 ce ze cr zr lt
 replace hp := hp.go q
 obtain ⟨dn, c0, c1, c2, z0, z1, z2, ce, ze, cr, zr, lt⟩ := hp
 go_wp2_with fail
 refine leaves_cons (f := 85) (args := #[.pointer (some ⟨w.heap.size, 0, none⟩), .pointer (some ⟨w.heap.size + 1, 0, none⟩)]) (by simp) (by simp [go_sem]) ?_
 refine (catch_panicking w.heap.size (w.heap.size + 1) _ _ _ _ 5 [] _ c0 c1 c2 ce z0 z1 z2 ze (by omega)).mono ?_
 rintro o u' w'' ⟨rfl, rfl, ⟨k0, k1, k2, k3⟩, hd⟩
 show ∃ v, (results Tryz.f35 _).run Tryz.prog w'' = .ok v w'' ∧ _
 exact ⟨.tuple #[.agg #[.int .i64 0, .int .i64 0, .int .i64 0], .int .i64 5], by simp [results, Tryz.results35, go_sem, k0, k1, k2, k3], rfl, hd w dn (Nat.le_refl _) (by omega)⟩
theorem cvPs_nb (x x2 x3 : List UInt8) (w : World) (hE : EnvK w) (v1 v2 v3 : Int) (hx0 : x.length ≤ 1000) (hx1 : x2.length ≤ 1000) (hx2 : x3.length ≤ 1000) (hP1 : Part (x.takeWhile nd) 4 true) (hv1 : clampV (Dg.nvA 0 (x.takeWhile nd)) = v1) (h2 : isNeg (x.dropWhile nd) = false) :
  Calls Tryz.prog 35 #[.string (bA (45 :: x))] w fun o w' => o = .returned (.tuple #[.agg #[.int .i64 0, .int .i64 0, .int .i64 0], .int .i64 5]) ∧ Dn w w' := by
 have hmf : ∀ (fn : Fn) (first cap : Array Value) (w : World), (Instr.makeFunc fn first cap).run Tryz.prog w = .ok (.func fn first cap) w := fun _ _ _ _ => rfl
 have HN := Lib.hid (show isNeg (45 :: x) = true from rfl)
 have HP1 := Lib.hid hP1
 have Hv1 := Lib.hid hv1
 have H2 := Lib.hid h2
 clear hP1 hv1 h2
 go_enter_defers Tryz.func35, Tryz.ntmps35
 go_wp2_with fail
 have hp := PB.start w (45 :: x)
 obtain ⟨W0, hW0⟩ : ∃ W0, W0 = ((w.alloc (.cells #[.int .i64 0, .int .i64 0, .int .i64 0] 64)).alloc (.cells #[.int .i64 0] 31)).alloc (.cells #[.string (bA (45 :: x))] 122) := ⟨_, rfl⟩
 rw [← hW0] at hp ⊢
 clear hW0
 refine (hasC (45 :: x) _ HN.out _).mono ?_
 rintro e _ ⟨rfl, rfl⟩
 obtain ⟨dn, c0, c1, c2, z0, z1, z2, ce, ze, cr, zr, lt⟩ := hp
 go_wp2_with fail
 refine (cvMin_ok _ x _ cr zr).mono ?_
 rintro e _ ⟨rfl, rfl⟩
 have hp : PB w _ _ _ _ _ _ := ⟨dn, c0, c1, c2, z0, z1, z2, ce, ze, cr, zr, lt⟩
 clear dn c0 c1 c2 z0 z1 z2 ce ze cr zr lt
 obtain ⟨W1, hW1⟩ : ∃ W1, W1 = W0.setCell ⟨w.heap.size + 1 + 1, 0, none⟩ (.string (bA x)) := ⟨_, rfl⟩
 replace hp := hp.setR x
 rw [← hW1] at hp ⊢
 clear hW1
 obtain ⟨dn, c0, c1, c2, z0, z1, z2, ce, ze, cr, zr, lt⟩ := hp
 go_wp2_with fail
 refine (cvNum4_at v1 _ x _ Hv1.out cr zr lt (hE.dn dn) hx0 HP1.out).mono ?_
 rintro e _ ⟨rfl, V, q, rfl⟩
 have hp : PB w _ _ _ _ _ _ := ⟨dn, c0, c1, c2, z0, z1, z2, ce, ze, cr, zr, lt⟩
 clear dn c0 c1 c2 z0 z1 z2 ce ze cr zr lt
 replace hp := hp.go q
 clear q
 obtain ⟨W2, hW2⟩ : ∃ W2, W2 = V.setCell ⟨w.heap.size + 1 + 1, 0, none⟩ (.string (bA (x.dropWhile nd))) := ⟨_, rfl⟩
 replace hp := hp.setR (x.dropWhile nd)
 rw [← hW2] at hp ⊢
 clear hW2
 obtain ⟨dn, c0, c1, c2, z0, z1, z2, ce, ze, cr, zr, lt⟩ := hp
 go_wp2_with fail
 have hp : PB w _ _ _ _ _ _ := ⟨dn, c0, c1, c2, z0, z1, z2, ce, ze, cr, zr, lt⟩
 clear dn c0 c1 c2 z0 z1 z2 ce ze cr zr lt
 obtain ⟨W3, hW3⟩ : ∃ W3, W3 = W2.setCell ⟨w.heap.size, 0, none⟩ (.int .i64 v1) := ⟨_, rfl⟩
 replace hp := hp.set0 v1
 rw [← hW3] at hp ⊢
 clear hW3
 obtain ⟨dn, c0, c1, c2, z0, z1, z2, ce, ze, cr, zr, lt⟩ := hp
 refine (cvMin_bad _ _ _ cr H2.out).mono ?_
 rintro e _ ⟨rfl, rfl⟩
 go_wp2_with fail
 refine leaves_cons (f := 85) (args := #[.pointer (some ⟨w.heap.size, 0, none⟩), .pointer (some ⟨w.heap.size + 1, 0, none⟩)]) (by simp) (by simp [go_sem]) ?_
 refine (catch_panicking w.heap.size (w.heap.size + 1) _ _ _ _ 5 [] _ c0 c1 c2 ce z0 z1 z2 ze (by omega)).mono ?_
 rintro o u' w'' ⟨rfl, rfl, ⟨k0, k1, k2, k3⟩, hd⟩
 show ∃ v, (results Tryz.f35 _).run Tryz.prog w'' = .ok v w'' ∧ _
 exact ⟨.tuple #[.agg #[.int .i64 0, .int .i64 0, .int .i64 0], .int .i64 5], by simp [results, Tryz.results35, go_sem, k0, k1, k2, k3], rfl, hd w dn (Nat.le_refl _) (by omega)⟩
theorem cvPs_nc (x x2 x3 : List UInt8) (w : World) (hE : EnvK w) (v1 v2 v3 : Int) (hx0 : x.length ≤ 1000) (hx1 : x2.length ≤ 1000) (hx2 : x3.length ≤ 1000) (hP1 : Part (x.takeWhile nd) 4 true) (hv1 : clampV (Dg.nvA 0 (x.takeWhile nd)) = v1) (h2 : x.dropWhile nd = 45 :: x2) (hP2 : ¬ Part (x2.takeWhile nd) 2 false) :
  Calls Tryz.prog 35 #[.string (bA (45 :: x))] w fun o w' => o = .returned (.tuple #[.agg #[.int .i64 0, .int .i64 0, .int .i64 0], .int .i64 5]) ∧ Dn w w' := by
 have hmf : ∀ (fn : Fn) (first cap : Array Value) (w : World), (Instr.makeFunc fn first cap).run Tryz.prog w = .ok (.func fn first cap) w := fun _ _ _ _ => rfl
 have HN := Lib.hid (show isNeg (45 :: x) = true from rfl)
 have HP1 := Lib.hid hP1
 have Hv1 := Lib.hid hv1
 have H2 := Lib.hid h2
 have HP2 := Lib.hid hP2
 clear hP1 hv1 h2 hP2
 go_enter_defers Tryz.func35, Tryz.ntmps35
 go_wp2_with fail
 have hp := PB.start w (45 :: x)
 obtain ⟨W0, hW0⟩ : ∃ W0, W0 = ((w.alloc (.cells #[.int .i64 0, .int .i64 0, .int .i64 0] 64)).alloc (.cells #[.int .i64 0] 31)).alloc (.cells #[.string (bA (45 :: x))] 122) := ⟨_, rfl⟩
 rw [← hW0] at hp ⊢
 clear hW0
 refine (hasC (45 :: x) _ HN.out _).mono ?_
 rintro e _ ⟨rfl, rfl⟩
 obtain ⟨dn, c0, c1, c2, z0, z1, z2, ce, ze, cr, zr, lt⟩ := hp
 go_wp2_with fail
 refine (cvMin_ok _ x _ cr zr).mono ?_
 rintro e _ ⟨rfl, rfl⟩
 have hp : PB w _ _ _ _ _ _ := ⟨dn, c0, c1, c2, z0, z1, z2, ce, ze, cr, zr, lt⟩
 clear dn c0 c1 c2 z0 z1 z2 ce ze cr zr lt
 obtain ⟨W1, hW1⟩ : ∃ W1, W1 = W0.setCell ⟨w.heap.size + 1 + 1, 0, none⟩ (.string (bA x)) := ⟨_, rfl⟩
 replace hp := hp.setR x
 rw [← hW1] at hp ⊢
 clear hW1
 obtain ⟨dn, c0, c1, c2, z0, z1, z2, ce, ze, cr, zr, lt⟩ := hp
 go_wp2_with fail
 refine (cvNum4_at v1 _ x _ Hv1.out cr zr lt (hE.dn dn) hx0 HP1.out).mono ?_
 rintro e _ ⟨rfl, V, q, rfl⟩
 have hp : PB w _ _ _ _ _ _ := ⟨dn, c0, c1, c2, z0, z1, z2, ce, ze, cr, zr, lt⟩
 clear dn c0 c1 c2 z0 z1 z2 ce ze cr zr lt
 replace hp := hp.go q
 clear q
 obtain ⟨W2, hW2⟩ : ∃ W2, W2 = V.setCell ⟨w.heap.size + 1 + 1, 0, none⟩ (.string (bA (x.dropWhile nd))) := ⟨_, rfl⟩
 replace hp := hp.setR (x.dropWhile nd)
 rw [← hW2] at hp ⊢
 clear hW2
 obtain ⟨dn, c0, c1, c2, z0, z1, z2, ce, ze, cr, zr, lt⟩ := hp
 go_wp2_with fail
 have hp : PB w _ _ _ _ _ _ := ⟨dn, c0, c1, c2, z0, z1, z2, ce, ze, cr, zr, lt⟩
 clear dn c0 c1 c2 z0 z1 z2 ce ze cr zr lt
 obtain ⟨W3, hW3⟩ : ∃ W3, W3 = W2.setCell ⟨w.heap.size, 0, none⟩ (.int .i64 v1) := ⟨_, rfl⟩
 replace hp := hp.set0 v1
 rw [← hW3] at hp ⊢
 clear hW3
 obtain ⟨dn, c0, c1, c2, z0, z1, z2, ce, ze, cr, zr, lt⟩ := hp
 rw [H2.out] at cr
 refine (cvMin_ok _ x2 _ cr zr).mono ?_
 rintro e _ ⟨rfl, rfl⟩
 have hp : PB w _ _ _ _ _ _ := ⟨dn, c0, c1, c2, z0, z1, z2, ce, ze, cr, zr, lt⟩
 clear dn c0 c1 c2 z0 z1 z2 ce ze cr zr lt
 obtain ⟨W4, hW4⟩ : ∃ W4, W4 = W3.setCell ⟨w.heap.size + 1 + 1, 0, none⟩ (.string (bA x2)) := ⟨_, rfl⟩
 replace hp := hp.setR x2
 rw [← hW4] at hp ⊢
 clear hW4
 obtain ⟨dn, c0, c1, c2, z0, z1, z2, ce, ze, cr, zr, lt⟩ := hp
 go_wp2_with fail
 refine (cvNum2_bad _ x2 _ cr zr lt (hE.dn dn) hx1 HP2.out).mono ?_
 rintro e _ ⟨rfl, q⟩
 have hp : PB w _ _ _ _ _ _ := ⟨dn, c0, c1, c2, z0, z1, z2, ce, ze, cr, zr, lt⟩
 clear dn c0 c1 c2 z0 z1 z2 ce ze cr zr lt
 replace hp := hp.go q
 obtain ⟨dn, c0, c1, c2, z0, z1, z2, ce, ze, cr, zr, lt⟩ := hp
 go_wp2_with fail
 refine leaves_cons (f := 85) (args := #[.pointer (some ⟨w.heap.size, 0, none⟩), .pointer (some ⟨w.heap.size + 1, 0, none⟩)]) (by simp) (by simp [go_sem]) ?_
 refine (catch_panicking w.heap.size (w.heap.size + 1) _ _ _ _ 5 [] _ c0 c1 c2 ce z0 z1 z2 ze (by omega)).mono ?_
 rintro o u' w'' ⟨rfl, rfl, ⟨k0, k1, k2, k3⟩, hd⟩
 show ∃ v, (results Tryz.f35 _).run Tryz.prog w'' = .ok v w'' ∧ _
 exact ⟨.tuple #[.agg #[.int .i64 0, .int .i64 0, .int .i64 0], .int .i64 5], by simp [results, Tryz.results35, go_sem, k0, k1, k2, k3], rfl, hd w dn (Nat.le_refl _) (by omega)⟩
theorem cvPs_nd (x x2 x3 : List UInt8) (w : World) (hE : EnvK w) (v1 v2 v3 : Int) (hx0 : x.length ≤ 1000) (hx1 : x2.length ≤ 1000) (hx2 : x3.length ≤ 1000) (hP1 : Part (x.takeWhile nd) 4 true) (hv1 : clampV (Dg.nvA 0 (x.takeWhile nd)) = v1) (h2 : x.dropWhile nd = 45 :: x2) (hP2 : Part (x2.takeWhile nd) 2 false) (hv2 : clampV (Dg.nvA 0 (x2.takeWhile nd)) = v2) (h3 : isNeg (x2.dropWhile nd) = false) :
  Calls Tryz.prog 35 #[.string (bA (45 :: x))] w fun o w' => o = .returned (.tuple #[.agg #[.int .i64 0, .int .i64 0, .int .i64 0], .int .i64 5]) ∧ Dn w w' := by
 have hmf : ∀ (fn : Fn) (first cap : Array Value) (w : World), (Instr.makeFunc fn first cap).run Tryz.prog w = .ok (.func fn first cap) w := fun _ _ _ _ => rfl
 have HN := Lib.hid (show isNeg (45 :: x) = true from rfl)
 have HP1 := Lib.hid hP1
 have Hv1 := Lib.hid hv1
 have H2 := Lib.hid h2
 have HP2 := Lib.hid hP2
 have Hv2 := Lib.hid hv2
 have H3 := Lib.hid h3
 clear hP1 hv1 h2 hP2 hv2 h3
 go_enter_defers Tryz.func35, Tryz.ntmps35
 go_wp2_with fail
 have hp := PB.start w (45 :: x)
 obtain ⟨W0, hW0⟩ : ∃ W0, W0 = ((w.alloc (.cells #[.int .i64 0, .int .i64 0, .int .i64 0] 64)).alloc (.cells #[.int .i64 0] 31)).alloc (.cells #[.string (bA (45 :: x))] 122) := ⟨_, rfl⟩
 rw [← hW0] at hp ⊢
 clear hW0
 refine (hasC (45 :: x) _ HN.out _).mono ?_
 rintro e _ ⟨rfl, rfl⟩
 obtain ⟨dn, c0, c1, c2, z0, z1, z2, ce, ze, cr, zr, lt⟩ := hp
 go_wp2_with fail
 refine (cvMin_ok _ x _ cr zr).mono ?_
 rintro e _ ⟨rfl, rfl⟩
 have hp : PB w _ _ _ _ _ _ := ⟨dn, c0, c1, c2, z0, z1, z2, ce, ze, cr, zr, lt⟩
 clear dn c0 c1 c2 z0 z1 z2 ce ze cr zr lt
 obtain ⟨W1, hW1⟩ : ∃ W1, W1 = W0.setCell ⟨w.heap.size + 1 + 1, 0, none⟩ (.string (bA x)) := ⟨_, rfl⟩
 replace hp := hp.setR x
 rw [← hW1] at hp ⊢
 clear hW1
 obtain ⟨dn, c0, c1, c2, z0, z1, z2, ce, ze, cr, zr, lt⟩ := hp
 go_wp2_with fail
 refine (cvNum4_at v1 _ x _ Hv1.out cr zr lt (hE.dn dn) hx0 HP1.out).mono ?_
 rintro e _ ⟨rfl, V, q, rfl⟩
 have hp : PB w _ _ _ _ _ _ := ⟨dn, c0, c1, c2, z0, z1, z2, ce, ze, cr, zr, lt⟩
 clear dn c0 c1 c2 z0 z1 z2 ce ze cr zr lt
 replace hp := hp.go q
 clear q
 obtain ⟨W2, hW2⟩ : ∃ W2, W2 = V.setCell ⟨w.heap.size + 1 + 1, 0, none⟩ (.string (bA (x.dropWhile nd))) := ⟨_, rfl⟩
 replace hp := hp.setR (x.dropWhile nd)
 rw [← hW2] at hp ⊢
 clear hW2
 obtain ⟨dn, c0, c1, c2, z0, z1, z2, ce, ze, cr, zr, lt⟩ := hp
 go_wp2_with fail
 have hp : PB w _ _ _ _ _ _ := ⟨dn, c0, c1, c2, z0, z1, z2, ce, ze, cr, zr, lt⟩
 clear dn c0 c1 c2 z0 z1 z2 ce ze cr zr lt
 obtain ⟨W3, hW3⟩ : ∃ W3, W3 = W2.setCell ⟨w.heap.size, 0, none⟩ (.int .i64 v1) := ⟨_, rfl⟩
 replace hp := hp.set0 v1
 rw [← hW3] at hp ⊢
 clear hW3
 obtain ⟨dn, c0, c1, c2, z0, z1, z2, ce, ze, cr, zr, lt⟩ := hp
 rw [H2.out] at cr
 refine (cvMin_ok _ x2 _ cr zr).mono ?_
 rintro e _ ⟨rfl, rfl⟩
 have hp : PB w _ _ _ _ _ _ := ⟨dn, c0, c1, c2, z0, z1, z2, ce, ze, cr, zr, lt⟩
 clear dn c0 c1 c2 z0 z1 z2 ce ze cr zr lt
 obtain ⟨W4, hW4⟩ : ∃ W4, W4 = W3.setCell ⟨w.heap.size + 1 + 1, 0, none⟩ (.string (bA x2)) := ⟨_, rfl⟩
 replace hp := hp.setR x2
 rw [← hW4] at hp ⊢
 clear hW4
 obtain ⟨dn, c0, c1, c2, z0, z1, z2, ce, ze, cr, zr, lt⟩ := hp
 go_wp2_with fail
 refine (cvNum2_at v2 _ x2 _ Hv2.out cr zr lt (hE.dn dn) hx1 HP2.out).mono ?_
 rintro e _ ⟨rfl, V, q, rfl⟩
 have hp : PB w _ _ _ _ _ _ := ⟨dn, c0, c1, c2, z0, z1, z2, ce, ze, cr, zr, lt⟩
 clear dn c0 c1 c2 z0 z1 z2 ce ze cr zr lt
 replace hp := hp.go q
 clear q
 obtain ⟨W5, hW5⟩ : ∃ W5, W5 = V.setCell ⟨w.heap.size + 1 + 1, 0, none⟩ (.string (bA (x2.dropWhile nd))) := ⟨_, rfl⟩
 replace hp := hp.setR (x2.dropWhile nd)
 rw [← hW5] at hp ⊢
 clear hW5
 obtain ⟨dn, c0, c1, c2, z0, z1, z2, ce, ze, cr, zr, lt⟩ := hp
 go_wp2_with fail
 have hp : PB w _ _ _ _ _ _ := ⟨dn, c0, c1, c2, z0, z1, z2, ce, ze, cr, zr, lt⟩
 clear dn c0 c1 c2 z0 z1 z2 ce ze cr zr lt
 obtain ⟨W6, hW6⟩ : ∃ W6, W6 = W5.setCell ⟨w.heap.size, 1, none⟩ (.int .i64 v2) := ⟨_, rfl⟩
 replace hp := hp.set1 v2
 rw [← hW6] at hp ⊢
 clear hW6
 obtain ⟨dn, c0, c1, c2, z0, z1, z2, ce, ze, cr, zr, lt⟩ := hp
 refine (cvMin_bad _ _ _ cr H3.out).mono ?_
 rintro e _ ⟨rfl, rfl⟩
 go_wp2_with fail
 refine leaves_cons (f := 85) (args := #[.pointer (some ⟨w.heap.size, 0, none⟩), .pointer (some ⟨w.heap.size + 1, 0, none⟩)]) (by simp) (by simp [go_sem]) ?_
 refine (catch_panicking w.heap.size (w.heap.size + 1) _ _ _ _ 5 [] _ c0 c1 c2 ce z0 z1 z2 ze (by omega)).mono ?_
 rintro o u' w'' ⟨rfl, rfl, ⟨k0, k1, k2, k3⟩, hd⟩
 show ∃ v, (results Tryz.f35 _).run Tryz.prog w'' = .ok v w'' ∧ _
 exact ⟨.tuple #[.agg #[.int .i64 0, .int .i64 0, .int .i64 0], .int .i64 5], by simp [results, Tryz.results35, go_sem, k0, k1, k2, k3], rfl, hd w dn (Nat.le_refl _) (by omega)⟩
theorem cvPs_ne (x x2 x3 : List UInt8) (w : World) (hE : EnvK w) (v1 v2 v3 : Int) (hx0 : x.length ≤ 1000) (hx1 : x2.length ≤ 1000) (hx2 : x3.length ≤ 1000) (hP1 : Part (x.takeWhile nd) 4 true) (hv1 : clampV (Dg.nvA 0 (x.takeWhile nd)) = v1) (h2 : x.dropWhile nd = 45 :: x2) (hP2 : Part (x2.takeWhile nd) 2 false) (hv2 : clampV (Dg.nvA 0 (x2.takeWhile nd)) = v2) (h3 : x2.dropWhile nd = 45 :: x3) (hP3 : ¬ Part (x3.takeWhile nd) 2 false) :
  Calls Tryz.prog 35 #[.string (bA (45 :: x))] w fun o w' => o = .returned (.tuple #[.agg #[.int .i64 0, .int .i64 0, .int .i64 0], .int .i64 5]) ∧ Dn w w' := by
 have hmf : ∀ (fn : Fn) (first cap : Array Value) (w : World), (Instr.makeFunc fn first cap).run Tryz.prog w = .ok (.func fn first cap) w := fun _ _ _ _ => rfl
 have HN := Lib.hid (show isNeg (45 :: x) = true from rfl)
 have HP1 := Lib.hid hP1
 have Hv1 := Lib.hid hv1
 have H2 := Lib.hid h2
 have HP2 := Lib.hid hP2
 have Hv2 := Lib.hid hv2
 have H3 := Lib.hid h3
 have HP3 := Lib.hid hP3
 clear hP1 hv1 h2 hP2 hv2 h3 hP3
 go_enter_defers Tryz.func35, Tryz.ntmps35
 go_wp2_with fail
 have hp := PB.start w (45 :: x)
 obtain ⟨W0, hW0⟩ : ∃ W0, W0 = ((w.alloc (.cells #[.int .i64 0, .int .i64 0, .int .i64 0] 64)).alloc (.cells #[.int .i64 0] 31)).alloc (.cells #[.string (bA (45 :: x))] 122) := ⟨_, rfl⟩
 rw [← hW0] at hp ⊢
 clear hW0
 refine (hasC (45 :: x) _ HN.out _).mono ?_
 rintro e _ ⟨rfl, rfl⟩
 obtain ⟨dn, c0, c1, c2, z0, z1, z2, ce, ze, cr, zr, lt⟩ := hp
 go_wp2_with fail
 refine (cvMin_ok _ x _ cr zr).mono ?_
 rintro e _ ⟨rfl, rfl⟩
 have hp : PB w _ _ _ _ _ _ := ⟨dn, c0, c1, c2, z0, z1, z2, ce, ze, cr, zr, lt⟩
 clear dn c0 c1 c2 z0 z1 z2 ce ze cr zr lt
 obtain ⟨W1, hW1⟩ : ∃ W1, W1 = W0.setCell ⟨w.heap.size + 1 + 1, 0, none⟩ (.string (bA x)) := ⟨_, rfl⟩
 replace hp := hp.setR x
 rw [← hW1] at hp ⊢
 clear hW1
 obtain ⟨dn, c0, c1, c2, z0, z1, z2, ce, ze, cr, zr, lt⟩ := hp
 go_wp2_with fail
 refine (cvNum4_at v1 _ x _ Hv1.out cr zr lt (hE.dn dn) hx0 HP1.out).mono ?_
 rintro e _ ⟨rfl, V, q, rfl⟩
 have hp : PB w _ _ _ _ _ _ := ⟨dn, c0, c1, c2, z0, z1, z2, ce, ze, cr, zr, lt⟩
 clear dn c0 c1 c2 z0 z1 z2 ce ze cr zr lt
 replace hp := hp.go q
 clear q
 obtain ⟨W2, hW2⟩ : ∃ W2, W2 = V.setCell ⟨w.heap.size + 1 + 1, 0, none⟩ (.string (bA (x.dropWhile nd))) := ⟨_, rfl⟩
 replace hp := hp.setR (x.dropWhile nd)
 rw [← hW2] at hp ⊢
 clear hW2
 obtain ⟨dn, c0, c1, c2, z0, z1, z2, ce, ze, cr, zr, lt⟩ := hp
 go_wp2_with fail
 have hp : PB w _ _ _ _ _ _ := ⟨dn, c0, c1, c2, z0, z1, z2, ce, ze, cr, zr, lt⟩
 clear dn c0 c1 c2 z0 z1 z2 ce ze cr zr lt
 obtain ⟨W3, hW3⟩ : ∃ W3, W3 = W2.setCell ⟨w.heap.size, 0, none⟩ (.int .i64 v1) := ⟨_, rfl⟩
 replace hp := hp.set0 v1
 rw [← hW3] at hp ⊢
 clear hW3
 obtain ⟨dn, c0, c1, c2, z0, z1, z2, ce, ze, cr, zr, lt⟩ := hp
 rw [H2.out] at cr
 refine (cvMin_ok _ x2 _ cr zr).mono ?_
 rintro e _ ⟨rfl, rfl⟩
 have hp : PB w _ _ _ _ _ _ := ⟨dn, c0, c1, c2, z0, z1, z2, ce, ze, cr, zr, lt⟩
 clear dn c0 c1 c2 z0 z1 z2 ce ze cr zr lt
 obtain ⟨W4, hW4⟩ : ∃ W4, W4 = W3.setCell ⟨w.heap.size + 1 + 1, 0, none⟩ (.string (bA x2)) := ⟨_, rfl⟩
 replace hp := hp.setR x2
 rw [← hW4] at hp ⊢
 clear hW4
 obtain ⟨dn, c0, c1, c2, z0, z1, z2, ce, ze, cr, zr, lt⟩ := hp
 go_wp2_with fail
 refine (cvNum2_at v2 _ x2 _ Hv2.out cr zr lt (hE.dn dn) hx1 HP2.out).mono ?_
 rintro e _ ⟨rfl, V, q, rfl⟩
 have hp : PB w _ _ _ _ _ _ := ⟨dn, c0, c1, c2, z0, z1, z2, ce, ze, cr, zr, lt⟩
 clear dn c0 c1 c2 z0 z1 z2 ce ze cr zr lt
 replace hp := hp.go q
 clear q
 obtain ⟨W5, hW5⟩ : ∃ W5, W5 = V.setCell ⟨w.heap.size + 1 + 1, 0, none⟩ (.string (bA (x2.dropWhile nd))) := ⟨_, rfl⟩
 replace hp := hp.setR (x2.dropWhile nd)
 rw [← hW5] at hp ⊢
 clear hW5
 obtain ⟨dn, c0, c1, c2, z0, z1, z2, ce, ze, cr, zr, lt⟩ := hp
 go_wp2_with fail
 have hp : PB w _ _ _ _ _ _ := ⟨dn, c0, c1, c2, z0, z1, z2, ce, ze, cr, zr, lt⟩
 clear dn c0 c1 c2 z0 z1 z2 ce ze cr zr lt
 obtain ⟨W6, hW6⟩ : ∃ W6, W6 = W5.setCell ⟨w.heap.size, 1, none⟩ (.int .i64 v2) := ⟨_, rfl⟩
 replace hp := hp.set1 v2
 rw [← hW6] at hp ⊢
 clear hW6
 obtain ⟨dn, c0, c1, c2, z0, z1, z2, ce, ze, cr, zr, lt⟩ := hp
 rw [H3.out] at cr
 refine (cvMin_ok _ x3 _ cr zr).mono ?_
 rintro e _ ⟨rfl, rfl⟩
 have hp : PB w _ _ _ _ _ _ := ⟨dn, c0, c1, c2, z0, z1, z2, ce, ze, cr, zr, lt⟩
 clear dn c0 c1 c2 z0 z1 z2 ce ze cr zr lt
 obtain ⟨W7, hW7⟩ : ∃ W7, W7 = W6.setCell ⟨w.heap.size + 1 + 1, 0, none⟩ (.string (bA x3)) := ⟨_, rfl⟩
 replace hp := hp.setR x3
 rw [← hW7] at hp ⊢
 clear hW7
 obtain ⟨dn, c0, c1, c2, z0, z1, z2, ce, ze, cr, zr, lt⟩ := hp
 go_wp2_with fail
 refine (cvNum2_bad _ x3 _ cr zr lt (hE.dn dn) hx2 HP3.out).mono ?_
 rintro e _ ⟨rfl, q⟩
 have hp : PB w _ _ _ _ _ _ := ⟨dn, c0, c1, c2, z0, z1, z2, ce, ze, cr, zr, lt⟩
 clear dn c0 c1 c2 z0 z1 z2 ce ze cr zr lt
 replace hp := hp.go q
 obtain ⟨dn, c0, c1, c2, z0, z1, z2, ce, ze, cr, zr, lt⟩ := hp
 go_wp2_with fail
 refine leaves_cons (f := 85) (args := #[.pointer (some ⟨w.heap.size, 0, none⟩), .pointer (some ⟨w.heap.size + 1, 0, none⟩)]) (by simp) (by simp [go_sem]) ?_
 refine (catch_panicking w.heap.size (w.heap.size + 1) _ _ _ _ 5 [] _ c0 c1 c2 ce z0 z1 z2 ze (by omega)).mono ?_
 rintro o u' w'' ⟨rfl, rfl, ⟨k0, k1, k2, k3⟩, hd⟩
 show ∃ v, (results Tryz.f35 _).run Tryz.prog w'' = .ok v w'' ∧ _
 exact ⟨.tuple #[.agg #[.int .i64 0, .int .i64 0, .int .i64 0], .int .i64 5], by simp [results, Tryz.results35, go_sem, k0, k1, k2, k3], rfl, hd w dn (Nat.le_refl _) (by omega)⟩
theorem cvPs_nf (x x2 x3 : List UInt8) (w : World) (hE : EnvK w) (v1 v2 v3 : Int) (hx0 : x.length ≤ 1000) (hx1 : x2.length ≤ 1000) (hx2 : x3.length ≤ 1000) (hP1 : Part (x.takeWhile nd) 4 true) (hv1 : clampV (Dg.nvA 0 (x.takeWhile nd)) = v1) (h2 : x.dropWhile nd = 45 :: x2) (hP2 : Part (x2.takeWhile nd) 2 false) (hv2 : clampV (Dg.nvA 0 (x2.takeWhile nd)) = v2) (h3 : x2.dropWhile nd = 45 :: x3) (hP3 : Part (x3.takeWhile nd) 2 false) (hv3 : clampV (Dg.nvA 0 (x3.takeWhile nd)) = v3) (hr : x3.dropWhile nd ≠ []) :
  Calls Tryz.prog 35 #[.string (bA (45 :: x))] w fun o w' => o = .returned (.tuple #[.agg #[.int .i64 0, .int .i64 0, .int .i64 0], .int .i64 5]) ∧ Dn w w' := by
 have hmf : ∀ (fn : Fn) (first cap : Array Value) (w : World), (Instr.makeFunc fn first cap).run Tryz.prog w = .ok (.func fn first cap) w := fun _ _ _ _ => rfl
 have HN := Lib.hid (show isNeg (45 :: x) = true from rfl)
 have HP1 := Lib.hid hP1
 have Hv1 := Lib.hid hv1
 have H2 := Lib.hid h2
 have HP2 := Lib.hid hP2
 have Hv2 := Lib.hid hv2
 have H3 := Lib.hid h3
 have HP3 := Lib.hid hP3
 have Hv3 := Lib.hid hv3
 clear hP1 hv1 h2 hP2 hv2 h3 hP3 hv3
 have r1 : ¬ x3.dropWhile nd = [] := hr
 go_enter_defers Tryz.func35, Tryz.ntmps35
 go_wp2_with fail
 have hp := PB.start w (45 :: x)
 obtain ⟨W0, hW0⟩ : ∃ W0, W0 = ((w.alloc (.cells #[.int .i64 0, .int .i64 0, .int .i64 0] 64)).alloc (.cells #[.int .i64 0] 31)).alloc (.cells #[.string (bA (45 :: x))] 122) := ⟨_, rfl⟩
 rw [← hW0] at hp ⊢
 clear hW0
 refine (hasC (45 :: x) _ HN.out _).mono ?_
 rintro e _ ⟨rfl, rfl⟩
 obtain ⟨dn, c0, c1, c2, z0, z1, z2, ce, ze, cr, zr, lt⟩ := hp
 go_wp2_with fail
 refine (cvMin_ok _ x _ cr zr).mono ?_
 rintro e _ ⟨rfl, rfl⟩
 have hp : PB w _ _ _ _ _ _ := ⟨dn, c0, c1, c2, z0, z1, z2, ce, ze, cr, zr, lt⟩
 clear dn c0 c1 c2 z0 z1 z2 ce ze cr zr lt
 obtain ⟨W1, hW1⟩ : ∃ W1, W1 = W0.setCell ⟨w.heap.size + 1 + 1, 0, none⟩ (.string (bA x)) := ⟨_, rfl⟩
 replace hp := hp.setR x
 rw [← hW1] at hp ⊢
 clear hW1
 obtain ⟨dn, c0, c1, c2, z0, z1, z2, ce, ze, cr, zr, lt⟩ := hp
 go_wp2_with fail
 refine (cvNum4_at v1 _ x _ Hv1.out cr zr lt (hE.dn dn) hx0 HP1.out).mono ?_
 rintro e _ ⟨rfl, V, q, rfl⟩
 have hp : PB w _ _ _ _ _ _ := ⟨dn, c0, c1, c2, z0, z1, z2, ce, ze, cr, zr, lt⟩
 clear dn c0 c1 c2 z0 z1 z2 ce ze cr zr lt
 replace hp := hp.go q
 clear q
 obtain ⟨W2, hW2⟩ : ∃ W2, W2 = V.setCell ⟨w.heap.size + 1 + 1, 0, none⟩ (.string (bA (x.dropWhile nd))) := ⟨_, rfl⟩
 replace hp := hp.setR (x.dropWhile nd)
 rw [← hW2] at hp ⊢
 clear hW2
 obtain ⟨dn, c0, c1, c2, z0, z1, z2, ce, ze, cr, zr, lt⟩ := hp
 go_wp2_with fail
 have hp : PB w _ _ _ _ _ _ := ⟨dn, c0, c1, c2, z0, z1, z2, ce, ze, cr, zr, lt⟩
 clear dn c0 c1 c2 z0 z1 z2 ce ze cr zr lt
 obtain ⟨W3, hW3⟩ : ∃ W3, W3 = W2.setCell ⟨w.heap.size, 0, none⟩ (.int .i64 v1) := ⟨_, rfl⟩
 replace hp := hp.set0 v1
 rw [← hW3] at hp ⊢
 clear hW3
 obtain ⟨dn, c0, c1, c2, z0, z1, z2, ce, ze, cr, zr, lt⟩ := hp
 rw [H2.out] at cr
 refine (cvMin_ok _ x2 _ cr zr).mono ?_
 rintro e _ ⟨rfl, rfl⟩
 have hp : PB w _ _ _ _ _ _ := ⟨dn, c0, c1, c2, z0, z1, z2, ce, ze, cr, zr, lt⟩
 clear dn c0 c1 c2 z0 z1 z2 ce ze cr zr lt
 obtain ⟨W4, hW4⟩ : ∃ W4, W4 = W3.setCell ⟨w.heap.size + 1 + 1, 0, none⟩ (.string (bA x2)) := ⟨_, rfl⟩
 replace hp := hp.setR x2
 rw [← hW4] at hp ⊢
 clear hW4
 obtain ⟨dn, c0, c1, c2, z0, z1, z2, ce, ze, cr, zr, lt⟩ := hp
 go_wp2_with fail
 refine (cvNum2_at v2 _ x2 _ Hv2.out cr zr lt (hE.dn dn) hx1 HP2.out).mono ?_
 rintro e _ ⟨rfl, V, q, rfl⟩
 have hp : PB w _ _ _ _ _ _ := ⟨dn, c0, c1, c2, z0, z1, z2, ce, ze, cr, zr, lt⟩
 clear dn c0 c1 c2 z0 z1 z2 ce ze cr zr lt
 replace hp := hp.go q
 clear q
 obtain ⟨W5, hW5⟩ : ∃ W5, W5 = V.setCell ⟨w.heap.size + 1 + 1, 0, none⟩ (.string (bA (x2.dropWhile nd))) := ⟨_, rfl⟩
 replace hp := hp.setR (x2.dropWhile nd)
 rw [← hW5] at hp ⊢
 clear hW5
 obtain ⟨dn, c0, c1, c2, z0, z1, z2, ce, ze, cr, zr, lt⟩ := hp
 go_wp2_with fail
 have hp : PB w _ _ _ _ _ _ := ⟨dn, c0, c1, c2, z0, z1, z2, ce, ze, cr, zr, lt⟩
 clear dn c0 c1 c2 z0 z1 z2 ce ze cr zr lt
 obtain ⟨W6, hW6⟩ : ∃ W6, W6 = W5.setCell ⟨w.heap.size, 1, none⟩ (.int .i64 v2) := ⟨_, rfl⟩
 replace hp := hp.set1 v2
 rw [← hW6] at hp ⊢
 clear hW6
 obtain ⟨dn, c0, c1, c2, z0, z1, z2, ce, ze, cr, zr, lt⟩ := hp
 rw [H3.out] at cr
 refine (cvMin_ok _ x3 _ cr zr).mono ?_
 rintro e _ ⟨rfl, rfl⟩
 have hp : PB w _ _ _ _ _ _ := ⟨dn, c0, c1, c2, z0, z1, z2, ce, ze, cr, zr, lt⟩
 clear dn c0 c1 c2 z0 z1 z2 ce ze cr zr lt
 obtain ⟨W7, hW7⟩ : ∃ W7, W7 = W6.setCell ⟨w.heap.size + 1 + 1, 0, none⟩ (.string (bA x3)) := ⟨_, rfl⟩
 replace hp := hp.setR x3
 rw [← hW7] at hp ⊢
 clear hW7
 obtain ⟨dn, c0, c1, c2, z0, z1, z2, ce, ze, cr, zr, lt⟩ := hp
 go_wp2_with fail
 refine (cvNum2_at v3 _ x3 _ Hv3.out cr zr lt (hE.dn dn) hx2 HP3.out).mono ?_
 rintro e _ ⟨rfl, V, q, rfl⟩
 have hp : PB w _ _ _ _ _ _ := ⟨dn, c0, c1, c2, z0, z1, z2, ce, ze, cr, zr, lt⟩
 clear dn c0 c1 c2 z0 z1 z2 ce ze cr zr lt
 replace hp := hp.go q
 clear q
 obtain ⟨W21, hW21⟩ : ∃ W21, W21 = V.setCell ⟨w.heap.size + 1 + 1, 0, none⟩ (.string (bA (x3.dropWhile nd))) := ⟨_, rfl⟩
 replace hp := hp.setR (x3.dropWhile nd)
 rw [← hW21] at hp ⊢
 clear hW21
 obtain ⟨dn, c0, c1, c2, z0, z1, z2, ce, ze, cr, zr, lt⟩ := hp
 go_wp2_with fail
 have hp : PB w _ _ _ _ _ _ := ⟨dn, c0, c1, c2, z0, z1, z2, ce, ze, cr, zr, lt⟩
 clear dn c0 c1 c2 z0 z1 z2 ce ze cr zr lt
 obtain ⟨W22, hW22⟩ : ∃ W22, W22 = W21.setCell ⟨w.heap.size, 2, none⟩ (.int .i64 v3) := ⟨_, rfl⟩
 replace hp := hp.set2 v3
 rw [← hW22] at hp ⊢
 clear hW22
 obtain ⟨dn, c0, c1, c2, z0, z1, z2, ce, ze, cr, zr, lt⟩ := hp
 refine leaves_cons (f := 85) (args := #[.pointer (some ⟨w.heap.size, 0, none⟩), .pointer (some ⟨w.heap.size + 1, 0, none⟩)]) (by simp) (by simp [go_sem]) ?_
 refine (catch_panicking w.heap.size (w.heap.size + 1) _ _ _ _ 5 [] _ c0 c1 c2 ce z0 z1 z2 ze (by omega)).mono ?_
 rintro o u' w'' ⟨rfl, rfl, ⟨k0, k1, k2, k3⟩, hd⟩
 show ∃ v, (results Tryz.f35 _).run Tryz.prog w'' = .ok v w'' ∧ _
 exact ⟨.tuple #[.agg #[.int .i64 0, .int .i64 0, .int .i64 0], .int .i64 5], by simp [results, Tryz.results35, go_sem, k0, k1, k2, k3], rfl, hd w dn (Nat.le_refl _) (by omega)⟩
theorem cvPs_ng (x x2 x3 : List UInt8) (w : World) (hE : EnvK w) (v1 v2 v3 : Int) (hx0 : x.length ≤ 1000) (hx1 : x2.length ≤ 1000) (hx2 : x3.length ≤ 1000) (hP1 : Part (x.takeWhile nd) 4 true) (hv1 : clampV (Dg.nvA 0 (x.takeWhile nd)) = v1) (h2 : x.dropWhile nd = 45 :: x2) (hP2 : Part (x2.takeWhile nd) 2 false) (hv2 : clampV (Dg.nvA 0 (x2.takeWhile nd)) = v2) (h3 : x2.dropWhile nd = 45 :: x3) (hP3 : Part (x3.takeWhile nd) 2 false) (hv3 : clampV (Dg.nvA 0 (x3.takeWhile nd)) = v3) (hr : x3.dropWhile nd = []) (hy : v1 = 0) :
  Calls Tryz.prog 35 #[.string (bA (45 :: x))] w fun o w' => o = .returned (.tuple #[.agg #[.int .i64 0, .int .i64 0, .int .i64 0], .int .i64 5]) ∧ Dn w w' := by
 have hmf : ∀ (fn : Fn) (first cap : Array Value) (w : World), (Instr.makeFunc fn first cap).run Tryz.prog w = .ok (.func fn first cap) w := fun _ _ _ _ => rfl
 have HN := Lib.hid (show isNeg (45 :: x) = true from rfl)
 have HP1 := Lib.hid hP1
 have Hv1 := Lib.hid hv1
 have H2 := Lib.hid h2
 have HP2 := Lib.hid hP2
 have Hv2 := Lib.hid hv2
 have H3 := Lib.hid h3
 have HP3 := Lib.hid hP3
 have Hv3 := Lib.hid hv3
 clear hP1 hv1 h2 hP2 hv2 h3 hP3 hv3
 have HR := Lib.hid hr
 clear hr
 have t1 : (v1 == 0) = true := by simpa using hy
 clear hy
 go_enter_defers Tryz.func35, Tryz.ntmps35
 go_wp2_with fail
 have hp := PB.start w (45 :: x)
 obtain ⟨W0, hW0⟩ : ∃ W0, W0 = ((w.alloc (.cells #[.int .i64 0, .int .i64 0, .int .i64 0] 64)).alloc (.cells #[.int .i64 0] 31)).alloc (.cells #[.string (bA (45 :: x))] 122) := ⟨_, rfl⟩
 rw [← hW0] at hp ⊢
 clear hW0
 refine (hasC (45 :: x) _ HN.out _).mono ?_
 rintro e _ ⟨rfl, rfl⟩
 obtain ⟨dn, c0, c1, c2, z0, z1, z2, ce, ze, cr, zr, lt⟩ := hp
 go_wp2_with fail
 refine (cvMin_ok _ x _ cr zr).mono ?_
 rintro e _ ⟨rfl, rfl⟩
 have hp : PB w _ _ _ _ _ _ := ⟨dn, c0, c1, c2, z0, z1, z2, ce, ze, cr, zr, lt⟩
 clear dn c0 c1 c2 z0 z1 z2 ce ze cr zr lt
 obtain ⟨W1, hW1⟩ : ∃ W1, W1 = W0.setCell ⟨w.heap.size + 1 + 1, 0, none⟩ (.string (bA x)) := ⟨_, rfl⟩
 replace hp := hp.setR x
 rw [← hW1] at hp ⊢
 clear hW1
 obtain ⟨dn, c0, c1, c2, z0, z1, z2, ce, ze, cr, zr, lt⟩ := hp
 go_wp2_with fail
 refine (cvNum4_at v1 _ x _ Hv1.out cr zr lt (hE.dn dn) hx0 HP1.out).mono ?_
 rintro e _ ⟨rfl, V, q, rfl⟩
 have hp : PB w _ _ _ _ _ _ := ⟨dn, c0, c1, c2, z0, z1, z2, ce, ze, cr, zr, lt⟩
 clear dn c0 c1 c2 z0 z1 z2 ce ze cr zr lt
 replace hp := hp.go q
 clear q
 obtain ⟨W2, hW2⟩ : ∃ W2, W2 = V.setCell ⟨w.heap.size + 1 + 1, 0, none⟩ (.string (bA (x.dropWhile nd))) := ⟨_, rfl⟩
 replace hp := hp.setR (x.dropWhile nd)
 rw [← hW2] at hp ⊢
 clear hW2
 obtain ⟨dn, c0, c1, c2, z0, z1, z2, ce, ze, cr, zr, lt⟩ := hp
 go_wp2_with fail
 have hp : PB w _ _ _ _ _ _ := ⟨dn, c0, c1, c2, z0, z1, z2, ce, ze, cr, zr, lt⟩
 clear dn c0 c1 c2 z0 z1 z2 ce ze cr zr lt
 obtain ⟨W3, hW3⟩ : ∃ W3, W3 = W2.setCell ⟨w.heap.size, 0, none⟩ (.int .i64 v1) := ⟨_, rfl⟩
 replace hp := hp.set0 v1
 rw [← hW3] at hp ⊢
 clear hW3
 obtain ⟨dn, c0, c1, c2, z0, z1, z2, ce, ze, cr, zr, lt⟩ := hp
 rw [H2.out] at cr
 refine (cvMin_ok _ x2 _ cr zr).mono ?_
 rintro e _ ⟨rfl, rfl⟩
 have hp : PB w _ _ _ _ _ _ := ⟨dn, c0, c1, c2, z0, z1, z2, ce, ze, cr, zr, lt⟩
 clear dn c0 c1 c2 z0 z1 z2 ce ze cr zr lt
 obtain ⟨W4, hW4⟩ : ∃ W4, W4 = W3.setCell ⟨w.heap.size + 1 + 1, 0, none⟩ (.string (bA x2)) := ⟨_, rfl⟩
 replace hp := hp.setR x2
 rw [← hW4] at hp ⊢
 clear hW4
 obtain ⟨dn, c0, c1, c2, z0, z1, z2, ce, ze, cr, zr, lt⟩ := hp
 go_wp2_with fail
 refine (cvNum2_at v2 _ x2 _ Hv2.out cr zr lt (hE.dn dn) hx1 HP2.out).mono ?_
 rintro e _ ⟨rfl, V, q, rfl⟩
 have hp : PB w _ _ _ _ _ _ := ⟨dn, c0, c1, c2, z0, z1, z2, ce, ze, cr, zr, lt⟩
 clear dn c0 c1 c2 z0 z1 z2 ce ze cr zr lt
 replace hp := hp.go q
 clear q
 obtain ⟨W5, hW5⟩ : ∃ W5, W5 = V.setCell ⟨w.heap.size + 1 + 1, 0, none⟩ (.string (bA (x2.dropWhile nd))) := ⟨_, rfl⟩
 replace hp := hp.setR (x2.dropWhile nd)
 rw [← hW5] at hp ⊢
 clear hW5
 obtain ⟨dn, c0, c1, c2, z0, z1, z2, ce, ze, cr, zr, lt⟩ := hp
 go_wp2_with fail
 have hp : PB w _ _ _ _ _ _ := ⟨dn, c0, c1, c2, z0, z1, z2, ce, ze, cr, zr, lt⟩
 clear dn c0 c1 c2 z0 z1 z2 ce ze cr zr lt
 obtain ⟨W6, hW6⟩ : ∃ W6, W6 = W5.setCell ⟨w.heap.size, 1, none⟩ (.int .i64 v2) := ⟨_, rfl⟩
 replace hp := hp.set1 v2
 rw [← hW6] at hp ⊢
 clear hW6
 obtain ⟨dn, c0, c1, c2, z0, z1, z2, ce, ze, cr, zr, lt⟩ := hp
 rw [H3.out] at cr
 refine (cvMin_ok _ x3 _ cr zr).mono ?_
 rintro e _ ⟨rfl, rfl⟩
 have hp : PB w _ _ _ _ _ _ := ⟨dn, c0, c1, c2, z0, z1, z2, ce, ze, cr, zr, lt⟩
 clear dn c0 c1 c2 z0 z1 z2 ce ze cr zr lt
 obtain ⟨W7, hW7⟩ : ∃ W7, W7 = W6.setCell ⟨w.heap.size + 1 + 1, 0, none⟩ (.string (bA x3)) := ⟨_, rfl⟩
 replace hp := hp.setR x3
 rw [← hW7] at hp ⊢
 clear hW7
 obtain ⟨dn, c0, c1, c2, z0, z1, z2, ce, ze, cr, zr, lt⟩ := hp
 go_wp2_with fail
 refine (cvNum2_at v3 _ x3 _ Hv3.out cr zr lt (hE.dn dn) hx2 HP3.out).mono ?_
 rintro e _ ⟨rfl, V, q, rfl⟩
 have hp : PB w _ _ _ _ _ _ := ⟨dn, c0, c1, c2, z0, z1, z2, ce, ze, cr, zr, lt⟩
 clear dn c0 c1 c2 z0 z1 z2 ce ze cr zr lt
 replace hp := hp.go q
 clear q
 obtain ⟨W21, hW21⟩ : ∃ W21, W21 = V.setCell ⟨w.heap.size + 1 + 1, 0, none⟩ (.string (bA (x3.dropWhile nd))) := ⟨_, rfl⟩
 replace hp := hp.setR (x3.dropWhile nd)
 rw [← hW21] at hp ⊢
 clear hW21
 rw [HR.out] at hp
 obtain ⟨dn, c0, c1, c2, z0, z1, z2, ce, ze, cr, zr, lt⟩ := hp
 replace cr : W21.cell? ⟨w.heap.size + 1 + 1, 0, none⟩ = some (.string ⟨#[]⟩) := cr
 go_wp2_with fail
 have hp : PB w W21 [] _ _ _ _ := ⟨dn, c0, c1, c2, z0, z1, z2, ce, ze, cr, zr, lt⟩
 clear dn c0 c1 c2 z0 z1 z2 ce ze cr zr lt
 obtain ⟨W22, hW22⟩ : ∃ W22, W22 = W21.setCell ⟨w.heap.size, 2, none⟩ (.int .i64 v3) := ⟨_, rfl⟩
 replace hp := hp.set2 v3
 rw [← hW22] at hp ⊢
 clear hW22
 obtain ⟨dn, c0, c1, c2, z0, z1, z2, ce, ze, cr, zr, lt⟩ := hp
 refine leaves_cons (f := 85) (args := #[.pointer (some ⟨w.heap.size, 0, none⟩), .pointer (some ⟨w.heap.size + 1, 0, none⟩)]) (by simp) (by simp [go_sem]) ?_
 refine (catch_panicking w.heap.size (w.heap.size + 1) _ _ _ _ 5 [] _ c0 c1 c2 ce z0 z1 z2 ze (by omega)).mono ?_
 rintro o u' w'' ⟨rfl, rfl, ⟨k0, k1, k2, k3⟩, hd⟩
 show ∃ v, (results Tryz.f35 _).run Tryz.prog w'' = .ok v w'' ∧ _
 exact ⟨.tuple #[.agg #[.int .i64 0, .int .i64 0, .int .i64 0], .int .i64 5], by simp [results, Tryz.results35, go_sem, k0, k1, k2, k3], rfl, hd w dn (Nat.le_refl _) (by omega)⟩
theorem cvPs_nh (x x2 x3 : List UInt8) (w : World) (hE : EnvK w) (v1 v2 v3 : Int) (hx0 : x.length ≤ 1000) (hx1 : x2.length ≤ 1000) (hx2 : x3.length ≤ 1000) (hP1 : Part (x.takeWhile nd) 4 true) (hv1 : clampV (Dg.nvA 0 (x.takeWhile nd)) = v1) (h2 : x.dropWhile nd = 45 :: x2) (hP2 : Part (x2.takeWhile nd) 2 false) (hv2 : clampV (Dg.nvA 0 (x2.takeWhile nd)) = v2) (h3 : x2.dropWhile nd = 45 :: x3) (hP3 : Part (x3.takeWhile nd) 2 false) (hv3 : clampV (Dg.nvA 0 (x3.takeWhile nd)) = v3) (hr : x3.dropWhile nd = []) (hy : v1 ≠ 0) (hb : 0 ≤ v1 ∧ v1 ≤ 9223372036854775807) (e0 : Int) (he : cErr (-v1) v2 v3 = e0) (h0 : e0 ≠ 0) :
  Calls Tryz.prog 35 #[.string (bA (45 :: x))] w fun o w' => o = .returned (.tuple #[.agg #[.int .i64 0, .int .i64 0, .int .i64 0], .int .i64 e0]) ∧ Dn w w' := by
 have hmf : ∀ (fn : Fn) (first cap : Array Value) (w : World), (Instr.makeFunc fn first cap).run Tryz.prog w = .ok (.func fn first cap) w := fun _ _ _ _ => rfl
 have HN := Lib.hid (show isNeg (45 :: x) = true from rfl)
 have HP1 := Lib.hid hP1
 have Hv1 := Lib.hid hv1
 have H2 := Lib.hid h2
 have HP2 := Lib.hid hP2
 have Hv2 := Lib.hid hv2
 have H3 := Lib.hid h3
 have HP3 := Lib.hid hP3
 have Hv3 := Lib.hid hv3
 clear hP1 hv1 h2 hP2 hv2 h3 hP3 hv3
 have HR := Lib.hid hr
 clear hr
 have t1 : (v1 == 0) = false := by simpa using hy
 clear hy
 have HC := Lib.hid he
 have t2 : (e0 != 0) = true := by simpa using h0
 clear he h0
 go_enter_defers Tryz.func35, Tryz.ntmps35
 go_wp2_with fail
 have hp := PB.start w (45 :: x)
 obtain ⟨W0, hW0⟩ : ∃ W0, W0 = ((w.alloc (.cells #[.int .i64 0, .int .i64 0, .int .i64 0] 64)).alloc (.cells #[.int .i64 0] 31)).alloc (.cells #[.string (bA (45 :: x))] 122) := ⟨_, rfl⟩
 rw [← hW0] at hp ⊢
 clear hW0
 refine (hasC (45 :: x) _ HN.out _).mono ?_
 rintro e _ ⟨rfl, rfl⟩
 obtain ⟨dn, c0, c1, c2, z0, z1, z2, ce, ze, cr, zr, lt⟩ := hp
 go_wp2_with fail
 refine (cvMin_ok _ x _ cr zr).mono ?_
 rintro e _ ⟨rfl, rfl⟩
 have hp : PB w _ _ _ _ _ _ := ⟨dn, c0, c1, c2, z0, z1, z2, ce, ze, cr, zr, lt⟩
 clear dn c0 c1 c2 z0 z1 z2 ce ze cr zr lt
 obtain ⟨W1, hW1⟩ : ∃ W1, W1 = W0.setCell ⟨w.heap.size + 1 + 1, 0, none⟩ (.string (bA x)) := ⟨_, rfl⟩
 replace hp := hp.setR x
 rw [← hW1] at hp ⊢
 clear hW1
 obtain ⟨dn, c0, c1, c2, z0, z1, z2, ce, ze, cr, zr, lt⟩ := hp
 go_wp2_with fail
 refine (cvNum4_at v1 _ x _ Hv1.out cr zr lt (hE.dn dn) hx0 HP1.out).mono ?_
 rintro e _ ⟨rfl, V, q, rfl⟩
 have hp : PB w _ _ _ _ _ _ := ⟨dn, c0, c1, c2, z0, z1, z2, ce, ze, cr, zr, lt⟩
 clear dn c0 c1 c2 z0 z1 z2 ce ze cr zr lt
 replace hp := hp.go q
 clear q
 obtain ⟨W2, hW2⟩ : ∃ W2, W2 = V.setCell ⟨w.heap.size + 1 + 1, 0, none⟩ (.string (bA (x.dropWhile nd))) := ⟨_, rfl⟩
 replace hp := hp.setR (x.dropWhile nd)
 rw [← hW2] at hp ⊢
 clear hW2
 obtain ⟨dn, c0, c1, c2, z0, z1, z2, ce, ze, cr, zr, lt⟩ := hp
 go_wp2_with fail
 have hp : PB w _ _ _ _ _ _ := ⟨dn, c0, c1, c2, z0, z1, z2, ce, ze, cr, zr, lt⟩
 clear dn c0 c1 c2 z0 z1 z2 ce ze cr zr lt
 obtain ⟨W3, hW3⟩ : ∃ W3, W3 = W2.setCell ⟨w.heap.size, 0, none⟩ (.int .i64 v1) := ⟨_, rfl⟩
 replace hp := hp.set0 v1
 rw [← hW3] at hp ⊢
 clear hW3
 obtain ⟨dn, c0, c1, c2, z0, z1, z2, ce, ze, cr, zr, lt⟩ := hp
 rw [H2.out] at cr
 refine (cvMin_ok _ x2 _ cr zr).mono ?_
 rintro e _ ⟨rfl, rfl⟩
 have hp : PB w _ _ _ _ _ _ := ⟨dn, c0, c1, c2, z0, z1, z2, ce, ze, cr, zr, lt⟩
 clear dn c0 c1 c2 z0 z1 z2 ce ze cr zr lt
 obtain ⟨W4, hW4⟩ : ∃ W4, W4 = W3.setCell ⟨w.heap.size + 1 + 1, 0, none⟩ (.string (bA x2)) := ⟨_, rfl⟩
 replace hp := hp.setR x2
 rw [← hW4] at hp ⊢
 clear hW4
 obtain ⟨dn, c0, c1, c2, z0, z1, z2, ce, ze, cr, zr, lt⟩ := hp
 go_wp2_with fail
 refine (cvNum2_at v2 _ x2 _ Hv2.out cr zr lt (hE.dn dn) hx1 HP2.out).mono ?_
 rintro e _ ⟨rfl, V, q, rfl⟩
 have hp : PB w _ _ _ _ _ _ := ⟨dn, c0, c1, c2, z0, z1, z2, ce, ze, cr, zr, lt⟩
 clear dn c0 c1 c2 z0 z1 z2 ce ze cr zr lt
 replace hp := hp.go q
 clear q
 obtain ⟨W5, hW5⟩ : ∃ W5, W5 = V.setCell ⟨w.heap.size + 1 + 1, 0, none⟩ (.string (bA (x2.dropWhile nd))) := ⟨_, rfl⟩
 replace hp := hp.setR (x2.dropWhile nd)
 rw [← hW5] at hp ⊢
 clear hW5
 obtain ⟨dn, c0, c1, c2, z0, z1, z2, ce, ze, cr, zr, lt⟩ := hp
 go_wp2_with fail
 have hp : PB w _ _ _ _ _ _ := ⟨dn, c0, c1, c2, z0, z1, z2, ce, ze, cr, zr, lt⟩
 clear dn c0 c1 c2 z0 z1 z2 ce ze cr zr lt
 obtain ⟨W6, hW6⟩ : ∃ W6, W6 = W5.setCell ⟨w.heap.size, 1, none⟩ (.int .i64 v2) := ⟨_, rfl⟩
 replace hp := hp.set1 v2
 rw [← hW6] at hp ⊢
 clear hW6
 obtain ⟨dn, c0, c1, c2, z0, z1, z2, ce, ze, cr, zr, lt⟩ := hp
 rw [H3.out] at cr
 refine (cvMin_ok _ x3 _ cr zr).mono ?_
 rintro e _ ⟨rfl, rfl⟩
 have hp : PB w _ _ _ _ _ _ := ⟨dn, c0, c1, c2, z0, z1, z2, ce, ze, cr, zr, lt⟩
 clear dn c0 c1 c2 z0 z1 z2 ce ze cr zr lt
 obtain ⟨W7, hW7⟩ : ∃ W7, W7 = W6.setCell ⟨w.heap.size + 1 + 1, 0, none⟩ (.string (bA x3)) := ⟨_, rfl⟩
 replace hp := hp.setR x3
 rw [← hW7] at hp ⊢
 clear hW7
 obtain ⟨dn, c0, c1, c2, z0, z1, z2, ce, ze, cr, zr, lt⟩ := hp
 go_wp2_with fail
 refine (cvNum2_at v3 _ x3 _ Hv3.out cr zr lt (hE.dn dn) hx2 HP3.out).mono ?_
 rintro e _ ⟨rfl, V, q, rfl⟩
 have hp : PB w _ _ _ _ _ _ := ⟨dn, c0, c1, c2, z0, z1, z2, ce, ze, cr, zr, lt⟩
 clear dn c0 c1 c2 z0 z1 z2 ce ze cr zr lt
 replace hp := hp.go q
 clear q
 obtain ⟨W21, hW21⟩ : ∃ W21, W21 = V.setCell ⟨w.heap.size + 1 + 1, 0, none⟩ (.string (bA (x3.dropWhile nd))) := ⟨_, rfl⟩
 replace hp := hp.setR (x3.dropWhile nd)
 rw [← hW21] at hp ⊢
 clear hW21
 rw [HR.out] at hp
 obtain ⟨dn, c0, c1, c2, z0, z1, z2, ce, ze, cr, zr, lt⟩ := hp
 replace cr : W21.cell? ⟨w.heap.size + 1 + 1, 0, none⟩ = some (.string ⟨#[]⟩) := cr
 go_wp2_with fail
 have hp : PB w W21 [] _ _ _ _ := ⟨dn, c0, c1, c2, z0, z1, z2, ce, ze, cr, zr, lt⟩
 clear dn c0 c1 c2 z0 z1 z2 ce ze cr zr lt
 obtain ⟨W22, hW22⟩ : ∃ W22, W22 = (W21.setCell ⟨w.heap.size, 2, none⟩ (.int .i64 v3)).setCell ⟨w.heap.size, 0, none⟩ (.int .i64 (-v1)) := ⟨_, rfl⟩
 replace hp := (hp.set2 v3).set0 (-v1)
 rw [← hW22] at hp ⊢
 clear hW22
 obtain ⟨dn, c0, c1, c2, z0, z1, z2, ce, ze, cr, zr, lt⟩ := hp
 refine (cvChk _ _ _ _ _ (hE.dn dn) HC.out).mono ?_
 rintro e V2 ⟨rfl, q⟩
 have hp : PB w _ _ _ _ _ _ := ⟨dn, c0, c1, c2, z0, z1, z2, ce, ze, cr, zr, lt⟩
 clear dn c0 c1 c2 z0 z1 z2 ce ze cr zr lt
 replace hp := hp.go q
 clear q
 obtain ⟨dn, c0, c1, c2, z0, z1, z2, ce, ze, cr, zr, lt⟩ := hp
 go_wp2_with fail
 refine leaves_cons (f := 85) (args := #[.pointer (some ⟨w.heap.size, 0, none⟩), .pointer (some ⟨w.heap.size + 1, 0, none⟩)]) (by simp) (by simp [go_sem]) ?_
 refine (catch_panicking w.heap.size (w.heap.size + 1) _ _ _ _ e0 [] _ c0 c1 c2 ce z0 z1 z2 ze (by omega)).mono ?_
 rintro o u' w'' ⟨rfl, rfl, ⟨k0, k1, k2, k3⟩, hd⟩
 show ∃ v, (results Tryz.f35 _).run Tryz.prog w'' = .ok v w'' ∧ _
 exact ⟨.tuple #[.agg #[.int .i64 0, .int .i64 0, .int .i64 0], .int .i64 e0], by simp [results, Tryz.results35, go_sem, k0, k1, k2, k3], rfl, hd w dn (Nat.le_refl _) (by omega)⟩
theorem cvPs_ni (x x2 x3 : List UInt8) (w : World) (hE : EnvK w) (v1 v2 v3 : Int) (hx0 : x.length ≤ 1000) (hx1 : x2.length ≤ 1000) (hx2 : x3.length ≤ 1000) (hP1 : Part (x.takeWhile nd) 4 true) (hv1 : clampV (Dg.nvA 0 (x.takeWhile nd)) = v1) (h2 : x.dropWhile nd = 45 :: x2) (hP2 : Part (x2.takeWhile nd) 2 false) (hv2 : clampV (Dg.nvA 0 (x2.takeWhile nd)) = v2) (h3 : x2.dropWhile nd = 45 :: x3) (hP3 : Part (x3.takeWhile nd) 2 false) (hv3 : clampV (Dg.nvA 0 (x3.takeWhile nd)) = v3) (hr : x3.dropWhile nd = []) (hy : v1 ≠ 0) (hb : 0 ≤ v1 ∧ v1 ≤ 9223372036854775807) (he : cErr (-v1) v2 v3 = 0) :
  Calls Tryz.prog 35 #[.string (bA (45 :: x))] w fun o w' => o = .returned (.tuple #[.agg #[.int .i64 (-v1), .int .i64 v2, .int .i64 v3], .int .i64 0]) ∧ Dn w w' := by
 have hmf : ∀ (fn : Fn) (first cap : Array Value) (w : World), (Instr.makeFunc fn first cap).run Tryz.prog w = .ok (.func fn first cap) w := fun _ _ _ _ => rfl
 have HN := Lib.hid (show isNeg (45 :: x) = true from rfl)
 have HP1 := Lib.hid hP1
 have Hv1 := Lib.hid hv1
 have H2 := Lib.hid h2
 have HP2 := Lib.hid hP2
 have Hv2 := Lib.hid hv2
 have H3 := Lib.hid h3
 have HP3 := Lib.hid hP3
 have Hv3 := Lib.hid hv3
 clear hP1 hv1 h2 hP2 hv2 h3 hP3 hv3
 have HR := Lib.hid hr
 clear hr
 have t1 : (v1 == 0) = false := by simpa using hy
 clear hy
 have HC := Lib.hid he
 clear he
 go_enter_defers Tryz.func35, Tryz.ntmps35
 go_wp2_with fail
 have hp := PB.start w (45 :: x)
 obtain ⟨W0, hW0⟩ : ∃ W0, W0 = ((w.alloc (.cells #[.int .i64 0, .int .i64 0, .int .i64 0] 64)).alloc (.cells #[.int .i64 0] 31)).alloc (.cells #[.string (bA (45 :: x))] 122) := ⟨_, rfl⟩
 rw [← hW0] at hp ⊢
 clear hW0
 refine (hasC (45 :: x) _ HN.out _).mono ?_
 rintro e _ ⟨rfl, rfl⟩
 obtain ⟨dn, c0, c1, c2, z0, z1, z2, ce, ze, cr, zr, lt⟩ := hp
 go_wp2_with fail
 refine (cvMin_ok _ x _ cr zr).mono ?_
 rintro e _ ⟨rfl, rfl⟩
 have hp : PB w _ _ _ _ _ _ := ⟨dn, c0, c1, c2, z0, z1, z2, ce, ze, cr, zr, lt⟩
 clear dn c0 c1 c2 z0 z1 z2 ce ze cr zr lt
 obtain ⟨W1, hW1⟩ : ∃ W1, W1 = W0.setCell ⟨w.heap.size + 1 + 1, 0, none⟩ (.string (bA x)) := ⟨_, rfl⟩
 replace hp := hp.setR x
 rw [← hW1] at hp ⊢
 clear hW1
 obtain ⟨dn, c0, c1, c2, z0, z1, z2, ce, ze, cr, zr, lt⟩ := hp
 go_wp2_with fail
 refine (cvNum4_at v1 _ x _ Hv1.out cr zr lt (hE.dn dn) hx0 HP1.out).mono ?_
 rintro e _ ⟨rfl, V, q, rfl⟩
 have hp : PB w _ _ _ _ _ _ := ⟨dn, c0, c1, c2, z0, z1, z2, ce, ze, cr, zr, lt⟩
 clear dn c0 c1 c2 z0 z1 z2 ce ze cr zr lt
 replace hp := hp.go q
 clear q
 obtain ⟨W2, hW2⟩ : ∃ W2, W2 = V.setCell ⟨w.heap.size + 1 + 1, 0, none⟩ (.string (bA (x.dropWhile nd))) := ⟨_, rfl⟩
 replace hp := hp.setR (x.dropWhile nd)
 rw [← hW2] at hp ⊢
 clear hW2
 obtain ⟨dn, c0, c1, c2, z0, z1, z2, ce, ze, cr, zr, lt⟩ := hp
 go_wp2_with fail
 have hp : PB w _ _ _ _ _ _ := ⟨dn, c0, c1, c2, z0, z1, z2, ce, ze, cr, zr, lt⟩
 clear dn c0 c1 c2 z0 z1 z2 ce ze cr zr lt
 obtain ⟨W3, hW3⟩ : ∃ W3, W3 = W2.setCell ⟨w.heap.size, 0, none⟩ (.int .i64 v1) := ⟨_, rfl⟩
 replace hp := hp.set0 v1
 rw [← hW3] at hp ⊢
 clear hW3
 obtain ⟨dn, c0, c1, c2, z0, z1, z2, ce, ze, cr, zr, lt⟩ := hp
 rw [H2.out] at cr
 refine (cvMin_ok _ x2 _ cr zr).mono ?_
 rintro e _ ⟨rfl, rfl⟩
 have hp : PB w _ _ _ _ _ _ := ⟨dn, c0, c1, c2, z0, z1, z2, ce, ze, cr, zr, lt⟩
 clear dn c0 c1 c2 z0 z1 z2 ce ze cr zr lt
 obtain ⟨W4, hW4⟩ : ∃ W4, W4 = W3.setCell ⟨w.heap.size + 1 + 1, 0, none⟩ (.string (bA x2)) := ⟨_, rfl⟩
 replace hp := hp.setR x2
 rw [← hW4] at hp ⊢
 clear hW4
 obtain ⟨dn, c0, c1, c2, z0, z1, z2, ce, ze, cr, zr, lt⟩ := hp
 go_wp2_with fail
 refine (cvNum2_at v2 _ x2 _ Hv2.out cr zr lt (hE.dn dn) hx1 HP2.out).mono ?_
 rintro e _ ⟨rfl, V, q, rfl⟩
 have hp : PB w _ _ _ _ _ _ := ⟨dn, c0, c1, c2, z0, z1, z2, ce, ze, cr, zr, lt⟩
 clear dn c0 c1 c2 z0 z1 z2 ce ze cr zr lt
 replace hp := hp.go q
 clear q
 obtain ⟨W5, hW5⟩ : ∃ W5, W5 = V.setCell ⟨w.heap.size + 1 + 1, 0, none⟩ (.string (bA (x2.dropWhile nd))) := ⟨_, rfl⟩
 replace hp := hp.setR (x2.dropWhile nd)
 rw [← hW5] at hp ⊢
 clear hW5
 obtain ⟨dn, c0, c1, c2, z0, z1, z2, ce, ze, cr, zr, lt⟩ := hp
 go_wp2_with fail
 have hp : PB w _ _ _ _ _ _ := ⟨dn, c0, c1, c2, z0, z1, z2, ce, ze, cr, zr, lt⟩
 clear dn c0 c1 c2 z0 z1 z2 ce ze cr zr lt
 obtain ⟨W6, hW6⟩ : ∃ W6, W6 = W5.setCell ⟨w.heap.size, 1, none⟩ (.int .i64 v2) := ⟨_, rfl⟩
 replace hp := hp.set1 v2
 rw [← hW6] at hp ⊢
 clear hW6
 obtain ⟨dn, c0, c1, c2, z0, z1, z2, ce, ze, cr, zr, lt⟩ := hp
 rw [H3.out] at cr
 refine (cvMin_ok _ x3 _ cr zr).mono ?_
 rintro e _ ⟨rfl, rfl⟩
 have hp : PB w _ _ _ _ _ _ := ⟨dn, c0, c1, c2, z0, z1, z2, ce, ze, cr, zr, lt⟩
 clear dn c0 c1 c2 z0 z1 z2 ce ze cr zr lt
 obtain ⟨W7, hW7⟩ : ∃ W7, W7 = W6.setCell ⟨w.heap.size + 1 + 1, 0, none⟩ (.string (bA x3)) := ⟨_, rfl⟩
 replace hp := hp.setR x3
 rw [← hW7] at hp ⊢
 clear hW7
 obtain ⟨dn, c0, c1, c2, z0, z1, z2, ce, ze, cr, zr, lt⟩ := hp
 go_wp2_with fail
 refine (cvNum2_at v3 _ x3 _ Hv3.out cr zr lt (hE.dn dn) hx2 HP3.out).mono ?_
 rintro e _ ⟨rfl, V, q, rfl⟩
 have hp : PB w _ _ _ _ _ _ := ⟨dn, c0, c1, c2, z0, z1, z2, ce, ze, cr, zr, lt⟩
 clear dn c0 c1 c2 z0 z1 z2 ce ze cr zr lt
 replace hp := hp.go q
 clear q
 obtain ⟨W21, hW21⟩ : ∃ W21, W21 = V.setCell ⟨w.heap.size + 1 + 1, 0, none⟩ (.string (bA (x3.dropWhile nd))) := ⟨_, rfl⟩
 replace hp := hp.setR (x3.dropWhile nd)
 rw [← hW21] at hp ⊢
 clear hW21
 rw [HR.out] at hp
 obtain ⟨dn, c0, c1, c2, z0, z1, z2, ce, ze, cr, zr, lt⟩ := hp
 replace cr : W21.cell? ⟨w.heap.size + 1 + 1, 0, none⟩ = some (.string ⟨#[]⟩) := cr
 go_wp2_with fail
 have hp : PB w W21 [] _ _ _ _ := ⟨dn, c0, c1, c2, z0, z1, z2, ce, ze, cr, zr, lt⟩
 clear dn c0 c1 c2 z0 z1 z2 ce ze cr zr lt
 obtain ⟨W22, hW22⟩ : ∃ W22, W22 = (W21.setCell ⟨w.heap.size, 2, none⟩ (.int .i64 v3)).setCell ⟨w.heap.size, 0, none⟩ (.int .i64 (-v1)) := ⟨_, rfl⟩
 replace hp := (hp.set2 v3).set0 (-v1)
 rw [← hW22] at hp ⊢
 clear hW22
 obtain ⟨dn, c0, c1, c2, z0, z1, z2, ce, ze, cr, zr, lt⟩ := hp
 refine (cvChk _ _ _ _ _ (hE.dn dn) HC.out).mono ?_
 rintro e V2 ⟨rfl, q⟩
 have hp : PB w _ _ _ _ _ _ := ⟨dn, c0, c1, c2, z0, z1, z2, ce, ze, cr, zr, lt⟩
 clear dn c0 c1 c2 z0 z1 z2 ce ze cr zr lt
 replace hp := hp.go q
 clear q
 obtain ⟨dn, c0, c1, c2, z0, z1, z2, ce, ze, cr, zr, lt⟩ := hp
 go_wp2_with fail
 refine leaves_cons (f := 85) (args := #[.pointer (some ⟨w.heap.size, 0, none⟩), .pointer (some ⟨w.heap.size + 1, 0, none⟩)]) (by simp) (by simp [go_sem]) ?_
 refine (catch_idle _ _ _).mono ?_
 rintro o u' w'' ⟨rfl, rfl, rfl⟩
 show ∃ v, (results Tryz.f35 _).run Tryz.prog _ = .ok v _ ∧ _
 exact ⟨.tuple #[.agg #[.int .i64 (-v1), .int .i64 v2, .int .i64 v3], .int .i64 0], by simp [results, Tryz.results35, go_sem, c0, c1, c2, ce, z0, z1, z2, ze], rfl, (((dn.setCell (by simp <;> omega) _).setCell (by simp <;> omega) _).setCell (by simp <;> omega) _).setCell (by simp <;> omega) _⟩
end Go.Proofs.YteodjglbpfmikaaGreatDoor
