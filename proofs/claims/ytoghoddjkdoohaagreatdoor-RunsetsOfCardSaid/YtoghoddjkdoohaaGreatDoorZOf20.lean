/- Walks and laws that the claim's theorem leans on: part 20. -/
import Derived.Test.YtoghoddjkdoohaaGreatDoorZOf1
import Derived.Test.YtoghoddjkdoohaaGreatDoorZOf8
import Derived.Test.YtoghoddjkdoohaaGreatDoorZOf9
import Derived.Test.YtoghoddjkdoohaaGreatDoorZOf18
import Derived.Test.YtoghoddjkdoohaaGreatDoorZOf19
import Derived.Test.YtoghoddjkdoohaaGreatDoorShJoin
import Derived.Laws.MakeOwn
import Derived.Lib.ItoaLen
namespace Go.Proofs.YtoghoddjkdoohaaGreatDoor
set_option maxHeartbeats 4000000
set_option maxRecDepth 100000
open Go.RowKit
set_option linter.unusedVariables false
set_option linter.unusedSimpArgs false
def Row0 (W : World) (k : Nat) (p : Option Addr) (n : Nat) (L : List Rq) : Prop := if k = 0 then n = L.length ∧ Row W p L else n = 0
theorem row0_dn {W W' : World} {k : Nat} {p : Option Addr} {n : Nat} {L : List Rq} (h : Row0 W k p n L) (q : Dn W W') : Row0 W' k p n L := by
 unfold Row0 at *
 split
 · rename_i e; rw [if_pos e] at h; exact ⟨h.1, h.2.dn q⟩
 · rename_i e; rwa [if_neg e] at h
structure Ss (w : World) (g : Nat) (f : Nat → ByteArray) : Prop where
 at_ : ∀ k, k < 4 → w.cell? ⟨g, k, none⟩ = some (.string (f k))
theorem Ss.dn {w w' : World} {g : Nat} {f : Nat → ByteArray} (h : Ss w g f) (q : Dn w w') : Ss w' g f := ⟨fun k hk => q.cell (h.at_ k hk)⟩
theorem ss_new (w : World) (f : Nat → ByteArray) (arr : Array Value) (h : ∀ k, k < 4 → arr[k]? = some (.string (f k))) : Ss (w.alloc (.cells arr 9)) w.heap.size f :=
 ⟨fun k hk => by simp [go_sem]; exact h k hk⟩
theorem nsI_new (w : World) (vs : List Int) (arr : Array Value) (h : arr = (vs.map (Value.int .i64 ·)).toArray) : Ns (w.alloc (.cells arr 3)) w.heap.size vs := by
 refine ⟨by simp, fun k v hv => ?_⟩
 subst h
 simp [go_sem, hv]
theorem preOf65x1 (w20 : World) : ∃ W1, W1 = (((w20.alloc (.cells #[.int .i8 (-1), .int .i64 0] 41)).alloc (.cells #[.int .i8 1, .int .i64 0] 41)).alloc (.cells #[.int .i8 0, .int .i64 1, .int .i8 0, .int .i64 5, .int .i8 0, .int .i64 9, .int .i8 1, .int .i64 0] 45)).alloc (.cells #[.int .i64 4, .int .i64 10] 2) ∧ (Dn w20 W1) ∧ (W1.cell? ⟨w20.heap.size, 0, none⟩ = some (.int .i8 (-1))) ∧ (W1.cell? ⟨w20.heap.size, 1, none⟩ = some (.int .i64 0)) ∧ (w20.heap.size < W1.heap.size) ∧ (W1.cell? ⟨w20.heap.size + 1, 0, none⟩ = some (.int .i8 1)) ∧ (W1.cell? ⟨w20.heap.size + 1, 1, none⟩ = some (.int .i64 0)) ∧ (w20.heap.size + 1 < W1.heap.size) := by
  obtain ⟨W1, hW1⟩ : ∃ W1, W1 = (((w20.alloc (.cells #[.int .i8 (-1), .int .i64 0] 41)).alloc (.cells #[.int .i8 1, .int .i64 0] 41)).alloc (.cells #[.int .i8 0, .int .i64 1, .int .i8 0, .int .i64 5, .int .i8 0, .int .i64 9, .int .i8 1, .int .i64 0] 45)).alloc (.cells #[.int .i64 4, .int .i64 10] 2) := ⟨_, rfl⟩
  exact ⟨W1, hW1, (by rw [hW1]; exact ((((Dn.refl _).alloc _).alloc _).alloc _).alloc _), (by rw [hW1]; simp [go_sem]), (by rw [hW1]; simp [go_sem]), (by rw [hW1]; simp <;> omega), (by rw [hW1]; simp [go_sem]), (by rw [hW1]; simp [go_sem]), (by rw [hW1]; simp <;> omega)⟩
theorem lives10_walk (strK : Nat → ByteArray) (errK : Nat → Int) (wantL : List Int) (wantF : Nat → Int) (A1 A2 A3 A4 A5 R1 R2 R3 C1 C2 C3 D1 D2 D3 E1 E2 E3 D4 lC lD lE : List Rq) (SA1 : Hid (∀ g W, Ns W g [5, 9, 1, 2, 3, 3, 8, 12] → Calls Tryz.prog 38 #[.slice (some ⟨g, 0, none⟩) 8 8] W fun ro w' => ∃ p' cap', ro = .returned (.slice p' A1.length cap') ∧ Rl w' p' cap' A1 ∧ Dn W w')) (SA2 : Hid (∀ g W, Ns W g [1, 2, 5, 6] → Calls Tryz.prog 38 #[.slice (some ⟨g, 0, none⟩) 4 4] W fun ro w' => ∃ p' cap', ro = .returned (.slice p' A2.length cap') ∧ Rl w' p' cap' A2 ∧ Dn W w')) (SA3 : Hid (∀ g W, Ns W g [3, 3] → Calls Tryz.prog 38 #[.slice (some ⟨g, 0, none⟩) 2 2] W fun ro w' => ∃ p' cap', ro = .returned (.slice p' A3.length cap') ∧ Rl w' p' cap' A3 ∧ Dn W w')) (SA4 : Hid (∀ g W, Ns W g [1, 9] → Calls Tryz.prog 38 #[.slice (some ⟨g, 0, none⟩) 2 2] W fun ro w' => ∃ p' cap', ro = .returned (.slice p' A4.length cap') ∧ Rl w' p' cap' A4 ∧ Dn W w')) (SA5 : Hid (∀ g W, Ns W g [3, 4, 6, 6] → Calls Tryz.prog 38 #[.slice (some ⟨g, 0, none⟩) 4 4] W fun ro w' => ∃ p' cap', ro = .returned (.slice p' A5.length cap') ∧ Rl w' p' cap' A5 ∧ Dn W w')) (SR1 : Hid (∀ g W, Ns W g [1, 3, 5, 12] → Calls Tryz.prog 38 #[.slice (some ⟨g, 0, none⟩) 4 4] W fun ro w' => ∃ p' cap', ro = .returned (.slice p' R1.length cap') ∧ Rl w' p' cap' R1 ∧ Dn W w')) (SR2 : Hid (∀ g W, Ns W g [1, 3, 5, 6] → Calls Tryz.prog 38 #[.slice (some ⟨g, 0, none⟩) 4 4] W fun ro w' => ∃ p' cap', ro = .returned (.slice p' R2.length cap') ∧ Rl w' p' cap' R2 ∧ Dn W w')) (SR3 : Hid (∀ g W, Ns W g [1, 2, 5, 5, 7, 9] → Calls Tryz.prog 38 #[.slice (some ⟨g, 0, none⟩) 6 6] W fun ro w' => ∃ p' cap', ro = .returned (.slice p' R3.length cap') ∧ Rl w' p' cap' R3 ∧ Dn W w')) (SC1 : Hid (∀ g W, Ns W g [1, 2, 3, 4] → Calls Tryz.prog 38 #[.slice (some ⟨g, 0, none⟩) 4 4] W fun ro w' => ∃ p' cap', ro = .returned (.slice p' C1.length cap') ∧ Rl w' p' cap' C1 ∧ Dn W w')) (SC2 : Hid (∀ g W, Ns W g [5, 6, 1, 2] → Calls Tryz.prog 38 #[.slice (some ⟨g, 0, none⟩) 4 4] W fun ro w' => ∃ p' cap', ro = .returned (.slice p' C2.length cap') ∧ Rl w' p' cap' C2 ∧ Dn W w')) (SC3 : Hid (∀ g W, Ns W g [1, 2, 4, 4] → Calls Tryz.prog 38 #[.slice (some ⟨g, 0, none⟩) 4 4] W fun ro w' => ∃ p' cap', ro = .returned (.slice p' C3.length cap') ∧ Rl w' p' cap' C3 ∧ Dn W w')) (SD1 : Hid (∀ g W, Ns W g [4, 10] → Calls Tryz.prog 38 #[.slice (some ⟨g, 0, none⟩) 2 2] W fun ro w' => ∃ p' cap', ro = .returned (.slice p' D1.length cap') ∧ Rl w' p' cap' D1 ∧ Dn W w')) (SD2 : Hid (∀ g W, Ns W g [0, 9223372036854775807] → Calls Tryz.prog 38 #[.slice (some ⟨g, 0, none⟩) 2 2] W fun ro w' => ∃ p' cap', ro = .returned (.slice p' D2.length cap') ∧ Rl w' p' cap' D2 ∧ Dn W w')) (SD3 : Hid (∀ g W, Ns W g [4, 5, 9, 10] → Calls Tryz.prog 38 #[.slice (some ⟨g, 0, none⟩) 4 4] W fun ro w' => ∃ p' cap', ro = .returned (.slice p' D3.length cap') ∧ Rl w' p' cap' D3 ∧ Dn W w')) (SE1 : Hid (∀ g W, Ns W g [2, 3] → Calls Tryz.prog 38 #[.slice (some ⟨g, 0, none⟩) 2 2] W fun ro w' => ∃ p' cap', ro = .returned (.slice p' E1.length cap') ∧ Rl w' p' cap' E1 ∧ Dn W w')) (SE2 : Hid (∀ g W, Ns W g [1, 5, 9, 9] → Calls Tryz.prog 38 #[.slice (some ⟨g, 0, none⟩) 4 4] W fun ro w' => ∃ p' cap', ro = .returned (.slice p' E2.length cap') ∧ Rl w' p' cap' E2 ∧ Dn W w')) (SE3 : Hid (∀ g W, Ns W g [1, 3, 7, 7] → Calls Tryz.prog 38 #[.slice (some ⟨g, 0, none⟩) 4 4] W fun ro w' => ∃ p' cap', ro = .returned (.slice p' E3.length cap') ∧ Rl w' p' cap' E3 ∧ Dn W w')) (SD4 : Hid (∀ g W, Ns W g [1, 3, 5, 5] → Calls Tryz.prog 38 #[.slice (some ⟨g, 0, none⟩) 4 4] W fun ro w' => ∃ p' cap', ro = .returned (.slice p' D4.length cap') ∧ Rl w' p' cap' D4 ∧ Dn W w')) (HOf : Hid (∀ W p cap, Rl W p cap A1 → Calls Tryz.prog 10 #[.slice p A1.length cap] W fun ro w' => ∃ p', ro = .returned (.tuple #[.slice p' R1.length R1.length, .int .i64 0]) ∧ Row w' p' R1 ∧ Dn W w')) (HUn : Hid (∀ W p cap q cap2, Rl W p cap A2 → Rl W q cap2 A3 → Calls Tryz.prog 24 #[.slice p A2.length cap, .slice q A3.length cap2] W fun ro w' => ∃ p', ro = .returned (.tuple #[.slice p' R2.length R2.length, .int .i64 0]) ∧ Row w' p' R2 ∧ Dn W w')) (HWo : Hid (∀ W p cap q cap2, Rl W p cap A4 → Rl W q cap2 A5 → Calls Tryz.prog 26 #[.slice p A4.length cap, .slice q A5.length cap2] W fun ro w' => ∃ p', ro = .returned (.tuple #[.slice p' R3.length R3.length, .int .i64 0]) ∧ Row w' p' R3 ∧ Dn W w')) (KC1 : Hid (∀ W p cap, Rl W p cap C1 → Calls Tryz.prog 14 #[.slice p C1.length cap] W fun ro w' => ro = .returned (.int .i64 12) ∧ Dn W w')) (KC2 : Hid (∀ W p cap, Rl W p cap C2 → Calls Tryz.prog 14 #[.slice p C2.length cap] W fun ro w' => ro = .returned (.int .i64 12) ∧ Dn W w')) (KC3 : Hid (∀ W p cap, Rl W p cap C3 → Calls Tryz.prog 14 #[.slice p C3.length cap] W fun ro w' => ro = .returned (.int .i64 0) ∧ Dn W w')) (HCo : Hid (∀ W p q cap2, Row W p ([⟨0, 1, 0, 5⟩, ⟨0, 9, 1, 0⟩] : List Rq) → Rl W q cap2 D1 → Calls Tryz.prog 25 #[.slice p 2 2, .slice q D1.length cap2] W fun ro w' => ∃ p', ro = .returned (.tuple #[.slice p' D3.length D3.length, .int .i64 0]) ∧ Row w' p' D3 ∧ Dn W w')) (HCb : Hid (∀ W p, Row W p ([⟨(-1), 0, 0, 0⟩, ⟨0, 5, 0, 6⟩] : List Rq) → Calls Tryz.prog 17 #[.slice p 2 2] W fun ro w' => ∃ p', ro = .returned (.tuple #[.slice p' lC.length lC.length, .int .i64 0]) ∧ Row w' p' lC ∧ Dn W w')) (HCc : Hid (∀ W, Calls Tryz.prog 17 #[.slice none 0 0] W fun ro w' => ∃ p', ro = .returned (.tuple #[.slice p' lD.length lD.length, .int .i64 0]) ∧ Row w' p' lD ∧ Dn W w')) (HCd : Hid (∀ W p cap, Rl W p cap D2 → Calls Tryz.prog 17 #[.slice p D2.length cap] W fun ro w' => ∃ p', ro = .returned (.tuple #[.slice p' lE.length lE.length, .int .i64 0]) ∧ Row w' p' lE ∧ Dn W w')) (HWi : Hid (∀ W p cap q cap2, Rl W p cap E1 → Rl W q cap2 E2 → Calls Tryz.prog 27 #[.slice p E1.length cap, .slice q E2.length cap2] W fun ro w' => ro = .returned (.tuple #[.bool true, .int .i64 0]) ∧ Dn W w')) (HCt : Hid (∀ W p cap, Rl W p cap E3 → Calls Tryz.prog 19 #[.slice p E3.length cap] W fun ro w' => ro = .returned (.tuple #[.int .i64 4, .int .i64 0]) ∧ Dn W w')) (HMi : Hid (∀ W, Calls Tryz.prog 21 #[.slice none 0 0] W fun ro w' => ro = .returned (.tuple #[.agg #[.int .i8 0, .int .i64 0], .int .i64 17]) ∧ Dn W w')) (HMx : Hid (∀ W p, Row W p ([⟨0, 1, 1, 0⟩] : List Rq) → Calls Tryz.prog 22 #[.slice p 1 1] W fun ro w' => ro = .returned (.tuple #[.agg #[.int .i8 1, .int .i64 0], .int .i64 0]) ∧ Dn W w')) (NR1 : Hid (R1.length ≤ 100000)) (NR2 : Hid (R2.length ≤ 100000)) (NR3 : Hid (R3.length ≤ 100000)) (ND3 : Hid (D3.length ≤ 100000)) (NlC : Hid (lC.length ≤ 100000)) (NlD : Hid (lD.length ≤ 100000)) (NlE : Hid (lE.length ≤ 100000)) (ND4 : Hid (D4.length ≤ 100000)) (GlC : Hid (∀ W p q, Row W p lC → Row W q ([⟨0, 1, 0, 4⟩, ⟨0, 7, 1, 0⟩] : List Rq) → Calls Tryz.prog 13 #[.slice p lC.length lC.length, .int .i64 0, .slice q 2 2, .int .i64 0] W fun ro w' => ro = .returned (.bool true) ∧ Dn W w')) (GlD : Hid (∀ W p q, Row W p lD → Row W q ([⟨(-1), 0, 1, 0⟩] : List Rq) → Calls Tryz.prog 13 #[.slice p lD.length lD.length, .int .i64 0, .slice q 1 1, .int .i64 0] W fun ro w' => ro = .returned (.bool true) ∧ Dn W w')) (GlE : Hid (∀ W p q, Row W p lE → Row W q ([⟨(-1), 0, 0, (-1)⟩] : List Rq) → Calls Tryz.prog 13 #[.slice p lE.length lE.length, .int .i64 0, .slice q 1 1, .int .i64 0] W fun ro w' => ro = .returned (.bool true) ∧ Dn W w')) (HS4 : Hid (∀ k, k < 4 → (#[.string ⟨#[49, 46, 46, 51, 44, 53, 46, 46, 53]⟩, .string ⟨#[]⟩, .string ⟨#[49, 46, 46, 51, 44]⟩, .string ⟨#[49, 46, 46, 51, 44, 52, 46, 46, 52]⟩] : Array Value)[k]? = some (.string (strK k)))) (HW4 : Hid ((#[.int .i64 0, .int .i64 5, .int .i64 5, .int .i64 12] : Array Value) = (wantL.map (Value.int .i64 ·)).toArray)) (HWk : Hid (∀ k, k < 4 → wantL[k]? = some (wantF k))) (HGv : Hid (∀ k, k < 4 → ∀ W p n q c, Row0 W k p n D4 → Row W q D4 → Calls Tryz.prog 13 #[.slice p n n, .int .i64 (errK k), .slice q D4.length c, .int .i64 (wantF k)] W fun ro w' => ro = .returned (.bool true) ∧ Dn W w')) (HPa : Hid (∀ k, k < 4 → ∀ W, EnvR W → Calls Tryz.prog 34 #[.string (strK k)] W fun ro w' => ∃ p' n', ro = .returned (.tuple #[.slice p' n' n', .int .i64 (errK k)]) ∧ Row0 w' k p' n' D4 ∧ Dn W w')) (w : World) (hE : EnvR w) :
  Calls Tryz.prog 9 #[] w fun ro w' => ro = .returned (.bool true) ∧ Dn w w' := by
 go_enter Tryz.func9, Tryz.ntmps9
 go_wp2_with fail
 obtain ⟨W1, hW1⟩ : ∃ W1, W1 = w.alloc (.cells #[.int .i64 5, .int .i64 9, .int .i64 1, .int .i64 2, .int .i64 3, .int .i64 3, .int .i64 8, .int .i64 12] 2) := ⟨_, rfl⟩
 have uW1 : Dn w W1 := by rw [hW1]; exact (Dn.refl _).alloc _
 have nA1 : Ns W1 w.heap.size [5, 9, 1, 2, 3, 3, 8, 12] := by rw [hW1]; exact ns_new _ _ _ rfl
 rw [← hW1]
 clear hW1
 go_wp2_with fail
 refine (SA1.out _ _ nA1).mono ?_
 rintro e w1 ⟨pA1, cA1, rfl, rA1, qw1⟩
 replace nA1 := nA1.dn qw1
 have uw1 := uW1.trans qw1
 clear qw1 uW1
 clear nA1
 go_wp2_with fail
 refine (HOf.out _ _ _ rA1).mono ?_
 rintro e w2 ⟨pa, rfl, ra, qw2⟩
 replace rA1 := rA1.dn qw2
 have uw2 := uw1.trans qw2
 clear qw2 uw1
 clear rA1
 go_wp2_with fail
 obtain ⟨W2, hW2⟩ : ∃ W2, W2 = w2.alloc (.cells #[.int .i64 1, .int .i64 2, .int .i64 5, .int .i64 6] 2) := ⟨_, rfl⟩
 have uW2 : Dn w2 W2 := by rw [hW2]; exact (Dn.refl _).alloc _
 replace ra := ra.dn uW2
 have nA2 : Ns W2 w2.heap.size [1, 2, 5, 6] := by rw [hW2]; exact ns_new _ _ _ rfl
 rw [← hW2]
 clear hW2
 have vW2 := uw2.trans uW2
 clear uW2 uw2
 go_wp2_with fail
 refine (SA2.out _ _ nA2).mono ?_
 rintro e w3 ⟨pA2, cA2, rfl, rA2, qw3⟩
 replace ra := ra.dn qw3
 replace nA2 := nA2.dn qw3
 have uw3 := vW2.trans qw3
 clear qw3 vW2
 clear nA2
 go_wp2_with fail
 obtain ⟨W3, hW3⟩ : ∃ W3, W3 = w3.alloc (.cells #[.int .i64 3, .int .i64 3] 2) := ⟨_, rfl⟩
 have uW3 : Dn w3 W3 := by rw [hW3]; exact (Dn.refl _).alloc _
 replace ra := ra.dn uW3
 replace rA2 := rA2.dn uW3
 have nA3 : Ns W3 w3.heap.size [3, 3] := by rw [hW3]; exact ns_new _ _ _ rfl
 rw [← hW3]
 clear hW3
 have vW3 := uw3.trans uW3
 clear uW3 uw3
 go_wp2_with fail
 refine (SA3.out _ _ nA3).mono ?_
 rintro e w4 ⟨pA3, cA3, rfl, rA3, qw4⟩
 replace ra := ra.dn qw4
 replace rA2 := rA2.dn qw4
 replace nA3 := nA3.dn qw4
 have uw4 := vW3.trans qw4
 clear qw4 vW3
 clear nA3
 go_wp2_with fail
 refine (HUn.out _ _ _ _ _ rA2 rA3).mono ?_
 rintro e w5 ⟨pb, rfl, rb, qw5⟩
 replace ra := ra.dn qw5
 replace rA2 := rA2.dn qw5
 replace rA3 := rA3.dn qw5
 have uw5 := uw4.trans qw5
 clear qw5 uw4
 clear rA2 rA3
 go_wp2_with fail
 obtain ⟨W4, hW4⟩ : ∃ W4, W4 = w5.alloc (.cells #[.int .i64 1, .int .i64 9] 2) := ⟨_, rfl⟩
 have uW4 : Dn w5 W4 := by rw [hW4]; exact (Dn.refl _).alloc _
 replace ra := ra.dn uW4
 replace rb := rb.dn uW4
 have nA4 : Ns W4 w5.heap.size [1, 9] := by rw [hW4]; exact ns_new _ _ _ rfl
 rw [← hW4]
 clear hW4
 have vW4 := uw5.trans uW4
 clear uW4 uw5
 go_wp2_with fail
 refine (SA4.out _ _ nA4).mono ?_
 rintro e w6 ⟨pA4, cA4, rfl, rA4, qw6⟩
 replace ra := ra.dn qw6
 replace rb := rb.dn qw6
 replace nA4 := nA4.dn qw6
 have uw6 := vW4.trans qw6
 clear qw6 vW4
 clear nA4
 go_wp2_with fail
 obtain ⟨W5, hW5⟩ : ∃ W5, W5 = w6.alloc (.cells #[.int .i64 3, .int .i64 4, .int .i64 6, .int .i64 6] 2) := ⟨_, rfl⟩
 have uW5 : Dn w6 W5 := by rw [hW5]; exact (Dn.refl _).alloc _
 replace ra := ra.dn uW5
 replace rb := rb.dn uW5
 replace rA4 := rA4.dn uW5
 have nA5 : Ns W5 w6.heap.size [3, 4, 6, 6] := by rw [hW5]; exact ns_new _ _ _ rfl
 rw [← hW5]
 clear hW5
 have vW5 := uw6.trans uW5
 clear uW5 uw6
 go_wp2_with fail
 refine (SA5.out _ _ nA5).mono ?_
 rintro e w7 ⟨pA5, cA5, rfl, rA5, qw7⟩
 replace ra := ra.dn qw7
 replace rb := rb.dn qw7
 replace rA4 := rA4.dn qw7
 replace nA5 := nA5.dn qw7
 have uw7 := vW5.trans qw7
 clear qw7 vW5
 clear nA5
 go_wp2_with fail
 refine (HWo.out _ _ _ _ _ rA4 rA5).mono ?_
 rintro e w8 ⟨pc, rfl, rc, qw8⟩
 replace ra := ra.dn qw8
 replace rb := rb.dn qw8
 replace rA4 := rA4.dn qw8
 replace rA5 := rA5.dn qw8
 have uw8 := uw7.trans qw8
 clear qw8 uw7
 clear rA4 rA5
 go_wp2_with fail
 obtain ⟨W6, hW6⟩ : ∃ W6, W6 = w8.alloc (.cells #[.int .i64 1, .int .i64 3, .int .i64 5, .int .i64 12] 2) := ⟨_, rfl⟩
 have uW6 : Dn w8 W6 := by rw [hW6]; exact (Dn.refl _).alloc _
 replace ra := ra.dn uW6
 replace rb := rb.dn uW6
 replace rc := rc.dn uW6
 have nR1 : Ns W6 w8.heap.size [1, 3, 5, 12] := by rw [hW6]; exact ns_new _ _ _ rfl
 rw [← hW6]
 clear hW6
 have vW6 := uw8.trans uW6
 clear uW6 uw8
 go_wp2_with fail
 refine (SR1.out _ _ nR1).mono ?_
 rintro e w9 ⟨pR1, cR1, rfl, rR1, qw9⟩
 replace ra := ra.dn qw9
 replace rb := rb.dn qw9
 replace rc := rc.dn qw9
 replace nR1 := nR1.dn qw9
 have uw9 := vW6.trans qw9
 clear qw9 vW6
 clear nR1
 go_wp2_with fail
 refine (gv10 _ _ R1 0 _ _ R1 0 _ (Or.inl ⟨rfl, rfl, rfl, rfl⟩) NR1.out ra (fun _ => rR1.row)).mono ?_
 rintro e w10 ⟨rfl, qw10⟩
 replace ra := ra.dn qw10
 replace rb := rb.dn qw10
 replace rc := rc.dn qw10
 replace rR1 := rR1.dn qw10
 have uw10 := uw9.trans qw10
 clear qw10 uw9
 clear ra rR1
 go_wp2_with fail
 obtain ⟨W7, hW7⟩ : ∃ W7, W7 = w10.alloc (.cells #[.int .i64 1, .int .i64 3, .int .i64 5, .int .i64 6] 2) := ⟨_, rfl⟩
 have uW7 : Dn w10 W7 := by rw [hW7]; exact (Dn.refl _).alloc _
 replace rb := rb.dn uW7
 replace rc := rc.dn uW7
 have nR2 : Ns W7 w10.heap.size [1, 3, 5, 6] := by rw [hW7]; exact ns_new _ _ _ rfl
 rw [← hW7]
 clear hW7
 have vW7 := uw10.trans uW7
 clear uW7 uw10
 go_wp2_with fail
 refine (SR2.out _ _ nR2).mono ?_
 rintro e w11 ⟨pR2, cR2, rfl, rR2, qw11⟩
 replace rb := rb.dn qw11
 replace rc := rc.dn qw11
 replace nR2 := nR2.dn qw11
 have uw11 := vW7.trans qw11
 clear qw11 vW7
 clear nR2
 go_wp2_with fail
 refine (gv10 _ _ R2 0 _ _ R2 0 _ (Or.inl ⟨rfl, rfl, rfl, rfl⟩) NR2.out rb (fun _ => rR2.row)).mono ?_
 rintro e w12 ⟨rfl, qw12⟩
 replace rb := rb.dn qw12
 replace rc := rc.dn qw12
 replace rR2 := rR2.dn qw12
 have uw12 := uw11.trans qw12
 clear qw12 uw11
 clear rb rR2
 go_wp2_with fail
 obtain ⟨W8, hW8⟩ : ∃ W8, W8 = w12.alloc (.cells #[.int .i64 1, .int .i64 2, .int .i64 5, .int .i64 5, .int .i64 7, .int .i64 9] 2) := ⟨_, rfl⟩
 have uW8 : Dn w12 W8 := by rw [hW8]; exact (Dn.refl _).alloc _
 replace rc := rc.dn uW8
 have nR3 : Ns W8 w12.heap.size [1, 2, 5, 5, 7, 9] := by rw [hW8]; exact ns_new _ _ _ rfl
 rw [← hW8]
 clear hW8
 have vW8 := uw12.trans uW8
 clear uW8 uw12
 go_wp2_with fail
 refine (SR3.out _ _ nR3).mono ?_
 rintro e w13 ⟨pR3, cR3, rfl, rR3, qw13⟩
 replace rc := rc.dn qw13
 replace nR3 := nR3.dn qw13
 have uw13 := vW8.trans qw13
 clear qw13 vW8
 clear nR3
 go_wp2_with fail
 refine (gv10 _ _ R3 0 _ _ R3 0 _ (Or.inl ⟨rfl, rfl, rfl, rfl⟩) NR3.out rc (fun _ => rR3.row)).mono ?_
 rintro e w14 ⟨rfl, qw14⟩
 replace rc := rc.dn qw14
 replace rR3 := rR3.dn qw14
 have uw14 := uw13.trans qw14
 clear qw14 uw13
 clear rc rR3
 go_wp2_with fail
 obtain ⟨W9, hW9⟩ : ∃ W9, W9 = w14.alloc (.cells #[.int .i64 1, .int .i64 2, .int .i64 3, .int .i64 4] 2) := ⟨_, rfl⟩
 have uW9 : Dn w14 W9 := by rw [hW9]; exact (Dn.refl _).alloc _
 have nC1 : Ns W9 w14.heap.size [1, 2, 3, 4] := by rw [hW9]; exact ns_new _ _ _ rfl
 rw [← hW9]
 clear hW9
 have vW9 := uw14.trans uW9
 clear uW9 uw14
 go_wp2_with fail
 refine (SC1.out _ _ nC1).mono ?_
 rintro e w15 ⟨pC1, cC1, rfl, rC1, qw15⟩
 replace nC1 := nC1.dn qw15
 have uw15 := vW9.trans qw15
 clear qw15 vW9
 clear nC1
 go_wp2_with fail
 refine (KC1.out _ _ _ rC1).mono ?_
 rintro e w16 ⟨rfl, qw16⟩
 replace rC1 := rC1.dn qw16
 have uw16 := uw15.trans qw16
 clear qw16 uw15
 clear rC1
 go_wp2_with fail
 obtain ⟨W10, hW10⟩ : ∃ W10, W10 = w16.alloc (.cells #[.int .i64 5, .int .i64 6, .int .i64 1, .int .i64 2] 2) := ⟨_, rfl⟩
 have uW10 : Dn w16 W10 := by rw [hW10]; exact (Dn.refl _).alloc _
 have nC2 : Ns W10 w16.heap.size [5, 6, 1, 2] := by rw [hW10]; exact ns_new _ _ _ rfl
 rw [← hW10]
 clear hW10
 have vW10 := uw16.trans uW10
 clear uW10 uw16
 go_wp2_with fail
 refine (SC2.out _ _ nC2).mono ?_
 rintro e w17 ⟨pC2, cC2, rfl, rC2, qw17⟩
 replace nC2 := nC2.dn qw17
 have uw17 := vW10.trans qw17
 clear qw17 vW10
 clear nC2
 go_wp2_with fail
 refine (KC2.out _ _ _ rC2).mono ?_
 rintro e w18 ⟨rfl, qw18⟩
 replace rC2 := rC2.dn qw18
 have uw18 := uw17.trans qw18
 clear qw18 uw17
 clear rC2
 go_wp2_with fail
 obtain ⟨W11, hW11⟩ : ∃ W11, W11 = w18.alloc (.cells #[.int .i64 1, .int .i64 2, .int .i64 4, .int .i64 4] 2) := ⟨_, rfl⟩
 have uW11 : Dn w18 W11 := by rw [hW11]; exact (Dn.refl _).alloc _
 have nC3 : Ns W11 w18.heap.size [1, 2, 4, 4] := by rw [hW11]; exact ns_new _ _ _ rfl
 rw [← hW11]
 clear hW11
 have vW11 := uw18.trans uW11
 clear uW11 uw18
 go_wp2_with fail
 refine (SC3.out _ _ nC3).mono ?_
 rintro e w19 ⟨pC3, cC3, rfl, rC3, qw19⟩
 replace nC3 := nC3.dn qw19
 have uw19 := vW11.trans qw19
 clear qw19 vW11
 clear nC3
 go_wp2_with fail
 refine (KC3.out _ _ _ rC3).mono ?_
 rintro e w20 ⟨rfl, qw20⟩
 replace rC3 := rC3.dn qw20
 have uw20 := uw19.trans qw20
 clear qw20 uw19
 clear rC3
 go_wp2_with fail
 obtain ⟨W12, hW12, uW12, a0, a1, a2, a3, a4, a5⟩ := preOf65x1 w20 
 have rlA : Row W12 (some ⟨w20.heap.size + 1 + 1, 0, none⟩) ([⟨0, 1, 0, 5⟩, ⟨0, 9, 1, 0⟩] : List Rq) := by
  rw [hW12]
  have h := (rq_new (((w20.alloc (.cells #[.int .i8 (-1), .int .i64 0] 41)).alloc (.cells #[.int .i8 1, .int .i64 0] 41))) ([⟨0, 1, 0, 5⟩, ⟨0, 9, 1, 0⟩] : List Rq) #[.int .i8 0, .int .i64 1, .int .i8 0, .int .i64 5, .int .i8 0, .int .i64 9, .int .i8 1, .int .i64 0] rfl).dn ((Dn.refl _).alloc (.cells #[.int .i64 4, .int .i64 10] 2))
  simpa using h
 have nD1 : Ns W12 (w20.heap.size + 1 + 1 + 1) [4, 10] := by
  rw [hW12]
  have h := (ns_new ((((w20.alloc (.cells #[.int .i8 (-1), .int .i64 0] 41)).alloc (.cells #[.int .i8 1, .int .i64 0] 41)).alloc (.cells #[.int .i8 0, .int .i64 1, .int .i8 0, .int .i64 5, .int .i8 0, .int .i64 9, .int .i8 1, .int .i64 0] 45))) [4, 10] #[.int .i64 4, .int .i64 10] rfl).dn (Dn.refl _)
  simpa using h
 rw [← hW12]
 clear hW12
 have vW12 := uw20.trans uW12
 clear uW12 uw20
 go_wp2_with fail
 refine (SD1.out _ _ nD1).mono ?_
 rintro e w21 ⟨pD1, cD1, rfl, rD1, qw21⟩
 replace rlA := rlA.dn qw21
 replace nD1 := nD1.dn qw21
 have a6 := nlt a2 qw21.size
 have a9 := nlt a5 qw21.size
 obtain ⟨a7, a8, aA, aB⟩ := mv4 qw21.cell a0 a1 a3 a4
 clear a2 a0 a1 a5 a3 a4
 have uw21 := vW12.trans qw21
 clear qw21 vW12
 clear nD1
 go_wp2_with fail
 refine (HCo.out _ _ _ _ rlA rD1).mono ?_
 rintro e w22 ⟨pa, rfl, ra, qw22⟩
 replace rlA := rlA.dn qw22
 replace rD1 := rD1.dn qw22
 have aC := nlt a6 qw22.size
 have aF := nlt a9 qw22.size
 obtain ⟨aD, aE, aG, aH⟩ := mv4 qw22.cell a7 a8 aA aB
 clear a6 a7 a8 a9 aA aB
 have uw22 := uw21.trans qw22
 clear qw22 uw21
 clear rlA rD1
 go_wp2_with fail
 obtain ⟨W31, hW31⟩ : ∃ W31, W31 = w22.alloc (.cells #[.int .i8 (-1), .int .i64 0, .int .i8 0, .int .i64 0, .int .i8 0, .int .i64 5, .int .i8 0, .int .i64 6] 45) := ⟨_, rfl⟩
 have uW31 : Dn w22 W31 := by rw [hW31]; exact (Dn.refl _).alloc _
 replace ra := ra.dn uW31
 have aI := nlt aC uW31.size
 have aL := nlt aF uW31.size
 obtain ⟨aJ, aK, aM, aN⟩ := mv4 uW31.cell aD aE aG aH
 clear aC aD aE aF aG aH
 have rlB : Row W31 (some ⟨w22.heap.size, 0, none⟩) ([⟨(-1), 0, 0, 0⟩, ⟨0, 5, 0, 6⟩] : List Rq) := by
  rw [hW31]
  have h := (rq_new (w22) ([⟨(-1), 0, 0, 0⟩, ⟨0, 5, 0, 6⟩] : List Rq) #[.int .i8 (-1), .int .i64 0, .int .i8 0, .int .i64 0, .int .i8 0, .int .i64 5, .int .i8 0, .int .i64 6] rfl).dn (Dn.refl _)
  simpa using h
 rw [← hW31]
 clear hW31
 have vW31 := uw22.trans uW31
 clear uW31 uw22
 go_wp2_with fail
 refine (HCb.out _ _ rlB).mono ?_
 rintro e w23 ⟨pb, rfl, rb, qw23⟩
 replace ra := ra.dn qw23
 replace rlB := rlB.dn qw23
 have aO := nlt aI qw23.size
 have aR := nlt aL qw23.size
 obtain ⟨aP, aQ, aS, aT⟩ := mv4 qw23.cell aJ aK aM aN
 clear aI aJ aK aL aM aN
 have uw23 := vW31.trans qw23
 clear qw23 vW31
 clear rlB
 go_wp2_with fail
 refine (HCc.out _).mono ?_
 rintro e w24 ⟨pc, rfl, rc, qw24⟩
 replace ra := ra.dn qw24
 replace rb := rb.dn qw24
 have aU := nlt aO qw24.size
 have aX := nlt aR qw24.size
 obtain ⟨aV, aW, aY, aZ⟩ := mv4 qw24.cell aP aQ aS aT
 clear aO aP aQ aR aS aT
 have uw24 := uw23.trans qw24
 clear qw24 uw23
 go_wp2_with fail
 obtain ⟨W50, hW50⟩ : ∃ W50, W50 = w24.alloc (.cells #[.int .i64 0, .int .i64 9223372036854775807] 2) := ⟨_, rfl⟩
 have uW50 : Dn w24 W50 := by rw [hW50]; exact (Dn.refl _).alloc _
 replace ra := ra.dn uW50
 replace rb := rb.dn uW50
 replace rc := rc.dn uW50
 have bA := nlt aU uW50.size
 have bD := nlt aX uW50.size
 obtain ⟨bB, bC, bE, bF⟩ := mv4 uW50.cell aV aW aY aZ
 clear aU aV aW aX aY aZ
 have nD2 : Ns W50 w24.heap.size [0, 9223372036854775807] := by rw [hW50]; exact ns_new _ _ _ rfl
 rw [← hW50]
 clear hW50
 have vW50 := uw24.trans uW50
 clear uW50 uw24
 go_wp2_with fail
 refine (SD2.out _ _ nD2).mono ?_
 rintro e w25 ⟨pD2, cD2, rfl, rD2, qw25⟩
 replace ra := ra.dn qw25
 replace rb := rb.dn qw25
 replace rc := rc.dn qw25
 replace nD2 := nD2.dn qw25
 have bG := nlt bA qw25.size
 have bJ := nlt bD qw25.size
 obtain ⟨bH, bI, bK, bL⟩ := mv4 qw25.cell bB bC bE bF
 clear bA bB bC bD bE bF
 have uw25 := vW50.trans qw25
 clear qw25 vW50
 clear nD2
 go_wp2_with fail
 refine (HCd.out _ _ _ rD2).mono ?_
 rintro e w26 ⟨pd, rfl, rd, qw26⟩
 replace ra := ra.dn qw26
 replace rb := rb.dn qw26
 replace rc := rc.dn qw26
 replace rD2 := rD2.dn qw26
 have bM := nlt bG qw26.size
 have bP := nlt bJ qw26.size
 obtain ⟨bN, bO, bQ, bR⟩ := mv4 qw26.cell bH bI bK bL
 clear bG bH bI bJ bK bL
 have uw26 := uw25.trans qw26
 clear qw26 uw25
 clear rD2
 go_wp2_with fail
 obtain ⟨W69, hW69⟩ : ∃ W69, W69 = w26.alloc (.cells #[.int .i64 4, .int .i64 5, .int .i64 9, .int .i64 10] 2) := ⟨_, rfl⟩
 have uW69 : Dn w26 W69 := by rw [hW69]; exact (Dn.refl _).alloc _
 replace ra := ra.dn uW69
 replace rb := rb.dn uW69
 replace rc := rc.dn uW69
 replace rd := rd.dn uW69
 have bS := nlt bM uW69.size
 have bV := nlt bP uW69.size
 obtain ⟨bT, bU, bW, bX⟩ := mv4 uW69.cell bN bO bQ bR
 clear bM bN bO bP bQ bR
 have nD3 : Ns W69 w26.heap.size [4, 5, 9, 10] := by rw [hW69]; exact ns_new _ _ _ rfl
 rw [← hW69]
 clear hW69
 have vW69 := uw26.trans uW69
 clear uW69 uw26
 go_wp2_with fail
 refine (SD3.out _ _ nD3).mono ?_
 rintro e w27 ⟨pD3, cD3, rfl, rD3, qw27⟩
 replace ra := ra.dn qw27
 replace rb := rb.dn qw27
 replace rc := rc.dn qw27
 replace rd := rd.dn qw27
 replace nD3 := nD3.dn qw27
 have bY := nlt bS qw27.size
 have c1 := nlt bV qw27.size
 obtain ⟨bZ, c0, c2, c4⟩ := mv4 qw27.cell bT bU bW bX
 clear bS bT bU bV bW bX
 have uw27 := vW69.trans qw27
 clear qw27 vW69
 clear nD3
 go_wp2_with fail
 refine (gv10 _ _ D3 0 _ _ D3 0 _ (Or.inl ⟨rfl, rfl, rfl, rfl⟩) ND3.out ra (fun _ => rD3.row)).mono ?_
 rintro e w28 ⟨rfl, qw28⟩
 replace ra := ra.dn qw28
 replace rb := rb.dn qw28
 replace rc := rc.dn qw28
 replace rd := rd.dn qw28
 replace rD3 := rD3.dn qw28
 have c5 := nlt bY qw28.size
 have c8 := nlt c1 qw28.size
 obtain ⟨c6, c7, c9, cA⟩ := mv4 qw28.cell bZ c0 c2 c4
 clear bY bZ c0 c1 c2 c4
 have uw28 := uw27.trans qw28
 clear qw28 uw27
 clear ra rD3
 go_wp2_with fail
 obtain ⟨W88, hW88⟩ : ∃ W88, W88 = w28.alloc (.cells #[.int .i8 0, .int .i64 1, .int .i8 0, .int .i64 4, .int .i8 0, .int .i64 7, .int .i8 1, .int .i64 0] 45) := ⟨_, rfl⟩
 have uW88 : Dn w28 W88 := by rw [hW88]; exact (Dn.refl _).alloc _
 replace rb := rb.dn uW88
 replace rc := rc.dn uW88
 replace rd := rd.dn uW88
 have cB := nlt c5 uW88.size
 have cF := nlt c8 uW88.size
 obtain ⟨cC, cE, cG, cH⟩ := mv4 uW88.cell c6 c7 c9 cA
 clear c5 c6 c7 c8 c9 cA
 have rlC : Row W88 (some ⟨w28.heap.size, 0, none⟩) ([⟨0, 1, 0, 4⟩, ⟨0, 7, 1, 0⟩] : List Rq) := by
  rw [hW88]
  have h := (rq_new (w28) ([⟨0, 1, 0, 4⟩, ⟨0, 7, 1, 0⟩] : List Rq) #[.int .i8 0, .int .i64 1, .int .i8 0, .int .i64 4, .int .i8 0, .int .i64 7, .int .i8 1, .int .i64 0] rfl).dn (Dn.refl _)
  simpa using h
 rw [← hW88]
 clear hW88
 have vW88 := uw28.trans uW88
 clear uW88 uw28
 go_wp2_with fail
 refine (GlC.out _ _ _ rb rlC).mono ?_
 rintro e w29 ⟨rfl, qw29⟩
 replace rb := rb.dn qw29
 replace rc := rc.dn qw29
 replace rd := rd.dn qw29
 replace rlC := rlC.dn qw29
 have cI := nlt cB qw29.size
 have cL := nlt cF qw29.size
 obtain ⟨cJ, cK, cM, cN⟩ := mv4 qw29.cell cC cE cG cH
 clear cB cC cE cF cG cH
 have uw29 := vW88.trans qw29
 clear qw29 vW88
 clear rb rlC
 go_wp2_with fail
 obtain ⟨W101, hW101⟩ : ∃ W101, W101 = w29.alloc (.cells #[.int .i8 (-1), .int .i64 0, .int .i8 1, .int .i64 0] 45) := ⟨_, rfl⟩
 have uW101 : Dn w29 W101 := by rw [hW101]; exact (Dn.refl _).alloc _
 replace rc := rc.dn uW101
 replace rd := rd.dn uW101
 have cO := nlt cI uW101.size
 have cR := nlt cL uW101.size
 obtain ⟨cP, cQ, cS, cT⟩ := mv4 uW101.cell cJ cK cM cN
 clear cI cJ cK cL cM cN
 have rlD : Row W101 (some ⟨w29.heap.size, 0, none⟩) ([⟨(-1), 0, 1, 0⟩] : List Rq) := by
  rw [hW101]
  have h := (rq_new (w29) ([⟨(-1), 0, 1, 0⟩] : List Rq) #[.int .i8 (-1), .int .i64 0, .int .i8 1, .int .i64 0] rfl).dn (Dn.refl _)
  simpa using h
 rw [← hW101]
 clear hW101
 have vW101 := uw29.trans uW101
 clear uW101 uw29
 go_wp2_with fail
 refine (GlD.out _ _ _ rc rlD).mono ?_
 rintro e w30 ⟨rfl, qw30⟩
 replace rc := rc.dn qw30
 replace rd := rd.dn qw30
 replace rlD := rlD.dn qw30
 have cU := nlt cO qw30.size
 have cX := nlt cR qw30.size
 obtain ⟨cV, cW, cY, cZ⟩ := mv4 qw30.cell cP cQ cS cT
 clear cO cP cQ cR cS cT
 have uw30 := vW101.trans qw30
 clear qw30 vW101
 clear rc rlD
 go_wp2_with fail
 obtain ⟨W114, hW114⟩ : ∃ W114, W114 = w30.alloc (.cells #[.int .i8 (-1), .int .i64 0, .int .i8 0, .int .i64 (-1)] 45) := ⟨_, rfl⟩
 have uW114 : Dn w30 W114 := by rw [hW114]; exact (Dn.refl _).alloc _
 replace rd := rd.dn uW114
 have d0 := nlt cU uW114.size
 have d5 := nlt cX uW114.size
 obtain ⟨d3, d4, d6, d7⟩ := mv4 uW114.cell cV cW cY cZ
 clear cU cV cW cX cY cZ
 have rlE : Row W114 (some ⟨w30.heap.size, 0, none⟩) ([⟨(-1), 0, 0, (-1)⟩] : List Rq) := by
  rw [hW114]
  have h := (rq_new (w30) ([⟨(-1), 0, 0, (-1)⟩] : List Rq) #[.int .i8 (-1), .int .i64 0, .int .i8 0, .int .i64 (-1)] rfl).dn (Dn.refl _)
  simpa using h
 rw [← hW114]
 clear hW114
 have vW114 := uw30.trans uW114
 clear uW114 uw30
 go_wp2_with fail
 refine (GlE.out _ _ _ rd rlE).mono ?_
 rintro e w31 ⟨rfl, qw31⟩
 replace rd := rd.dn qw31
 replace rlE := rlE.dn qw31
 have d8 := nlt d0 qw31.size
 have dB := nlt d5 qw31.size
 obtain ⟨d9, dA, dC, dD⟩ := mv4 qw31.cell d3 d4 d6 d7
 clear d0 d3 d4 d5 d6 d7
 have uw31 := vW114.trans qw31
 clear qw31 vW114
 clear rd rlE
 go_wp2_with fail
 obtain ⟨W127, hW127⟩ : ∃ W127, W127 = w31.alloc (.cells #[.int .i64 2, .int .i64 3] 2) := ⟨_, rfl⟩
 have uW127 : Dn w31 W127 := by rw [hW127]; exact (Dn.refl _).alloc _
 have dE := nlt d8 uW127.size
 have dH := nlt dB uW127.size
 obtain ⟨dF, dG, dI, dJ⟩ := mv4 uW127.cell d9 dA dC dD
 clear d8 d9 dA dB dC dD
 have nE1 : Ns W127 w31.heap.size [2, 3] := by rw [hW127]; exact ns_new _ _ _ rfl
 rw [← hW127]
 clear hW127
 have vW127 := uw31.trans uW127
 clear uW127 uw31
 go_wp2_with fail
 refine (SE1.out _ _ nE1).mono ?_
 rintro e w32 ⟨pE1, cE1, rfl, rE1, qw32⟩
 replace nE1 := nE1.dn qw32
 have dK := nlt dE qw32.size
 have dN := nlt dH qw32.size
 obtain ⟨dL, dM, dO, dP⟩ := mv4 qw32.cell dF dG dI dJ
 clear dE dF dG dH dI dJ
 have uw32 := vW127.trans qw32
 clear qw32 vW127
 clear nE1
 go_wp2_with fail
 obtain ⟨W140, hW140⟩ : ∃ W140, W140 = w32.alloc (.cells #[.int .i64 1, .int .i64 5, .int .i64 9, .int .i64 9] 2) := ⟨_, rfl⟩
 have uW140 : Dn w32 W140 := by rw [hW140]; exact (Dn.refl _).alloc _
 replace rE1 := rE1.dn uW140
 have dQ := nlt dK uW140.size
 have dT := nlt dN uW140.size
 obtain ⟨dR, dS, dU, dV⟩ := mv4 uW140.cell dL dM dO dP
 clear dK dL dM dN dO dP
 have nE2 : Ns W140 w32.heap.size [1, 5, 9, 9] := by rw [hW140]; exact ns_new _ _ _ rfl
 rw [← hW140]
 clear hW140
 have vW140 := uw32.trans uW140
 clear uW140 uw32
 go_wp2_with fail
 refine (SE2.out _ _ nE2).mono ?_
 rintro e w33 ⟨pE2, cE2, rfl, rE2, qw33⟩
 replace rE1 := rE1.dn qw33
 replace nE2 := nE2.dn qw33
 have dW := nlt dQ qw33.size
 have dZ := nlt dT qw33.size
 obtain ⟨dX, dY, e9, eD⟩ := mv4 qw33.cell dR dS dU dV
 clear dQ dR dS dT dU dV
 have uw33 := vW140.trans qw33
 clear qw33 vW140
 clear nE2
 go_wp2_with fail
 refine (HWi.out _ _ _ _ _ rE1 rE2).mono ?_
 rintro e w34 ⟨rfl, qw34⟩
 replace rE1 := rE1.dn qw34
 replace rE2 := rE2.dn qw34
 have eE := nlt dW qw34.size
 have eH := nlt dZ qw34.size
 obtain ⟨eF, eG, eI, eJ⟩ := mv4 qw34.cell dX dY e9 eD
 clear dW dX dY dZ e9 eD
 have uw34 := uw33.trans qw34
 clear qw34 uw33
 clear rE1 rE2
 go_wp2_with fail
 obtain ⟨W159, hW159⟩ : ∃ W159, W159 = w34.alloc (.cells #[.int .i64 1, .int .i64 3, .int .i64 7, .int .i64 7] 2) := ⟨_, rfl⟩
 have uW159 : Dn w34 W159 := by rw [hW159]; exact (Dn.refl _).alloc _
 have eK := nlt eE uW159.size
 have eN := nlt eH uW159.size
 obtain ⟨eL, eM, eO, eP⟩ := mv4 uW159.cell eF eG eI eJ
 clear eE eF eG eH eI eJ
 have nE3 : Ns W159 w34.heap.size [1, 3, 7, 7] := by rw [hW159]; exact ns_new _ _ _ rfl
 rw [← hW159]
 clear hW159
 have vW159 := uw34.trans uW159
 clear uW159 uw34
 go_wp2_with fail
 refine (SE3.out _ _ nE3).mono ?_
 rintro e w35 ⟨pE3, cE3, rfl, rE3, qw35⟩
 replace nE3 := nE3.dn qw35
 have eQ := nlt eK qw35.size
 have eT := nlt eN qw35.size
 obtain ⟨eR, eS, eU, eV⟩ := mv4 qw35.cell eL eM eO eP
 clear eK eL eM eN eO eP
 have uw35 := vW159.trans qw35
 clear qw35 vW159
 clear nE3
 go_wp2_with fail
 refine (HCt.out _ _ _ rE3).mono ?_
 rintro e w36 ⟨rfl, qw36⟩
 replace rE3 := rE3.dn qw36
 have eW := nlt eQ qw36.size
 have eZ := nlt eT qw36.size
 obtain ⟨eX, eY, fA, fB⟩ := mv4 qw36.cell eR eS eU eV
 clear eQ eR eS eT eU eV
 have uw36 := uw35.trans qw36
 clear qw36 uw35
 clear rE3
 go_wp2_with fail
 refine (HMi.out _).mono ?_
 rintro e w37 ⟨rfl, qw37⟩
 have fC := nlt eW qw37.size
 have fF := nlt eZ qw37.size
 obtain ⟨fD, fE, fG, fH⟩ := mv4 qw37.cell eX eY fA fB
 clear eW eX eY eZ fA fB
 have uw37 := uw36.trans qw37
 clear qw37 uw36
 go_wp2_with fail
 obtain ⟨W184, hW184⟩ : ∃ W184, W184 = w37.alloc (.cells #[.int .i8 0, .int .i64 1, .int .i8 1, .int .i64 0] 45) := ⟨_, rfl⟩
 have uW184 : Dn w37 W184 := by rw [hW184]; exact (Dn.refl _).alloc _
 have fI := nlt fC uW184.size
 have fL := nlt fF uW184.size
 obtain ⟨fJ, fK, fM, fN⟩ := mv4 uW184.cell fD fE fG fH
 clear fC fD fE fF fG fH
 have rlF : Row W184 (some ⟨w37.heap.size, 0, none⟩) ([⟨0, 1, 1, 0⟩] : List Rq) := by
  rw [hW184]
  have h := (rq_new (w37) ([⟨0, 1, 1, 0⟩] : List Rq) #[.int .i8 0, .int .i64 1, .int .i8 1, .int .i64 0] rfl).dn (Dn.refl _)
  simpa using h
 rw [← hW184]
 clear hW184
 have vW184 := uw37.trans uW184
 clear uW184 uw37
 go_wp2_with fail
 refine (HMx.out _ _ rlF).mono ?_
 rintro e w38 ⟨rfl, qw38⟩
 replace rlF := rlF.dn qw38
 have fO := nlt fI qw38.size
 have fR := nlt fL qw38.size
 obtain ⟨fP, fQ, fS, fT⟩ := mv4 qw38.cell fJ fK fM fN
 clear fI fJ fK fL fM fN
 have uw38 := vW184.trans qw38
 clear qw38 vW184
 clear rlF
 go_wp2_with fail
 obtain ⟨W197, hW197⟩ : ∃ W197, W197 = ((w38.alloc (.cells #[.int .i8 1, .int .i64 0] 41)).alloc (.cells #[.string ⟨#[49, 46, 46, 51, 44, 53, 46, 46, 53]⟩, .string ⟨#[]⟩, .string ⟨#[49, 46, 46, 51, 44]⟩, .string ⟨#[49, 46, 46, 51, 44, 52, 46, 46, 52]⟩] 9)).alloc (.cells #[.int .i64 0, .int .i64 5, .int .i64 5, .int .i64 12] 3) := ⟨_, rfl⟩
 have uW197 : Dn w38 W197 := by rw [hW197]; exact (((Dn.refl _).alloc _).alloc _).alloc _
 have fU := nlt fO uW197.size
 have fX := nlt fR uW197.size
 obtain ⟨fV, fW, fY, fZ⟩ := mv4 uW197.cell fP fQ fS fT
 clear fO fP fQ fR fS fT
 have g0 : W197.cell? ⟨w38.heap.size, 0, none⟩ = some (.int .i8 1) := by rw [hW197]; simp [go_sem]
 have g1 : W197.cell? ⟨w38.heap.size, 1, none⟩ = some (.int .i64 0) := by rw [hW197]; simp [go_sem]
 have g3 : w38.heap.size < W197.heap.size := by rw [hW197]; simp <;> omega
 have hst : Ss W197 (w38.heap.size + 1) strK := by
  rw [hW197]
  have h := (ss_new ((w38.alloc (.cells #[.int .i8 1, .int .i64 0] 41))) strK _ HS4.out).dn ((Dn.refl _).alloc (.cells #[.int .i64 0, .int .i64 5, .int .i64 5, .int .i64 12] 3))
  simpa using h
 have hwt : Ns W197 (w38.heap.size + 1 + 1) wantL := by
  rw [hW197]
  have h := (nsI_new (((w38.alloc (.cells #[.int .i8 1, .int .i64 0] 41)).alloc (.cells #[.string ⟨#[49, 46, 46, 51, 44, 53, 46, 46, 53]⟩, .string ⟨#[]⟩, .string ⟨#[49, 46, 46, 51, 44]⟩, .string ⟨#[49, 46, 46, 51, 44, 52, 46, 46, 52]⟩] 9))) wantL _ HW4.out).dn (Dn.refl _)
  simpa using h
 rw [← hW197]
 clear hW197
 have vW197 := uw38.trans uW197
 clear uW197 uw38
 clear fV fW fU
 clear fY fZ fX
 clear g0 g1 g3
 have HST := Lib.hid hst
 have HWT := Lib.hid hwt
 have HUW := Lib.hid vW197
 generalize w38.heap.size = B at *
 clear hst hwt vW197
 go_loopw [0, 17] (fun r0 iv wr => r0 = .bool false ∧ ∃ k : Nat, k ≤ 4 ∧ iv = .int .i64 k ∧ Dn W197 wr) (fun _ iv _ => 4 - (intOf iv).toNat)
 case atStart => exact ⟨rfl, 0, by decide, rfl, Dn.refl _⟩
 case round =>
  obtain ⟨rfl, k, hk, rfl, hu⟩ := hrel
  by_cases hlt : k < 4
  · have d1 : decide ((k : Int) < 4) = true := by simp; omega
    have d2 : (k : Int) < 4 := by omega
    have HLT := Lib.hid hlt
    have cst := (HST.out.dn hu).at_ k hlt
    have cw := (HWT.out.dn hu).at_ k _ (HWk.out k hlt)
    have HG := Lib.hid (HGv.out k hlt)
    have HP := Lib.hid (HPa.out k hlt)
    have HE := Lib.hid (hE.dn (HUW.out.trans hu))
    go_wp2_with fail
    clear cst
    refine (HP.out _ HE.out).mono ?_
    rintro e y1 ⟨pk, nk, rfl, hk1, q0⟩
    replace cw := q0.cell cw
    go_wp2_with fail
    go_wp2_with fail
    refine region_inv (fun A l a' w' => ∃ (b0 b1 b2 b3 b4 b5 b6 b7 b8 b9 : Bool) (x216 x217 x218 x219 x220 x221 x222 x223 x224 x225 : Value), l = #[b0, b1, b2, b3, b4, b5, b6, b7, b8, b9] ∧ a' = ((((((((((A.put (some 216) x216).put (some 217) x217).put (some 218) x218).put (some 219) x219).put (some 220) x220).put (some 221) x221).put (some 222) x222).put (some 223) x223).put (some 224) x224).put (some 225) x225) ∧ Dn y1 w' ∧ (b0 = true → x216 = .slice pk nk nk) ∧ (b1 = true → x217 = .int .i64 (errK k)) ∧ (b2 = true → SlN w' x218 4 [1, 3, 5, 5]) ∧ (b3 = true → SlR w' x219 D4) ∧ (b4 = true → x220 = .slice (some ⟨B + 1 + 1, 0, none⟩) 4 4) ∧ (b5 = true → x221 = .int .i64 k) ∧ (b6 = true → x222 = .pointer (some ⟨B + 1 + 1, k, none⟩)) ∧ (b7 = true → x223 = .int .i64 (wantF k)) ∧ (b8 = true → x224 = .bool true) ∧ (b9 = true → x225 = .bool false)) (by kernel_rfl) ?_ ?_ ?_
    · exact ⟨false, false, false, false, false, false, false, false, false, false, u216, u217, u218, u219, u220, u221, u222, u223, u224, u225, rfl, by simp only [Act.put, pL], (Dn.refl _).drew, (fun h => by cases h), (fun h => by cases h), (fun h => by cases h), (fun h => by cases h), (fun h => by cases h), (fun h => by cases h), (fun h => by cases h), (fun h => by cases h), (fun h => by cases h), (fun h => by cases h)⟩
    · rintro l a' w' i ⟨b0, b1, b2, b3, b4, b5, b6, b7, b8, b9, x216, x217, x218, x219, x220, x221, x222, x223, x224, x225, rfl, rfl, q, hv0, hv1, hv2, hv3, hv4, hv5, hv6, hv7, hv8, hv9⟩ hun hdep hi
      simp only [Act.put, pL]
      have hi' : i < 10 := hi
      rcases (show i = 0 ∨ i = 1 ∨ i = 2 ∨ i = 3 ∨ i = 4 ∨ i = 5 ∨ i = 6 ∨ i = 7 ∨ i = 8 ∨ i = 9 by omega) with rfl | rfl | rfl | rfl | rfl | rfl | rfl | rfl | rfl | rfl
      ·
       have f0 : b0 = false := by simpa using hun
       subst f0
       refine wpOp_step rfl (fun K hK => ?_)
       replace hK := Lib.hid hK
       go_simp
       exact hK.out _ _ ⟨true, b1, b2, b3, b4, b5, b6, b7, b8, b9, .slice pk nk nk, x217, x218, x219, x220, x221, x222, x223, x224, x225, rfl, by first | (simp only [Act.put, pL]; done) | rfl, q, fun _ => rfl, hv1, hv2, hv3, hv4, hv5, hv6, hv7, hv8, hv9⟩
      ·
       have f1 : b1 = false := by simpa using hun
       subst f1
       refine wpOp_step rfl (fun K hK => ?_)
       replace hK := Lib.hid hK
       go_simp
       exact hK.out _ _ ⟨b0, true, b2, b3, b4, b5, b6, b7, b8, b9, x216, .int .i64 (errK k), x218, x219, x220, x221, x222, x223, x224, x225, rfl, by first | (simp only [Act.put, pL]; done) | rfl, q, hv0, fun _ => rfl, hv2, hv3, hv4, hv5, hv6, hv7, hv8, hv9⟩
      ·
       have f2 : b2 = false := by simpa using hun
       subst f2
       refine wpOp_step rfl (fun K hK => ?_)
       replace hK := Lib.hid hK
       go_simp
       exact hK.out _ _ ⟨b0, b1, true, b3, b4, b5, b6, b7, b8, b9, x216, x217, .slice (some ⟨w'.heap.size, 0, none⟩) 4 4, x219, x220, x221, x222, x223, x224, x225, rfl, by first | (simp only [Act.put, pL]; done) | rfl, q.alloc _, hv0, hv1, fun _ => ⟨_, rfl, ns_new _ _ _ rfl⟩, fun h => (hv3 h).dn ((Dn.refl _).alloc _), hv4, hv5, hv6, hv7, hv8, hv9⟩
      ·
       have e2 : b2 = true := hdep _ rfl ⟨2, .data⟩ (by simp) rfl
       have f3 : b3 = false := by simpa using hun
       subst f3 e2
       have k2 := hv2 rfl
       obtain ⟨g2, rfl, n2⟩ := k2
       refine wpOp_step rfl (fun K hK => ?_)
       replace hK := Lib.hid hK
       go_simp
       go_at_call 38
       refine (SD4.out _ _ n2).mono ?_
       rintro e wa ⟨p3, c3, rfl, r3, qa⟩
       try go_wp2_with fail
       exact hK.out _ _ ⟨b0, b1, true, true, b4, b5, b6, b7, b8, b9, x216, x217, .slice (some ⟨g2, 0, none⟩) 4 4, .slice p3 D4.length c3, x220, x221, x222, x223, x224, x225, rfl, by first | (simp only [Act.put, pL]; done) | rfl, q.trans qa, hv0, hv1, fun _ => (show SlN w' (.slice (some ⟨g2, 0, none⟩) 4 4) 4 [1, 3, 5, 5] from ⟨g2, rfl, n2⟩).dn (qa), fun _ => ⟨_, _, rfl, r3⟩, hv4, hv5, hv6, hv7, hv8, hv9⟩
      ·
       have f4 : b4 = false := by simpa using hun
       subst f4
       refine wpOp_step rfl (fun K hK => ?_)
       replace hK := Lib.hid hK
       go_simp
       exact hK.out _ _ ⟨b0, b1, b2, b3, true, b5, b6, b7, b8, b9, x216, x217, x218, x219, .slice (some ⟨B + 1 + 1, 0, none⟩) 4 4, x221, x222, x223, x224, x225, rfl, by first | (simp only [Act.put, pL]; done) | rfl, q, hv0, hv1, hv2, hv3, fun _ => rfl, hv5, hv6, hv7, hv8, hv9⟩
      ·
       have f5 : b5 = false := by simpa using hun
       subst f5
       refine wpOp_step rfl (fun K hK => ?_)
       replace hK := Lib.hid hK
       go_simp
       exact hK.out _ _ ⟨b0, b1, b2, b3, b4, true, b6, b7, b8, b9, x216, x217, x218, x219, x220, .int .i64 k, x222, x223, x224, x225, rfl, by first | (simp only [Act.put, pL]; done) | rfl, q, hv0, hv1, hv2, hv3, hv4, fun _ => rfl, hv6, hv7, hv8, hv9⟩
      ·
       have e4 : b4 = true := hdep _ rfl ⟨4, .data⟩ (by simp) rfl
       have e5 : b5 = true := hdep _ rfl ⟨5, .data⟩ (by simp) rfl
       have f6 : b6 = false := by simpa using hun
       subst f6 e4 e5
       obtain rfl := hv4 rfl
       obtain rfl := hv5 rfl
       refine wpOp_step rfl (fun K hK => ?_)
       replace hK := Lib.hid hK
       go_simp
       exact hK.out _ _ ⟨b0, b1, b2, b3, true, true, true, b7, b8, b9, x216, x217, x218, x219, .slice (some ⟨B + 1 + 1, 0, none⟩) 4 4, .int .i64 k, .pointer (some ⟨B + 1 + 1, k, none⟩), x223, x224, x225, rfl, by first | (simp only [Act.put, pL]; done) | rfl, q, hv0, hv1, hv2, hv3, fun _ => rfl, fun _ => rfl, fun _ => rfl, hv7, hv8, hv9⟩
      ·
       have e6 : b6 = true := hdep _ rfl ⟨6, .data⟩ (by simp) rfl
       have f7 : b7 = false := by simpa using hun
       subst f7 e6
       obtain rfl := hv6 rfl
       have g301 := q.cell cw
       refine wpOp_step rfl (fun K hK => ?_)
       replace hK := Lib.hid hK
       go_simp
       exact hK.out _ _ ⟨b0, b1, b2, b3, b4, b5, true, true, b8, b9, x216, x217, x218, x219, x220, x221, .pointer (some ⟨B + 1 + 1, k, none⟩), .int .i64 (wantF k), x224, x225, rfl, by first | (simp only [Act.put, pL]; done) | rfl, q, hv0, hv1, hv2, hv3, hv4, hv5, fun _ => rfl, fun _ => rfl, hv8, hv9⟩
      ·
       have e0 : b0 = true := hdep _ rfl ⟨0, .data⟩ (by simp) rfl
       have e1 : b1 = true := hdep _ rfl ⟨1, .data⟩ (by simp) rfl
       have e3 : b3 = true := hdep _ rfl ⟨3, .data⟩ (by simp) rfl
       have e7 : b7 = true := hdep _ rfl ⟨7, .data⟩ (by simp) rfl
       have f8 : b8 = false := by simpa using hun
       subst f8 e0 e1 e3 e7
       obtain rfl := hv0 rfl
       obtain rfl := hv1 rfl
       have k3 := hv3 rfl
       obtain ⟨p3, c3, rfl, r3⟩ := k3
       obtain rfl := hv7 rfl
       refine wpOp_step rfl (fun K hK => ?_)
       replace hK := Lib.hid hK
       go_simp
       go_at_call 13
       refine (HG.out _ _ _ _ _ (row0_dn hk1 q) r3.row).mono ?_
       rintro e wa ⟨rfl, qa⟩
       try go_wp2_with fail
       exact hK.out _ _ ⟨true, true, b2, true, b4, b5, b6, true, true, b9, .slice pk nk nk, .int .i64 (errK k), x218, .slice p3 D4.length c3, x220, x221, x222, .int .i64 (wantF k), .bool true, x225, rfl, by first | (simp only [Act.put, pL]; done) | rfl, q.trans qa, fun _ => rfl, fun _ => rfl, fun h => (hv2 h).dn qa, fun _ => (show SlR w' (.slice p3 D4.length c3) D4 from ⟨p3, c3, rfl, r3⟩).dn (qa), hv4, hv5, hv6, fun _ => rfl, fun _ => rfl, hv9⟩
      ·
       have e8 : b8 = true := hdep _ rfl ⟨8, .data⟩ (by simp) rfl
       have f9 : b9 = false := by simpa using hun
       subst f9 e8
       obtain rfl := hv8 rfl
       refine wpOp_step rfl (fun K hK => ?_)
       replace hK := Lib.hid hK
       go_simp
       exact hK.out _ _ ⟨b0, b1, b2, b3, b4, b5, b6, b7, true, true, x216, x217, x218, x219, x220, x221, x222, x223, .bool true, .bool false, rfl, by first | (simp only [Act.put, pL]; done) | rfl, q, hv0, hv1, hv2, hv3, hv4, hv5, hv6, hv7, fun _ => rfl, fun _ => rfl⟩
    · rintro l a' W302 ⟨b0, b1, b2, b3, b4, b5, b6, b7, b8, b9, x216, x217, x218, x219, x220, x221, x222, x223, x224, x225, rfl, rfl, qW302, hv0, hv1, hv2, hv3, hv4, hv5, hv6, hv7, hv8, hv9⟩ hall
      obtain rfl : b0 = true := by
       cases b0 with
       | true => rfl
       | false => exact absurd (by intro e he hb; simp at he <;> (repeat' (rcases he with rfl | he)) <;> first | rfl | exact absurd hb (by decide)) (hall 0 _ rfl rfl)
      obtain rfl : b1 = true := by
       cases b1 with
       | true => rfl
       | false => exact absurd (by intro e he hb; simp at he <;> (repeat' (rcases he with rfl | he)) <;> first | rfl | exact absurd hb (by decide)) (hall 1 _ rfl rfl)
      obtain rfl : b2 = true := by
       cases b2 with
       | true => rfl
       | false => exact absurd (by intro e he hb; simp at he <;> (repeat' (rcases he with rfl | he)) <;> first | rfl | exact absurd hb (by decide)) (hall 2 _ rfl rfl)
      obtain rfl : b3 = true := by
       cases b3 with
       | true => rfl
       | false => exact absurd (by intro e he hb; simp at he <;> (repeat' (rcases he with rfl | he)) <;> first | rfl | exact absurd hb (by decide)) (hall 3 _ rfl rfl)
      obtain rfl : b4 = true := by
       cases b4 with
       | true => rfl
       | false => exact absurd (by intro e he hb; simp at he <;> (repeat' (rcases he with rfl | he)) <;> first | rfl | exact absurd hb (by decide)) (hall 4 _ rfl rfl)
      obtain rfl : b5 = true := by
       cases b5 with
       | true => rfl
       | false => exact absurd (by intro e he hb; simp at he <;> (repeat' (rcases he with rfl | he)) <;> first | rfl | exact absurd hb (by decide)) (hall 5 _ rfl rfl)
      obtain rfl : b6 = true := by
       cases b6 with
       | true => rfl
       | false => exact absurd (by intro e he hb; simp at he <;> (repeat' (rcases he with rfl | he)) <;> first | rfl | exact absurd hb (by decide)) (hall 6 _ rfl rfl)
      obtain rfl : b7 = true := by
       cases b7 with
       | true => rfl
       | false => exact absurd (by intro e he hb; simp at he <;> (repeat' (rcases he with rfl | he)) <;> first | rfl | exact absurd hb (by decide)) (hall 7 _ rfl rfl)
      obtain rfl : b8 = true := by
       cases b8 with
       | true => rfl
       | false => exact absurd (by intro e he hb; simp at he <;> (repeat' (rcases he with rfl | he)) <;> first | rfl | exact absurd hb (by decide)) (hall 8 _ rfl rfl)
      obtain rfl : b9 = true := by
       cases b9 with
       | true => rfl
       | false => exact absurd (by intro e he hb; simp at he <;> (repeat' (rcases he with rfl | he)) <;> first | rfl | exact absurd hb (by decide)) (hall 9 _ rfl rfl)
      obtain rfl := hv0 rfl
      obtain rfl := hv1 rfl
      clear hv2
      clear hv3
      obtain rfl := hv4 rfl
      obtain rfl := hv5 rfl
      obtain rfl := hv6 rfl
      obtain rfl := hv7 rfl
      obtain rfl := hv8 rfl
      obtain rfl := hv9 rfl
      clear hall
      simp only [Act.put, pL]
      go_wp2_with fail
      go_roundw
      case rel => exact ⟨rfl, k + 1, HLT.out, by simp, hu.trans (q0.trans qW302)⟩
      case measure => simp [intOf]; have := HLT.out; omega
  · obtain rfl : k = 4 := by omega
    have d1 : decide (((4 : Nat) : Int) < 4) = false := by decide
    go_wp2_with fail
    go_ret
    exact ⟨rfl, HUW.out.trans hu⟩
def spl : List UInt8 → List (List UInt8)
 | [] => [[]]
 | c :: t => if c = 44 then [] :: spl t else match spl t with
   | [] => [[c]]
   | f :: r => (c :: f) :: r
theorem spl_part : ∀ (x : List UInt8), (∀ c ∈ x, c ≠ 44) → spl x = [x]
 | [], _ => rfl
 | c :: t, h => by
   have h1 := h c List.mem_cons_self
   unfold spl
   rw [if_neg h1, spl_part t (fun d hd => h d (List.mem_cons_of_mem _ hd))]
theorem spl_comma : ∀ (x y : List UInt8), (∀ c ∈ x, c ≠ 44) → spl (x ++ 44 :: y) = x :: spl y
 | [], y, _ => by simp [spl]
 | c :: t, y, h => by
   have h1 := h c List.mem_cons_self
   rw [List.cons_append, spl, if_neg h1, spl_comma t y (fun d hd => h d (List.mem_cons_of_mem _ hd))]
theorem spl_len : ∀ l : List UInt8, (spl l).length ≤ l.length + 1
 | [] => by simp [spl]
 | c :: t => by
   have := spl_len t
   unfold spl
   split
   · simp; omega
   · split
     · simp
     · next f r h => rw [h] at this; simp at this ⊢; omega
def rStr (a b c d : Int) : ByteArray := eStr a b ++ ⟨#[46, 46]⟩ ++ eStr c d
def noneS : ByteArray := ⟨#[110, 111, 110, 101]⟩
structure LtH (w : World) (B : Nat) : Prop where
 lt : B < w.heap.size
theorem LtH.dn {w w2 : World} {B : Nat} (h : LtH w B) (q : Dn w w2) : LtH w2 B := ⟨Nat.lt_of_lt_of_le h.lt q.size⟩
def rS (x : Rq) : ByteArray := rStr x.a x.b x.c x.d
structure TxRel (B : Nat) (L : List Rq) (k : Nat) (wr : World) (O : List ByteArray) : Prop where
 own : wr.ownsRow 0 9 1 (.slice (some ⟨B, 0, none⟩) L.length L.length) L.length (O.map Value.string)
 len : O.length = L.length
 at_ : ∀ j x, j < k → L[j]? = some x → O[j]? = some (rS x)
theorem TxRel.dn {B : Nat} {L : List Rq} {k : Nat} {wr w' : World} {O : List ByteArray} (h : TxRel B L k wr O) (q : Dn wr w') : TxRel B L k w' O :=
 ⟨h.own.kept (grown_dn q none) (Or.inr (by simp [Value.ownBlock])), h.len, h.at_⟩
theorem TxRel.cell {B : Nat} {L : List Rq} {k : Nat} {wr : World} {O : List ByteArray} (h : TxRel B L k wr O) {j : Nat} (hj : j < L.length) : ∃ v, wr.cell? ⟨B, j, none⟩ = some (.string v) ∧ wr.frozen? ⟨B, j, none⟩ = false := by
 have hl := h.len
 refine ⟨O[j], ?_, h.own.frozenAt j⟩
 rw [h.own.cellAt j (by omega), List.getElem?_map, List.getElem?_eq_getElem (by omega)]
 rfl
theorem TxRel.set {B : Nat} {L : List Rq} {k : Nat} {wr : World} {O : List ByteArray} (h : TxRel B L k wr O) {x : Rq} (hx : L[k]? = some x) : TxRel B L (k + 1) (wr.setCell ⟨B, k, none⟩ (.string (rS x))) (O.set k (rS x)) := by
 have hl := (List.getElem?_eq_some_iff.1 hx).1
 refine ⟨?_, by rw [List.length_set]; exact h.len, fun j y hj hy => ?_⟩
 · have := (h.own.stored k (.string (rS x))).1
   rwa [← List.map_set] at this
 · by_cases e : j = k
   · subst e
     rw [hx] at hy; cases hy
     rw [List.getElem?_set_self (by rw [h.len]; exact hl)]
   · rw [List.getElem?_set_ne (fun e' => e e'.symm)]
     exact h.at_ j y (by omega) hy
theorem TxRel.all {B : Nat} {L : List Rq} {wr : World} {O : List ByteArray} (h : TxRel B L L.length wr O) : O = L.map rS := by
 apply List.ext_getElem?
 intro j
 rw [List.getElem?_map]
 by_cases hj : j < L.length
 · rw [h.at_ j L[j] hj (by simp [hj])]; simp [hj]
 · rw [List.getElem?_eq_none (by rw [h.len]; omega), List.getElem?_eq_none (by omega)]; rfl
theorem TxRel.new (w : World) (L : List Rq) (hl : L.length ≤ 100) : TxRel w.heap.size L 0 (w.alloc (.cells (madeCells #[.string ⟨#[]⟩] L.length) 9)) (List.replicate L.length ⟨#[]⟩) := by
 refine ⟨?_, by simp, fun j x hj => by omega⟩
 have h := World.ownsRow_lit (base := 0) (e := 9) (size := 1) w (madeCells #[.string ⟨#[]⟩] L.length) L.length (Nat.zero_le _) (by unfold maxLen; omega) (by rw [size_madeCells]; omega)
 rw [toList_madeCells_one] at h
 simpa using h
theorem rp_ofT {s lo hi : ByteArray} {q0 q1 q2 q3 r i1 d1 r1 i2 d2 r2 : Int} (hc : Lib.cut s.data.toList [46, 46] = (lo.data.toList, hi.data.toList, true)) (h1 : EP lo i1 d1 r1) (h2 : EP hi i2 d2 r2)
   (hx : ((r1 = 5 ∨ r2 = 5) ∧ q0 = 0 ∧ q1 = 0 ∧ q2 = 0 ∧ q3 = 0 ∧ r = 5) ∨ (r1 ≠ 5 ∧ r2 ≠ 5 ∧ (r1 ≠ 0 ∨ r2 ≠ 0) ∧ q0 = 0 ∧ q1 = 0 ∧ q2 = 0 ∧ q3 = 0 ∧ r = 15) ∨
    (r1 = 0 ∧ r2 = 0 ∧ rnErr i1 d1 i2 d2 ≠ 0 ∧ q0 = 0 ∧ q1 = 0 ∧ q2 = 0 ∧ q3 = 0 ∧ r = rnErr i1 d1 i2 d2) ∨ (r1 = 0 ∧ r2 = 0 ∧ rnErr i1 d1 i2 d2 = 0 ∧ q0 = i1 ∧ q1 = d1 ∧ q2 = i2 ∧ q3 = d2 ∧ r = 0)) : RP s q0 q1 q2 q3 r := by
 refine Or.inr ⟨by rw [hc], i1, d1, r1, i2, d2, r2, ?_, ?_, hx⟩
 · rw [hc]; exact h1
 · rw [hc]; exact h2
theorem rp_errT {s : ByteArray} {q0 q1 q2 q3 r : Int} (h : RP s q0 q1 q2 q3 r) : I64 q1 ∧ I64 q3 := by
 rcases h with ⟨_, _, rfl, _, rfl, _⟩ | ⟨_, i1, d1, r1, i2, d2, r2, h1, h2, ⟨_, _, rfl, _, rfl, _⟩ | ⟨_, _, _, _, rfl, _, rfl, _⟩ | ⟨_, _, _, _, rfl, _, rfl, _⟩ | ⟨_, _, _, _, rfl, _, rfl, _⟩⟩
 · decide
 · decide
 · decide
 · decide
 · exact ⟨ep_i64 h1, ep_i64 h2⟩
def PsP (f : List UInt8) (y : Rq × Int) : Prop := RP ⟨f.toArray⟩ y.1.a y.1.b y.1.c y.1.d y.2
structure PsL (fs : List (List UInt8)) (ys : List (Rq × Int)) : Prop where
 len : ys.length = fs.length
 at_ : ∀ (k : Nat) (f : List UInt8) (y : Rq × Int), fs[k]? = some f → ys[k]? = some y → PsP f y
theorem psL_nil : PsL [] [] := ⟨rfl, fun k f y h => by simp at h⟩
theorem psL_cons {f : List UInt8} {y : Rq × Int} {fs : List (List UInt8)} {ys : List (Rq × Int)} (h : PsP f y) (t : PsL fs ys) : PsL (f :: fs) (y :: ys) := by
 refine ⟨by simp [t.len], fun k g z hg hz => ?_⟩
 cases k with
 | zero => simp at hg hz; subst hg; subst hz; exact h
 | succ k => simp at hg hz; exact t.at_ k g z hg hz
def firstE : List (Rq × Int) → Int
 | [] => 0
 | y :: t => if y.2 = 0 then firstE t else y.2
theorem firstE_snoc : ∀ (l : List (Rq × Int)) (y : Rq × Int), firstE (l ++ [y]) = if firstE l = 0 then y.2 else firstE l
 | [], y => by simp only [List.nil_append, firstE]; split <;> simp_all
 | x :: t, y => by
   by_cases h : x.2 = 0
   · have e1 : firstE (x :: t) = firstE t := by simp [firstE, h]
     have e2 : firstE (x :: t ++ [y]) = firstE (t ++ [y]) := by simp [firstE, h]
     rw [e1, e2]; exact firstE_snoc t y
   · have e1 : firstE (x :: t) = x.2 := by simp [firstE, h]
     have e2 : firstE (x :: t ++ [y]) = x.2 := by simp [firstE, h]
     rw [e1, e2, if_neg h]
def NoF (l : List (Rq × Int)) : Prop := ∀ y ∈ l, y.2 ≠ 5
instance (l : List (Rq × Int)) : Decidable (NoF l) := by unfold NoF; infer_instance
def prsE (ys : List (Rq × Int)) : Int := if NoF ys then (if firstE ys = 0 then chkL (ys.map (·.1)) else firstE ys) else 5
def prsR (ys : List (Rq × Int)) : List Rq := if prsE ys = 0 then ys.map (·.1) else []
theorem prsE_form {ys : List (Rq × Int)} {y : Rq × Int} (h : y ∈ ys) (h5 : y.2 = 5) : prsE ys = 5 := by
 unfold prsE; rw [if_neg (fun hn => hn y h h5)]
theorem prsR_bad {ys : List (Rq × Int)} (h : prsE ys ≠ 0) : prsR ys = [] := by unfold prsR; rw [if_neg h]
theorem prsE_first {ys : List (Rq × Int)} (h : NoF ys) (h0 : firstE ys ≠ 0) : prsE ys = firstE ys := by unfold prsE; rw [if_pos h, if_neg h0]
theorem prsE_chk {ys : List (Rq × Int)} (h : NoF ys) (h0 : firstE ys = 0) : prsE ys = chkL (ys.map (·.1)) := by unfold prsE; rw [if_pos h, if_pos h0]
theorem psL_i6 {fs : List (List UInt8)} {ys : List (Rq × Int)} (h : PsL fs ys) : I6 (ys.map (·.1)) := by
 intro x hx
 obtain ⟨y, hy, rfl⟩ := List.mem_map.1 hx
 obtain ⟨k, hk, rfl⟩ := List.getElem_of_mem hy
 have hk2 : k < fs.length := by have := h.len; omega
 exact rp_errT (h.at_ k _ _ (List.getElem?_eq_getElem hk2) (List.getElem?_eq_getElem hk))
def SP (s : ByteArray) (R : List Rq) (E : Int) : Prop := (s = noneS ∧ R = [] ∧ E = 0) ∨ (s ≠ noneS ∧ ∃ ys, PsL (spl s.data.toList) ys ∧ R = prsR ys ∧ E = prsE ys)
theorem dl_len (s : ByteArray) : s.data.toList.length = s.size := by simp
theorem part_list (s : ByteArray) (f i : Nat) : (s.extract f i).data.toList = (s.data.toList.drop f).take (i - f) := by
 rw [ByteArray.data_extract, Array.toList_extract, List.extract_eq_take_drop]
theorem drop_cons {α : Type} {l : List α} {k : Nat} {x : α} {t : List α} (h : l.drop k = x :: t) : l[k]? = some x ∧ l.drop (k + 1) = t ∧ k < l.length := by
 have hk : k < l.length := by
  by_cases hk : k < l.length
  · exact hk
  · rw [List.drop_eq_nil_of_le (by omega)] at h; cases h
 rw [List.drop_eq_getElem_cons hk] at h
 obtain ⟨h1, h2⟩ := List.cons.inj h
 exact ⟨by rw [List.getElem?_eq_getElem hk, h1], h2, hk⟩
def Gat (ys : List (Rq × Int)) (k : Nat) : Prop := NoF (ys.take k)
theorem gat_step {ys : List (Rq × Int)} {k : Nat} {y : Rq × Int} (h : Gat ys k) (hy : ys[k]? = some y) (h5 : y.2 ≠ 5) : Gat ys (k + 1) := by
 intro z hz
 rw [List.take_add_one, hy] at hz
 rcases List.mem_append.1 hz with hz | hz
 · exact h z hz
 · simp at hz; subst hz; exact h5
theorem fst_at {ys : List (Rq × Int)} {k : Nat} {y : Rq × Int} (hy : ys[k]? = some y) : (ys.take (k + 1)).map (·.1) = (ys.take k).map (·.1) ++ [y.1] := by
 rw [List.take_add_one, hy]; simp
theorem firstE_at {ys : List (Rq × Int)} {k : Nat} {y : Rq × Int} (hy : ys[k]? = some y) : firstE (ys.take (k + 1)) = if firstE (ys.take k) = 0 then y.2 else firstE (ys.take k) := by
 rw [List.take_add_one, hy]; exact firstE_snoc _ _
theorem gat_bad {ys : List (Rq × Int)} {k : Nat} {y : Rq × Int} (hy : ys[k]? = some y) (h5 : y.2 = 5) : prsE ys = 5 ∧ prsR ys = [] := by
 have := prsE_form (List.mem_of_getElem? hy) h5
 exact ⟨this, prsR_bad (by rw [this]; decide)⟩
theorem spl_at {l : List UInt8} {a b : Nat} (hab : a ≤ b) (hb : b < l.length) (hn : ∀ j, a ≤ j → j < b → l[j]? ≠ some 44) (hc : l[b]? = some 44) :
   spl (l.drop a) = ((l.drop a).take (b - a)) :: spl (l.drop (b + 1)) := by
 have e : l.drop a = (l.drop a).take (b - a) ++ 44 :: l.drop (b + 1) := by
   have h1 : (l.drop a).drop (b - a) = 44 :: l.drop (b + 1) := by
    rw [List.drop_drop, show a + (b - a) = b by omega, List.drop_eq_getElem_cons hb]
    rw [List.getElem?_eq_getElem hb] at hc
    rw [Option.some.inj hc]
   rw [← h1, List.take_append_drop]
 rw [e]
 refine (spl_comma _ _ ?_).trans ?_
 · intro c hc e'
   subst e'
   obtain ⟨j, hj, hg⟩ := List.getElem_of_mem hc
   simp only [List.length_take, List.length_drop] at hj
   refine hn (a + j) (by omega) (by omega) ?_
   rw [List.getElem_take, List.getElem_drop] at hg
   rw [List.getElem?_eq_getElem (by omega), hg]
 · rw [← e]
theorem spl_last {l : List UInt8} {a : Nat} (hn : ∀ j, a ≤ j → j < l.length → l[j]? ≠ some 44) : spl (l.drop a) = [l.drop a] := by
 refine spl_part _ ?_
 intro c hc e'
 subst e'
 obtain ⟨j, hj, hg⟩ := List.getElem_of_mem hc
 simp only [List.length_drop] at hj
 refine hn (a + j) (by omega) (by omega) ?_
 rw [List.getElem_drop] at hg
 rw [List.getElem?_eq_getElem (by omega), hg]
end Go.Proofs.YtoghoddjkdoohaaGreatDoor
