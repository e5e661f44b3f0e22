/- Walks and laws that the claim's theorem leans on: part 22. -/
import Derived.Test.YtoghoddjkdoohaaGreatDoorZPl1
import Derived.Test.YtoghoddjkdoohaaGreatDoorZPl2
import Derived.Test.YtoghoddjkdoohaaGreatDoorZPl21
import Derived.ProofKit
import Derived.LaidMore
import Derived.OpenShut
import Derived.Stop.Joined
import Derived.Lib.LaidTab
namespace Go.Proofs.YtoghoddjkdoohaaGreatDoor
set_option maxHeartbeats 4000000
set_option maxRecDepth 100000
open Go.RowKit
set_option linter.unusedVariables false
set_option linter.unusedSimpArgs false
def outK (A B : List Rq) : Nat → Bool
 | 0 => false
 | k + 1 => outK A B k || (memB A (-60 + k) && !memB B (-60 + k))
theorem cD_bound (A : List Rq) (lo : Int) : ∀ k : Nat, 0 ≤ cD A lo k ∧ cD A lo k ≤ k
 | 0 => by simp [cD]
 | k + 1 => by
   have := cD_bound A lo k
   unfold cD
   split <;> omega
theorem outK_false {A B : List Rq} : ∀ {k : Nat}, outK A B k = false ↔ ∀ i : Nat, i < k → memB A (-60 + i) = true → memB B (-60 + i) = true
 | 0 => by simp [outK]
 | k + 1 => by
   unfold outK
   rw [Bool.or_eq_false_iff, outK_false (k := k)]
   constructor
   · rintro ⟨h1, h2⟩ i hi hm
     rcases Nat.lt_or_ge i k with h | h
     · exact h1 i h hm
     · obtain rfl : i = k := by omega
       rw [hm] at h2
       simpa using h2
   · intro h
     refine ⟨fun i hi => h i (by omega), ?_⟩
     cases hm : memB A (-60 + k) with
     | false => rfl
     | true => rw [h k (by omega) hm]; rfl
theorem out_law {A B : List Rq} (sA : Sep A) (sB : Sep B) (mA : SmallL A) (mB : SmallL B) : decide (WtP A B) = !outK A B 321 := by
 have h := small_wt sA sB mA mB
 cases ho : outK A B 321 with
 | false =>
   have h1 := outK_false.1 ho
   have : WtP A B := h.2 fun k l1 l2 hm => by
    have := h1 (k + 60).toNat (by omega)
    rw [show (-60 : Int) + ((k + 60).toNat : Int) = k by omega] at this
    exact memB_iff.1 (this (memB_iff.2 hm))
   simp [this]
 | true =>
   have : ¬ WtP A B := fun hw => by
    have h1 : outK A B 321 = false := outK_false.2 fun i hi hm => memB_iff.2 (h.1 hw _ (by omega) (by omega) (memB_iff.1 hm))
    rw [h1] at ho; cases ho
   simp [this]
theorem inf_mid {x : Rq} {t : List Rq} (h : Sep (x :: t)) : ∀ y ∈ t, y.a = 0 := fun y hy => by
 have h1 := h.2.1 y hy
 have h2 := (Rq.ok_hi h.1).2
 have h3 := Rq.ok_lo' (Sep.all h.2.2 y hy)
 omega
theorem inf_last : ∀ {t : List Rq} {z : Rq}, Sep (t ++ [z]) → ∀ y ∈ t, y.c = 0
 | [], _, _, y, hy => (nomatch hy)
 | x :: t, z, h, y, hy => by
   rcases List.mem_cons.1 hy with e | e
   · subst e
     have h1 := h.2.1 z (by simp)
     have h2 := (Rq.ok_lo (Sep.all h z (by simp))).2
     have h3 := Rq.ok_hi' h.1
     omega
   · exact inf_last h.2.2 y e
theorem count_law {A : List Rq} (hA : Sep A) (mA : SmallL A) (hl : A.length ≤ 20) : (A = [] ∧ (cntL A).1 = cD A (-60) 321 ∧ (cntL A).2 = 0) ∨ ∃ x z k, A.length = k + 1 ∧ A[0]? = some x ∧ A[k]? = some z ∧ ((x.a ≠ 0 ∧ (cntL A).2 = 16) ∨ (x.a = 0 ∧ z.c ≠ 0 ∧ (cntL A).2 = 16) ∨ (x.a = 0 ∧ z.c = 0 ∧ (cntL A).1 = cD A (-60) 321 ∧ (cntL A).2 = 0)) := by
 have hI := i6_sep hA
 have h0 : chkL A = 0 := chk_of hI hA (by omega)
 have hfin : A.any infB = false → cntL A = (cD A (-60) 321, 0) := fun ha => by
   have hz : ∀ x ∈ A, x.a = 0 ∧ x.c = 0 := fun x hx => by
    obtain ⟨k, hk⟩ := List.getElem?_of_mem hx
    exact inf_no hk ha
   have hc := small_count hA mA hz
   have hb := cD_bound A (-60) 321
   rw [cnt_ref hI h0 ha, ← hc, if_pos (by unfold I64; omega)]
 have hinf : A.any infB = true → (cntL A).2 = 16 := fun ha => by unfold cntL; rw [if_neg (by simpa using h0), if_pos ha]
 by_cases hA0 : A = []
 · left
   have := hfin (by rw [hA0]; rfl)
   exact ⟨hA0, by rw [this], by rw [this]⟩
 right
 obtain ⟨k, hk⟩ : ∃ k, A.length = k + 1 := ⟨A.length - 1, by have := List.length_pos_iff.2 hA0; omega⟩
 obtain ⟨x, hx⟩ : ∃ x, A[0]? = some x := ⟨A[0], List.getElem?_eq_getElem _⟩
 obtain ⟨z, hz⟩ : ∃ z, A[k]? = some z := ⟨A[k], List.getElem?_eq_getElem _⟩
 refine ⟨x, z, k, hk, hx, hz, ?_⟩
 by_cases h1 : x.a = 0
 rotate_left
 · exact .inl ⟨h1, hinf (inf_at hx (by unfold infB; simp [h1]))⟩
 by_cases h2 : z.c = 0
 rotate_left
 · exact .inr (.inl ⟨h1, h2, hinf (inf_at hz (by unfold infB; simp [h2]))⟩)
 refine .inr (.inr ⟨h1, h2, ?_⟩)
 have hno : A.any infB = false := by
   rw [List.any_eq_false]
   intro y hy
   have ya : y.a = 0 := by
    cases A with
    | nil => cases hy
    | cons x' t =>
      simp at hx; subst hx
      rcases List.mem_cons.1 hy with e | e
      · subst e; exact h1
      · exact inf_mid hA y e
   have yc : y.c = 0 := by
    obtain ⟨t, ht⟩ : ∃ t, A = t ++ [z] := ⟨A.take k, by
      have := take_at hz
      rw [← this, List.take_of_length_le (by omega)]⟩
    rw [ht] at hy hA
    rcases List.mem_append.1 hy with e | e
    · exact inf_last hA y e
    · simp at e; subst e; exact h2
   unfold infB; simp [ya, yc]
 rw [hfin hno]
 exact ⟨rfl, rfl⟩
theorem plain_walk (gx gy fx fy ex ey : Int) (px py : Option Addr) (cx cy : Nat) (X Y : List (Int × Int)) (A B U C V N : List Rq) (inn : Bool) (n en : Int) (w : World) (hgx : Int.tmod gx 40 = fx) (hgy : Int.tmod gy 40 = fy) (hgx6 : -32768 ≤ gx ∧ gx ≤ 32767) (hgy6 : -32768 ≤ gy ∧ gy ≤ 32767) (hPX : Pl w px cx X) (hPY : Pl w py cy Y) (HX : Hid (∀ W, Pl W px cx X → Calls Tryz.prog 23 #[.agg #[.int .i16 fx, .slice px X.length cx, .int .u8 ex]] W fun ro w' => ∃ p' cap', ro = .returned (.slice p' A.length cap') ∧ Rl w' p' cap' A ∧ Dn W w')) (HY : Hid (∀ W, Pl W py cy Y → Calls Tryz.prog 23 #[.agg #[.int .i16 fy, .slice py Y.length cy, .int .u8 ey]] W fun ro w' => ∃ p' cap', ro = .returned (.slice p' B.length cap') ∧ Rl w' p' cap' B ∧ Dn W w')) (HU : Hid (∀ W p1 c1 p2 c2, Rl W p1 c1 A → Rl W p2 c2 B → Calls Tryz.prog 24 #[.slice p1 A.length c1, .slice p2 B.length c2] W fun ro w' => ∃ p', ro = .returned (.tuple #[.slice p' U.length U.length, .int .i64 0]) ∧ Row w' p' U ∧ Dn W w')) (HC : Hid (∀ W p1 c1 p2 c2, Rl W p1 c1 A → Rl W p2 c2 B → Calls Tryz.prog 25 #[.slice p1 A.length c1, .slice p2 B.length c2] W fun ro w' => ∃ p', ro = .returned (.tuple #[.slice p' C.length C.length, .int .i64 0]) ∧ Row w' p' C ∧ Dn W w')) (HV : Hid (∀ W p1 c1 p2 c2, Rl W p1 c1 A → Rl W p2 c2 B → Calls Tryz.prog 26 #[.slice p1 A.length c1, .slice p2 B.length c2] W fun ro w' => ∃ p', ro = .returned (.tuple #[.slice p' V.length V.length, .int .i64 0]) ∧ Row w' p' V ∧ Dn W w')) (HN : Hid (∀ W p1 c1, Rl W p1 c1 A → Calls Tryz.prog 17 #[.slice p1 A.length c1] W fun ro w' => ∃ p', ro = .returned (.tuple #[.slice p' N.length N.length, .int .i64 0]) ∧ Row w' p' N ∧ Dn W w')) (HA : Hid (∀ W p1 c1, Row W p1 N → Calls Tryz.prog 17 #[.slice p1 N.length c1] W fun ro w' => ∃ p', ro = .returned (.tuple #[.slice p' A.length A.length, .int .i64 0]) ∧ Row w' p' A ∧ Dn W w')) (HI : Hid (∀ W p1 c1 p2 c2, Rl W p1 c1 A → Rl W p2 c2 B → Calls Tryz.prog 27 #[.slice p1 A.length c1, .slice p2 B.length c2] W fun ro w' => ro = .returned (.tuple #[.bool inn, .int .i64 0]) ∧ Dn W w')) (HS : Hid (∀ W p1 c1 p2 c2, Row W p1 A → Row W p2 A → Calls Tryz.prog 28 #[.slice p1 A.length c1, .slice p2 A.length c2] W fun ro w' => ro = .returned (.bool true) ∧ Dn W w')) (HHA : Hid (∀ W p1 c1 day (r : Bool), I64 day → memB A day = r → Row W p1 A → Calls Tryz.prog 16 #[.slice p1 A.length c1, .int .i64 day] W fun ro w' => ro = .returned (.bool r) ∧ Dn W w')) (HHB : Hid (∀ W p1 c1 day (r : Bool), I64 day → memB B day = r → Row W p1 B → Calls Tryz.prog 16 #[.slice p1 B.length c1, .int .i64 day] W fun ro w' => ro = .returned (.bool r) ∧ Dn W w')) (HHU : Hid (∀ W p1 c1 day (r : Bool), I64 day → (memB A day || memB B day) = r → Row W p1 U → Calls Tryz.prog 16 #[.slice p1 U.length c1, .int .i64 day] W fun ro w' => ro = .returned (.bool r) ∧ Dn W w')) (HHC : Hid (∀ W p1 c1 day (r : Bool), I64 day → (memB A day && memB B day) = r → Row W p1 C → Calls Tryz.prog 16 #[.slice p1 C.length c1, .int .i64 day] W fun ro w' => ro = .returned (.bool r) ∧ Dn W w')) (HHV : Hid (∀ W p1 c1 day (r : Bool), I64 day → (memB A day && !memB B day) = r → Row W p1 V → Calls Tryz.prog 16 #[.slice p1 V.length c1, .int .i64 day] W fun ro w' => ro = .returned (.bool r) ∧ Dn W w')) (HHN : Hid (∀ W p1 c1 day (r : Bool), I64 day → (!memB A day) = r → Row W p1 N → Calls Tryz.prog 16 #[.slice p1 N.length c1, .int .i64 day] W fun ro w' => ro = .returned (.bool r) ∧ Dn W w')) (HK : Hid (∀ W p1 c1, Row W p1 A → Calls Tryz.prog 19 #[.slice p1 A.length c1] W fun ro w' => ro = .returned (.tuple #[.int .i64 n, .int .i64 en]) ∧ Dn W w')) (hio : inn = !outK A B 321) (hct : (A = [] ∧ n = cD A (-60) 321 ∧ en = 0) ∨ ∃ x z k, A.length = k + 1 ∧ A[0]? = some x ∧ A[k]? = some z ∧ ((x.a ≠ 0 ∧ en = 16) ∨ (x.a = 0 ∧ z.c ≠ 0 ∧ en = 16) ∨ (x.a = 0 ∧ z.c = 0 ∧ n = cD A (-60) 321 ∧ en = 0))) (hE : EnvR w) :
   Calls Tryz.prog 5 #[.agg #[.int .i16 gx, .slice px X.length cx, .int .u8 ex], .agg #[.int .i16 gy, .slice py Y.length cy, .int .u8 ey]] w fun ro w' => ro = .returned (.bool true) ∧ Dn w w' := by
 go_enter Tryz.func5, Tryz.ntmps5
 have HPX := Lib.hid hPX
 have HPY := Lib.hid hPY
 clear hPX hPY
 go_wp2_with fail
 obtain ⟨w1, h1⟩ : ∃ w1, w1 = (w.alloc (.cells #[.int .i16 fx, .slice px X.length cx, .int .u8 ex] 49)).alloc (.cells #[.int .i16 fy, .slice py Y.length cy, .int .u8 ey] 49) := ⟨_, rfl⟩
 have u1 : Dn w w1 := by rw [h1]; exact (((Dn.refl _).alloc _).alloc _)
 have bx0 : w1.cell? ⟨w.heap.size, 0, none⟩ = some (.int .i16 fx) := by rw [h1]; simp [go_sem]
 have bx1 : w1.cell? ⟨w.heap.size, 1, none⟩ = some (.slice px X.length cx) := by rw [h1]; simp [go_sem]
 have bx2 : w1.cell? ⟨w.heap.size, 2, none⟩ = some (.int .u8 ex) := by rw [h1]; simp [go_sem]
 have by0 : w1.cell? ⟨w.heap.size + 1, 0, none⟩ = some (.int .i16 fy) := by rw [h1]; simp [go_sem]
 have by1 : w1.cell? ⟨w.heap.size + 1, 1, none⟩ = some (.slice py Y.length cy) := by rw [h1]; simp [go_sem]
 have by2 : w1.cell? ⟨w.heap.size + 1, 2, none⟩ = some (.int .u8 ey) := by rw [h1]; simp [go_sem]
 rw [← h1]
 clear h1 hgx hgy
 have HX1 := Lib.hid (fun W (q : Dn w1 W) => HX.out W (HPX.out.dn (u1.trans q)))
 have HY1 := Lib.hid (fun W (q : Dn w1 W) => HY.out W (HPY.out.dn (u1.trans q)))
 refine region_inv (fun aC l a' w' => ∃ (b0 b1 b2 b3 b4 b5 : Bool) (x34 x35 x36 x37 x5 x6 : Value), l = #[b0, b1, b2, b3, b4, b5] ∧ a' = ((((((aC.put (some 34) x34).put (some 35) x35).put (some 36) x36).put (some 37) x37).put (some 5) x5).put (some 6) x6) ∧ Dn w1 w' ∧ (b0 = true → x34 = .agg #[.int .i16 fx, .slice px X.length cx, .int .u8 ex]) ∧ (b1 = true → SlR w' x35 A) ∧ (b2 = true → x36 = .agg #[.int .i16 fy, .slice py Y.length cy, .int .u8 ey]) ∧ (b3 = true → SlR w' x37 B) ∧ (b4 = true → SlR w' x5 A) ∧ (b5 = true → SlR w' x6 B)) (by kernel_rfl) ?_ ?_ ?_
 · exact ⟨false, false, false, false, false, false, undef, undef, undef, undef, undef, undef, rfl, by simp only [Act.put, pL], (Dn.refl _).drew, (fun h => by cases h), (fun h => by cases h), (fun h => by cases h), (fun h => by cases h), (fun h => by cases h), (fun h => by cases h)⟩
 · rintro l a' w' i ⟨b0, b1, b2, b3, b4, b5, x34, x35, x36, x37, x5, x6, rfl, rfl, q, hv0, hv1, hv2, hv3, hv4, hv5⟩ hun hdep hi
   simp only [Act.put, pL]
   have hi' : i < 6 := hi
   rcases (show i = 0 ∨ i = 1 ∨ i = 2 ∨ i = 3 ∨ i = 4 ∨ i = 5 by omega) with rfl | rfl | rfl | rfl | rfl | rfl
   ·
    have f0 : b0 = false := by simpa using hun
    subst f0
    obtain ⟨g1, g2, g3⟩ := mv3 q.cell bx0 bx1 bx2
    refine wpOp_step rfl (fun K hK => ?_)
    replace hK := Lib.hid hK
    go_simp
    exact hK.out _ _ ⟨true, b1, b2, b3, b4, b5, .agg #[.int .i16 fx, .slice px X.length cx, .int .u8 ex], x35, x36, x37, x5, x6, rfl, by first | (simp only [Act.put, pL]; done) | rfl, q, fun _ => rfl, hv1, hv2, hv3, hv4, hv5⟩
   ·
    have e0 : b0 = true := hdep _ rfl ⟨0, .data⟩ (by simp) rfl
    have f1 : b1 = false := by simpa using hun
    subst f1 e0
    obtain rfl := hv0 rfl
    refine wpOp_step rfl (fun K hK => ?_)
    replace hK := Lib.hid hK
    go_simp
    go_at_call 23
    refine (HX1.out _ q).mono ?_
    rintro e wa ⟨p1, c1, rfl, r1, qa⟩
    try go_wp2_with fail
    exact hK.out _ _ ⟨true, true, b2, b3, b4, b5, .agg #[.int .i16 fx, .slice px X.length cx, .int .u8 ex], .slice p1 A.length c1, x36, x37, x5, x6, rfl, by first | (simp only [Act.put, pL]; done) | rfl, q.trans qa, fun _ => rfl, fun _ => ⟨p1, c1, rfl, r1⟩, hv2, fun h => (hv3 h).dn qa, fun h => (hv4 h).dn qa, fun h => (hv5 h).dn qa⟩
   ·
    have f2 : b2 = false := by simpa using hun
    subst f2
    obtain ⟨g4, g5, g6⟩ := mv3 q.cell by0 by1 by2
    refine wpOp_step rfl (fun K hK => ?_)
    replace hK := Lib.hid hK
    go_simp
    exact hK.out _ _ ⟨b0, b1, true, b3, b4, b5, x34, x35, .agg #[.int .i16 fy, .slice py Y.length cy, .int .u8 ey], x37, x5, x6, rfl, by first | (simp only [Act.put, pL]; done) | rfl, q, hv0, hv1, fun _ => rfl, hv3, hv4, hv5⟩
   ·
    have e2 : b2 = true := hdep _ rfl ⟨2, .data⟩ (by simp) rfl
    have f3 : b3 = false := by simpa using hun
    subst f3 e2
    obtain rfl := hv2 rfl
    refine wpOp_step rfl (fun K hK => ?_)
    replace hK := Lib.hid hK
    go_simp
    go_at_call 23
    refine (HY1.out _ q).mono ?_
    rintro e wa ⟨p3, c3, rfl, r3, qa⟩
    try go_wp2_with fail
    exact hK.out _ _ ⟨b0, b1, true, true, b4, b5, x34, x35, .agg #[.int .i16 fy, .slice py Y.length cy, .int .u8 ey], .slice p3 B.length c3, x5, x6, rfl, by first | (simp only [Act.put, pL]; done) | rfl, q.trans qa, hv0, fun h => (hv1 h).dn qa, fun _ => rfl, fun _ => ⟨p3, c3, rfl, r3⟩, fun h => (hv4 h).dn qa, fun h => (hv5 h).dn qa⟩
   ·
    have e1 : b1 = true := hdep _ rfl ⟨1, .data⟩ (by simp) rfl
    have f4 : b4 = false := by simpa using hun
    subst f4 e1
    have k1 := hv1 rfl
    obtain ⟨p1, c1, rfl, r1⟩ := k1
    refine wpOp_step rfl (fun K hK => ?_)
    replace hK := Lib.hid hK
    go_simp
    exact hK.out _ _ ⟨b0, true, b2, b3, true, b5, x34, .slice p1 A.length c1, x36, x37, .slice p1 A.length c1, x6, rfl, by first | (simp only [Act.put, pL]; done) | rfl, q, hv0, fun _ => ⟨p1, c1, rfl, r1⟩, hv2, hv3, fun _ => ⟨p1, c1, rfl, r1⟩, hv5⟩
   ·
    have e3 : b3 = true := hdep _ rfl ⟨3, .data⟩ (by simp) rfl
    have f5 : b5 = false := by simpa using hun
    subst f5 e3
    have k3 := hv3 rfl
    obtain ⟨p3, c3, rfl, r3⟩ := k3
    refine wpOp_step rfl (fun K hK => ?_)
    replace hK := Lib.hid hK
    go_simp
    exact hK.out _ _ ⟨b0, b1, b2, true, b4, true, x34, x35, x36, .slice p3 B.length c3, x5, .slice p3 B.length c3, rfl, by first | (simp only [Act.put, pL]; done) | rfl, q, hv0, hv1, hv2, fun _ => ⟨p3, c3, rfl, r3⟩, hv4, fun _ => ⟨p3, c3, rfl, r3⟩⟩
 · rintro l a' W7 ⟨b0, b1, b2, b3, b4, b5, x34, x35, x36, x37, x5, x6, rfl, rfl, qW7, hv0, hv1, hv2, hv3, hv4, hv5⟩ hall
   obtain rfl : b0 = true := by
    cases b0 with
    | true => rfl
    | false => exact absurd (by intro e he hb; simp at he <;> (repeat' (rcases he with rfl | he)) <;> first | rfl | exact absurd hb (by decide)) (hall 0 _ rfl rfl)
   obtain rfl : b1 = true := by
    cases b1 with
    | true => rfl
    | false => exact absurd (by intro e he hb; simp at he <;> (repeat' (rcases he with rfl | he)) <;> first | rfl | exact absurd hb (by decide)) (hall 1 _ rfl rfl)
   obtain rfl : b2 = true := by
    cases b2 with
    | true => rfl
    | false => exact absurd (by intro e he hb; simp at he <;> (repeat' (rcases he with rfl | he)) <;> first | rfl | exact absurd hb (by decide)) (hall 2 _ rfl rfl)
   obtain rfl : b3 = true := by
    cases b3 with
    | true => rfl
    | false => exact absurd (by intro e he hb; simp at he <;> (repeat' (rcases he with rfl | he)) <;> first | rfl | exact absurd hb (by decide)) (hall 3 _ rfl rfl)
   obtain rfl : b4 = true := by
    cases b4 with
    | true => rfl
    | false => exact absurd (by intro e he hb; simp at he <;> (repeat' (rcases he with rfl | he)) <;> first | rfl | exact absurd hb (by decide)) (hall 4 _ rfl rfl)
   obtain rfl : b5 = true := by
    cases b5 with
    | true => rfl
    | false => exact absurd (by intro e he hb; simp at he <;> (repeat' (rcases he with rfl | he)) <;> first | rfl | exact absurd hb (by decide)) (hall 5 _ rfl rfl)
   obtain rfl := hv0 rfl
   clear hv1
   obtain rfl := hv2 rfl
   clear hv3
   have k4 := hv4 rfl
   clear hv4
   obtain ⟨pa, ca, rfl, ra⟩ := k4
   have k5 := hv5 rfl
   clear hv5
   obtain ⟨pb, cb, rfl, rb⟩ := k5
   have vW7 := u1.trans qW7
   clear qW7 u1
   clear hall
   simp only [Act.put, pL]
   clear HX1 HY1 HPX HPY HX HY bx0 bx1 bx2 by0 by1 by2
   go_wp2_with fail
   refine (HU.out _ _ _ _ _ ra rb).mono ?_
   rintro e w1 ⟨pu, rfl, ru, qw1⟩
   replace ra := ra.dn qw1
   replace rb := rb.dn qw1
   have uw1 := vW7.trans qw1
   clear qw1 vW7
   go_wp2_with fail
   refine (HC.out _ _ _ _ _ ra rb).mono ?_
   rintro e w2 ⟨pc, rfl, rc, qw2⟩
   replace ra := ra.dn qw2
   replace rb := rb.dn qw2
   replace ru := ru.dn qw2
   have uw2 := uw1.trans qw2
   clear qw2 uw1
   go_wp2_with fail
   refine (HV.out _ _ _ _ _ ra rb).mono ?_
   rintro e w3 ⟨pv, rfl, rv, qw3⟩
   replace ra := ra.dn qw3
   replace rb := rb.dn qw3
   replace ru := ru.dn qw3
   replace rc := rc.dn qw3
   have uw3 := uw2.trans qw3
   clear qw3 uw2
   go_wp2_with fail
   refine (HN.out _ _ _ ra).mono ?_
   rintro e w4 ⟨pn, rfl, rn, qw4⟩
   replace ra := ra.dn qw4
   replace rb := rb.dn qw4
   replace ru := ru.dn qw4
   replace rc := rc.dn qw4
   replace rv := rv.dn qw4
   have uw4 := uw3.trans qw4
   clear qw4 uw3
   go_wp2_with fail
   refine (HA.out _ _ _ rn).mono ?_
   rintro e w5 ⟨pg, rfl, rg, qw5⟩
   replace ra := ra.dn qw5
   replace rb := rb.dn qw5
   replace ru := ru.dn qw5
   replace rc := rc.dn qw5
   replace rv := rv.dn qw5
   replace rn := rn.dn qw5
   have uw5 := uw4.trans qw5
   clear qw5 uw4
   go_wp2_with fail
   refine (HI.out _ _ _ _ _ ra rb).mono ?_
   rintro e w6 ⟨rfl, qw6⟩
   replace ra := ra.dn qw6
   replace rb := rb.dn qw6
   replace ru := ru.dn qw6
   replace rc := rc.dn qw6
   replace rv := rv.dn qw6
   replace rn := rn.dn qw6
   replace rg := rg.dn qw6
   have uw6 := uw5.trans qw6
   clear qw6 uw5
   go_wp2_with fail
   refine (HS.out _ _ _ _ _ rg ra.row).mono ?_
   rintro e w7 ⟨rfl, qw7⟩
   replace ra := ra.dn qw7
   replace rb := rb.dn qw7
   replace ru := ru.dn qw7
   replace rc := rc.dn qw7
   replace rv := rv.dn qw7
   replace rn := rn.dn qw7
   replace rg := rg.dn qw7
   have uw7 := uw6.trans qw7
   clear qw7 uw6
   clear rg
   go_wp2_with fail
   have HU0 := Lib.hid uw7
   have Hra := Lib.hid ra
   have Hrb := Lib.hid rb
   have Hru := Lib.hid ru
   have Hrc := Lib.hid rc
   have Hrv := Lib.hid rv
   have Hrn := Lib.hid rn
   clear ra rb ru rc rv rn HU HC HV HN HA HI HS
   go_loopw [19, 20, 21, 22, 23] (fun dv ov yv pv qv wr => ∃ k : Nat, k ≤ 321 ∧ yv = .int .i64 (-60 + k) ∧ dv = .int .i64 (cD A (-60) k) ∧ ov = .bool (outK A B k) ∧ Dn w7 wr) (fun _ _ yv _ _ _ => (261 - intOf yv).toNat)
   case atStart => exact ⟨0, by omega, rfl, rfl, rfl, Dn.refl _⟩
   case round =>
    obtain ⟨k, hk, rfl, rfl, rfl, hu⟩ := hrel
    by_cases hlt : k < 321
    · have d1 : decide (-60 + (k : Int) ≤ 260) = true := by simp; omega
      have d2 : -60 + (k : Int) ≤ 260 := by omega
      have hcb := cD_bound A (-60) k
      have e1 : IntKind.i64.wrap (-60 + (k : Int) + 1) = -60 + ((k + 1 : Nat) : Int) := by rw [IntWalk.i64_in _ (by omega)]; omega
      have e2 : IntKind.i64.wrap (cD A (-60) k + 1) = cD A (-60) k + 1 := IntWalk.i64_in _ (by omega)
      have hd6 : I64 (-60 + (k : Int)) := by unfold I64; omega
      have hcd : cD A (-60) (k + 1) = cD A (-60) k + (if memB A (-60 + k) then 1 else 0) := rfl
      have hok : outK A B (k + 1) = (outK A B k || (memB A (-60 + k) && !memB B (-60 + k))) := rfl
      have HLT := Lib.hid hlt
      clear hcb hk hlt
      generalize hdd : cD A (-60) (k + 1) = dd1 at hcd
      generalize hoo : outK A B (k + 1) = oo1 at hok
      have HDD := Lib.hid hdd
      have HOO := Lib.hid hoo
      clear hdd hoo
      generalize cD A (-60) k = dd at *
      generalize outK A B k = oo at *
      generalize hy : -60 + (k : Int) = yy at *
      have ra := Hra.out.row.dn hu
      have rb := Hrb.out.row.dn hu
      have ru := Hru.out.dn hu
      have rc := Hrc.out.dn hu
      have rv := Hrv.out.dn hu
      have rn := Hrn.out.dn hu
      have HHY := Lib.hid hy
      clear hy
      rcases Bool.eq_false_or_eq_true (memB A yy) with hp | hp <;> rcases Bool.eq_false_or_eq_true (memB B yy) with hq | hq <;> rcases Bool.eq_false_or_eq_true oo with ho | ho
      ·
        subst ho
        have HU1 := Lib.hid (show (memB A yy || memB B yy) = true by rw [hp, hq]; rfl)
        have HC1 := Lib.hid (show (memB A yy && memB B yy) = true by rw [hp, hq]; rfl)
        have HV1 := Lib.hid (show (memB A yy && !memB B yy) = false by rw [hp, hq]; rfl)
        have HN1 := Lib.hid (show (!memB A yy) = false by rw [hp]; rfl)
        have HP := Lib.hid hp
        have HQ := Lib.hid hq
        have HD6 := Lib.hid hd6
        rw [hp] at hcd
        rw [HV1.out] at hok
        simp only [Bool.true_or, Bool.or_true, Bool.or_false, Bool.false_or, Bool.false_eq_true, if_true, if_false, Int.add_zero] at hcd hok
        have HCD := Lib.hid hcd
        have HOK := Lib.hid hok
        clear hp hq hcd hok hd6
        go_wp2_with fail
        refine (HHA.out _ _ _ _ _ HD6.out HP.out ra).mono ?_
        rintro e x1 ⟨rfl, qx1⟩
        replace ra := ra.dn qx1
        replace rb := rb.dn qx1
        replace ru := ru.dn qx1
        replace rc := rc.dn qx1
        replace rv := rv.dn qx1
        replace rn := rn.dn qx1
        have ux1 := hu.trans qx1
        clear qx1 hu
        go_wp2_with fail
        refine (HHB.out _ _ _ _ _ HD6.out HQ.out rb).mono ?_
        rintro e x2 ⟨rfl, qx2⟩
        replace ra := ra.dn qx2
        replace rb := rb.dn qx2
        replace ru := ru.dn qx2
        replace rc := rc.dn qx2
        replace rv := rv.dn qx2
        replace rn := rn.dn qx2
        have ux2 := ux1.trans qx2
        clear qx2 ux1
        go_wp2_with fail
        refine (HHU.out _ _ _ _ _ HD6.out HU1.out ru).mono ?_
        rintro e x3 ⟨rfl, qx3⟩
        replace ra := ra.dn qx3
        replace rb := rb.dn qx3
        replace ru := ru.dn qx3
        replace rc := rc.dn qx3
        replace rv := rv.dn qx3
        replace rn := rn.dn qx3
        have ux3 := ux2.trans qx3
        clear qx3 ux2
        go_wp2_with fail
        refine (HHC.out _ _ _ _ _ HD6.out HC1.out rc).mono ?_
        rintro e x4 ⟨rfl, qx4⟩
        replace ra := ra.dn qx4
        replace rb := rb.dn qx4
        replace ru := ru.dn qx4
        replace rc := rc.dn qx4
        replace rv := rv.dn qx4
        replace rn := rn.dn qx4
        have ux4 := ux3.trans qx4
        clear qx4 ux3
        go_wp2_with fail
        refine (HHV.out _ _ _ _ _ HD6.out HV1.out rv).mono ?_
        rintro e x5 ⟨rfl, qx5⟩
        replace ra := ra.dn qx5
        replace rb := rb.dn qx5
        replace ru := ru.dn qx5
        replace rc := rc.dn qx5
        replace rv := rv.dn qx5
        replace rn := rn.dn qx5
        have ux5 := ux4.trans qx5
        clear qx5 ux4
        go_wp2_with fail
        refine (HHN.out _ _ _ _ _ HD6.out HN1.out rn).mono ?_
        rintro e x6 ⟨rfl, qx6⟩
        replace ra := ra.dn qx6
        replace rb := rb.dn qx6
        replace ru := ru.dn qx6
        replace rc := rc.dn qx6
        replace rv := rv.dn qx6
        replace rn := rn.dn qx6
        have ux6 := ux5.trans qx6
        clear qx6 ux5
        go_wp2_with fail
        go_roundw
        case rel => exact ⟨k + 1, by have := HLT.out; omega, rfl, by rw [HDD.out, HCD.out], by rw [HOO.out, HOK.out], ux6⟩
        case measure => have := HHY.out; have := HLT.out; simp [intOf]; omega
      ·
        subst ho
        have HU1 := Lib.hid (show (memB A yy || memB B yy) = true by rw [hp, hq]; rfl)
        have HC1 := Lib.hid (show (memB A yy && memB B yy) = true by rw [hp, hq]; rfl)
        have HV1 := Lib.hid (show (memB A yy && !memB B yy) = false by rw [hp, hq]; rfl)
        have HN1 := Lib.hid (show (!memB A yy) = false by rw [hp]; rfl)
        have HP := Lib.hid hp
        have HQ := Lib.hid hq
        have HD6 := Lib.hid hd6
        rw [hp] at hcd
        rw [HV1.out] at hok
        simp only [Bool.true_or, Bool.or_true, Bool.or_false, Bool.false_or, Bool.false_eq_true, if_true, if_false, Int.add_zero] at hcd hok
        have HCD := Lib.hid hcd
        have HOK := Lib.hid hok
        clear hp hq hcd hok hd6
        go_wp2_with fail
        refine (HHA.out _ _ _ _ _ HD6.out HP.out ra).mono ?_
        rintro e x1 ⟨rfl, qx1⟩
        replace ra := ra.dn qx1
        replace rb := rb.dn qx1
        replace ru := ru.dn qx1
        replace rc := rc.dn qx1
        replace rv := rv.dn qx1
        replace rn := rn.dn qx1
        have ux1 := hu.trans qx1
        clear qx1 hu
        go_wp2_with fail
        refine (HHB.out _ _ _ _ _ HD6.out HQ.out rb).mono ?_
        rintro e x2 ⟨rfl, qx2⟩
        replace ra := ra.dn qx2
        replace rb := rb.dn qx2
        replace ru := ru.dn qx2
        replace rc := rc.dn qx2
        replace rv := rv.dn qx2
        replace rn := rn.dn qx2
        have ux2 := ux1.trans qx2
        clear qx2 ux1
        go_wp2_with fail
        refine (HHU.out _ _ _ _ _ HD6.out HU1.out ru).mono ?_
        rintro e x3 ⟨rfl, qx3⟩
        replace ra := ra.dn qx3
        replace rb := rb.dn qx3
        replace ru := ru.dn qx3
        replace rc := rc.dn qx3
        replace rv := rv.dn qx3
        replace rn := rn.dn qx3
        have ux3 := ux2.trans qx3
        clear qx3 ux2
        go_wp2_with fail
        refine (HHC.out _ _ _ _ _ HD6.out HC1.out rc).mono ?_
        rintro e x4 ⟨rfl, qx4⟩
        replace ra := ra.dn qx4
        replace rb := rb.dn qx4
        replace ru := ru.dn qx4
        replace rc := rc.dn qx4
        replace rv := rv.dn qx4
        replace rn := rn.dn qx4
        have ux4 := ux3.trans qx4
        clear qx4 ux3
        go_wp2_with fail
        refine (HHV.out _ _ _ _ _ HD6.out HV1.out rv).mono ?_
        rintro e x5 ⟨rfl, qx5⟩
        replace ra := ra.dn qx5
        replace rb := rb.dn qx5
        replace ru := ru.dn qx5
        replace rc := rc.dn qx5
        replace rv := rv.dn qx5
        replace rn := rn.dn qx5
        have ux5 := ux4.trans qx5
        clear qx5 ux4
        go_wp2_with fail
        refine (HHN.out _ _ _ _ _ HD6.out HN1.out rn).mono ?_
        rintro e x6 ⟨rfl, qx6⟩
        replace ra := ra.dn qx6
        replace rb := rb.dn qx6
        replace ru := ru.dn qx6
        replace rc := rc.dn qx6
        replace rv := rv.dn qx6
        replace rn := rn.dn qx6
        have ux6 := ux5.trans qx6
        clear qx6 ux5
        go_wp2_with fail
        go_roundw
        case rel => exact ⟨k + 1, by have := HLT.out; omega, rfl, by rw [HDD.out, HCD.out], by rw [HOO.out, HOK.out], ux6⟩
        case measure => have := HHY.out; have := HLT.out; simp [intOf]; omega
      ·
        subst ho
        have HU1 := Lib.hid (show (memB A yy || memB B yy) = true by rw [hp, hq]; rfl)
        have HC1 := Lib.hid (show (memB A yy && memB B yy) = false by rw [hp, hq]; rfl)
        have HV1 := Lib.hid (show (memB A yy && !memB B yy) = true by rw [hp, hq]; rfl)
        have HN1 := Lib.hid (show (!memB A yy) = false by rw [hp]; rfl)
        have HP := Lib.hid hp
        have HQ := Lib.hid hq
        have HD6 := Lib.hid hd6
        rw [hp] at hcd
        rw [HV1.out] at hok
        simp only [Bool.true_or, Bool.or_true, Bool.or_false, Bool.false_or, Bool.false_eq_true, if_true, if_false, Int.add_zero] at hcd hok
        have HCD := Lib.hid hcd
        have HOK := Lib.hid hok
        clear hp hq hcd hok hd6
        go_wp2_with fail
        refine (HHA.out _ _ _ _ _ HD6.out HP.out ra).mono ?_
        rintro e x1 ⟨rfl, qx1⟩
        replace ra := ra.dn qx1
        replace rb := rb.dn qx1
        replace ru := ru.dn qx1
        replace rc := rc.dn qx1
        replace rv := rv.dn qx1
        replace rn := rn.dn qx1
        have ux1 := hu.trans qx1
        clear qx1 hu
        go_wp2_with fail
        refine (HHB.out _ _ _ _ _ HD6.out HQ.out rb).mono ?_
        rintro e x2 ⟨rfl, qx2⟩
        replace ra := ra.dn qx2
        replace rb := rb.dn qx2
        replace ru := ru.dn qx2
        replace rc := rc.dn qx2
        replace rv := rv.dn qx2
        replace rn := rn.dn qx2
        have ux2 := ux1.trans qx2
        clear qx2 ux1
        go_wp2_with fail
        refine (HHU.out _ _ _ _ _ HD6.out HU1.out ru).mono ?_
        rintro e x3 ⟨rfl, qx3⟩
        replace ra := ra.dn qx3
        replace rb := rb.dn qx3
        replace ru := ru.dn qx3
        replace rc := rc.dn qx3
        replace rv := rv.dn qx3
        replace rn := rn.dn qx3
        have ux3 := ux2.trans qx3
        clear qx3 ux2
        go_wp2_with fail
        refine (HHC.out _ _ _ _ _ HD6.out HC1.out rc).mono ?_
        rintro e x4 ⟨rfl, qx4⟩
        replace ra := ra.dn qx4
        replace rb := rb.dn qx4
        replace ru := ru.dn qx4
        replace rc := rc.dn qx4
        replace rv := rv.dn qx4
        replace rn := rn.dn qx4
        have ux4 := ux3.trans qx4
        clear qx4 ux3
        go_wp2_with fail
        refine (HHV.out _ _ _ _ _ HD6.out HV1.out rv).mono ?_
        rintro e x5 ⟨rfl, qx5⟩
        replace ra := ra.dn qx5
        replace rb := rb.dn qx5
        replace ru := ru.dn qx5
        replace rc := rc.dn qx5
        replace rv := rv.dn qx5
        replace rn := rn.dn qx5
        have ux5 := ux4.trans qx5
        clear qx5 ux4
        go_wp2_with fail
        refine (HHN.out _ _ _ _ _ HD6.out HN1.out rn).mono ?_
        rintro e x6 ⟨rfl, qx6⟩
        replace ra := ra.dn qx6
        replace rb := rb.dn qx6
        replace ru := ru.dn qx6
        replace rc := rc.dn qx6
        replace rv := rv.dn qx6
        replace rn := rn.dn qx6
        have ux6 := ux5.trans qx6
        clear qx6 ux5
        go_wp2_with fail
        go_roundw
        case rel => exact ⟨k + 1, by have := HLT.out; omega, rfl, by rw [HDD.out, HCD.out], by rw [HOO.out, HOK.out], ux6⟩
        case measure => have := HHY.out; have := HLT.out; simp [intOf]; omega
      ·
        subst ho
        have HU1 := Lib.hid (show (memB A yy || memB B yy) = true by rw [hp, hq]; rfl)
        have HC1 := Lib.hid (show (memB A yy && memB B yy) = false by rw [hp, hq]; rfl)
        have HV1 := Lib.hid (show (memB A yy && !memB B yy) = true by rw [hp, hq]; rfl)
        have HN1 := Lib.hid (show (!memB A yy) = false by rw [hp]; rfl)
        have HP := Lib.hid hp
        have HQ := Lib.hid hq
        have HD6 := Lib.hid hd6
        rw [hp] at hcd
        rw [HV1.out] at hok
        simp only [Bool.true_or, Bool.or_true, Bool.or_false, Bool.false_or, Bool.false_eq_true, if_true, if_false, Int.add_zero] at hcd hok
        have HCD := Lib.hid hcd
        have HOK := Lib.hid hok
        clear hp hq hcd hok hd6
        go_wp2_with fail
        refine (HHA.out _ _ _ _ _ HD6.out HP.out ra).mono ?_
        rintro e x1 ⟨rfl, qx1⟩
        replace ra := ra.dn qx1
        replace rb := rb.dn qx1
        replace ru := ru.dn qx1
        replace rc := rc.dn qx1
        replace rv := rv.dn qx1
        replace rn := rn.dn qx1
        have ux1 := hu.trans qx1
        clear qx1 hu
        go_wp2_with fail
        refine (HHB.out _ _ _ _ _ HD6.out HQ.out rb).mono ?_
        rintro e x2 ⟨rfl, qx2⟩
        replace ra := ra.dn qx2
        replace rb := rb.dn qx2
        replace ru := ru.dn qx2
        replace rc := rc.dn qx2
        replace rv := rv.dn qx2
        replace rn := rn.dn qx2
        have ux2 := ux1.trans qx2
        clear qx2 ux1
        go_wp2_with fail
        refine (HHU.out _ _ _ _ _ HD6.out HU1.out ru).mono ?_
        rintro e x3 ⟨rfl, qx3⟩
        replace ra := ra.dn qx3
        replace rb := rb.dn qx3
        replace ru := ru.dn qx3
        replace rc := rc.dn qx3
        replace rv := rv.dn qx3
        replace rn := rn.dn qx3
        have ux3 := ux2.trans qx3
        clear qx3 ux2
        go_wp2_with fail
        refine (HHC.out _ _ _ _ _ HD6.out HC1.out rc).mono ?_
        rintro e x4 ⟨rfl, qx4⟩
        replace ra := ra.dn qx4
        replace rb := rb.dn qx4
        replace ru := ru.dn qx4
        replace rc := rc.dn qx4
        replace rv := rv.dn qx4
        replace rn := rn.dn qx4
        have ux4 := ux3.trans qx4
        clear qx4 ux3
        go_wp2_with fail
        refine (HHV.out _ _ _ _ _ HD6.out HV1.out rv).mono ?_
        rintro e x5 ⟨rfl, qx5⟩
        replace ra := ra.dn qx5
        replace rb := rb.dn qx5
        replace ru := ru.dn qx5
        replace rc := rc.dn qx5
        replace rv := rv.dn qx5
        replace rn := rn.dn qx5
        have ux5 := ux4.trans qx5
        clear qx5 ux4
        go_wp2_with fail
        refine (HHN.out _ _ _ _ _ HD6.out HN1.out rn).mono ?_
        rintro e x6 ⟨rfl, qx6⟩
        replace ra := ra.dn qx6
        replace rb := rb.dn qx6
        replace ru := ru.dn qx6
        replace rc := rc.dn qx6
        replace rv := rv.dn qx6
        replace rn := rn.dn qx6
        have ux6 := ux5.trans qx6
        clear qx6 ux5
        go_wp2_with fail
        go_roundw
        case rel => exact ⟨k + 1, by have := HLT.out; omega, rfl, by rw [HDD.out, HCD.out], by rw [HOO.out, HOK.out], ux6⟩
        case measure => have := HHY.out; have := HLT.out; simp [intOf]; omega
      ·
        subst ho
        have HU1 := Lib.hid (show (memB A yy || memB B yy) = true by rw [hp, hq]; rfl)
        have HC1 := Lib.hid (show (memB A yy && memB B yy) = false by rw [hp, hq]; rfl)
        have HV1 := Lib.hid (show (memB A yy && !memB B yy) = false by rw [hp, hq]; rfl)
        have HN1 := Lib.hid (show (!memB A yy) = true by rw [hp]; rfl)
        have HP := Lib.hid hp
        have HQ := Lib.hid hq
        have HD6 := Lib.hid hd6
        rw [hp] at hcd
        rw [HV1.out] at hok
        simp only [Bool.true_or, Bool.or_true, Bool.or_false, Bool.false_or, Bool.false_eq_true, if_true, if_false, Int.add_zero] at hcd hok
        have HCD := Lib.hid hcd
        have HOK := Lib.hid hok
        clear hp hq hcd hok hd6
        go_wp2_with fail
        refine (HHA.out _ _ _ _ _ HD6.out HP.out ra).mono ?_
        rintro e x1 ⟨rfl, qx1⟩
        replace ra := ra.dn qx1
        replace rb := rb.dn qx1
        replace ru := ru.dn qx1
        replace rc := rc.dn qx1
        replace rv := rv.dn qx1
        replace rn := rn.dn qx1
        have ux1 := hu.trans qx1
        clear qx1 hu
        go_wp2_with fail
        refine (HHB.out _ _ _ _ _ HD6.out HQ.out rb).mono ?_
        rintro e x2 ⟨rfl, qx2⟩
        replace ra := ra.dn qx2
        replace rb := rb.dn qx2
        replace ru := ru.dn qx2
        replace rc := rc.dn qx2
        replace rv := rv.dn qx2
        replace rn := rn.dn qx2
        have ux2 := ux1.trans qx2
        clear qx2 ux1
        go_wp2_with fail
        refine (HHU.out _ _ _ _ _ HD6.out HU1.out ru).mono ?_
        rintro e x3 ⟨rfl, qx3⟩
        replace ra := ra.dn qx3
        replace rb := rb.dn qx3
        replace ru := ru.dn qx3
        replace rc := rc.dn qx3
        replace rv := rv.dn qx3
        replace rn := rn.dn qx3
        have ux3 := ux2.trans qx3
        clear qx3 ux2
        go_wp2_with fail
        refine (HHC.out _ _ _ _ _ HD6.out HC1.out rc).mono ?_
        rintro e x4 ⟨rfl, qx4⟩
        replace ra := ra.dn qx4
        replace rb := rb.dn qx4
        replace ru := ru.dn qx4
        replace rc := rc.dn qx4
        replace rv := rv.dn qx4
        replace rn := rn.dn qx4
        have ux4 := ux3.trans qx4
        clear qx4 ux3
        go_wp2_with fail
        refine (HHV.out _ _ _ _ _ HD6.out HV1.out rv).mono ?_
        rintro e x5 ⟨rfl, qx5⟩
        replace ra := ra.dn qx5
        replace rb := rb.dn qx5
        replace ru := ru.dn qx5
        replace rc := rc.dn qx5
        replace rv := rv.dn qx5
        replace rn := rn.dn qx5
        have ux5 := ux4.trans qx5
        clear qx5 ux4
        go_wp2_with fail
        refine (HHN.out _ _ _ _ _ HD6.out HN1.out rn).mono ?_
        rintro e x6 ⟨rfl, qx6⟩
        replace ra := ra.dn qx6
        replace rb := rb.dn qx6
        replace ru := ru.dn qx6
        replace rc := rc.dn qx6
        replace rv := rv.dn qx6
        replace rn := rn.dn qx6
        have ux6 := ux5.trans qx6
        clear qx6 ux5
        go_wp2_with fail
        go_roundw
        case rel => exact ⟨k + 1, by have := HLT.out; omega, rfl, by rw [HDD.out, HCD.out], by rw [HOO.out, HOK.out], ux6⟩
        case measure => have := HHY.out; have := HLT.out; simp [intOf]; omega
      ·
        subst ho
        have HU1 := Lib.hid (show (memB A yy || memB B yy) = true by rw [hp, hq]; rfl)
        have HC1 := Lib.hid (show (memB A yy && memB B yy) = false by rw [hp, hq]; rfl)
        have HV1 := Lib.hid (show (memB A yy && !memB B yy) = false by rw [hp, hq]; rfl)
        have HN1 := Lib.hid (show (!memB A yy) = true by rw [hp]; rfl)
        have HP := Lib.hid hp
        have HQ := Lib.hid hq
        have HD6 := Lib.hid hd6
        rw [hp] at hcd
        rw [HV1.out] at hok
        simp only [Bool.true_or, Bool.or_true, Bool.or_false, Bool.false_or, Bool.false_eq_true, if_true, if_false, Int.add_zero] at hcd hok
        have HCD := Lib.hid hcd
        have HOK := Lib.hid hok
        clear hp hq hcd hok hd6
        go_wp2_with fail
        refine (HHA.out _ _ _ _ _ HD6.out HP.out ra).mono ?_
        rintro e x1 ⟨rfl, qx1⟩
        replace ra := ra.dn qx1
        replace rb := rb.dn qx1
        replace ru := ru.dn qx1
        replace rc := rc.dn qx1
        replace rv := rv.dn qx1
        replace rn := rn.dn qx1
        have ux1 := hu.trans qx1
        clear qx1 hu
        go_wp2_with fail
        refine (HHB.out _ _ _ _ _ HD6.out HQ.out rb).mono ?_
        rintro e x2 ⟨rfl, qx2⟩
        replace ra := ra.dn qx2
        replace rb := rb.dn qx2
        replace ru := ru.dn qx2
        replace rc := rc.dn qx2
        replace rv := rv.dn qx2
        replace rn := rn.dn qx2
        have ux2 := ux1.trans qx2
        clear qx2 ux1
        go_wp2_with fail
        refine (HHU.out _ _ _ _ _ HD6.out HU1.out ru).mono ?_
        rintro e x3 ⟨rfl, qx3⟩
        replace ra := ra.dn qx3
        replace rb := rb.dn qx3
        replace ru := ru.dn qx3
        replace rc := rc.dn qx3
        replace rv := rv.dn qx3
        replace rn := rn.dn qx3
        have ux3 := ux2.trans qx3
        clear qx3 ux2
        go_wp2_with fail
        refine (HHC.out _ _ _ _ _ HD6.out HC1.out rc).mono ?_
        rintro e x4 ⟨rfl, qx4⟩
        replace ra := ra.dn qx4
        replace rb := rb.dn qx4
        replace ru := ru.dn qx4
        replace rc := rc.dn qx4
        replace rv := rv.dn qx4
        replace rn := rn.dn qx4
        have ux4 := ux3.trans qx4
        clear qx4 ux3
        go_wp2_with fail
        refine (HHV.out _ _ _ _ _ HD6.out HV1.out rv).mono ?_
        rintro e x5 ⟨rfl, qx5⟩
        replace ra := ra.dn qx5
        replace rb := rb.dn qx5
        replace ru := ru.dn qx5
        replace rc := rc.dn qx5
        replace rv := rv.dn qx5
        replace rn := rn.dn qx5
        have ux5 := ux4.trans qx5
        clear qx5 ux4
        go_wp2_with fail
        refine (HHN.out _ _ _ _ _ HD6.out HN1.out rn).mono ?_
        rintro e x6 ⟨rfl, qx6⟩
        replace ra := ra.dn qx6
        replace rb := rb.dn qx6
        replace ru := ru.dn qx6
        replace rc := rc.dn qx6
        replace rv := rv.dn qx6
        replace rn := rn.dn qx6
        have ux6 := ux5.trans qx6
        clear qx6 ux5
        go_wp2_with fail
        go_roundw
        case rel => exact ⟨k + 1, by have := HLT.out; omega, rfl, by rw [HDD.out, HCD.out], by rw [HOO.out, HOK.out], ux6⟩
        case measure => have := HHY.out; have := HLT.out; simp [intOf]; omega
      ·
        subst ho
        have HU1 := Lib.hid (show (memB A yy || memB B yy) = false by rw [hp, hq]; rfl)
        have HC1 := Lib.hid (show (memB A yy && memB B yy) = false by rw [hp, hq]; rfl)
        have HV1 := Lib.hid (show (memB A yy && !memB B yy) = false by rw [hp, hq]; rfl)
        have HN1 := Lib.hid (show (!memB A yy) = true by rw [hp]; rfl)
        have HP := Lib.hid hp
        have HQ := Lib.hid hq
        have HD6 := Lib.hid hd6
        rw [hp] at hcd
        rw [HV1.out] at hok
        simp only [Bool.true_or, Bool.or_true, Bool.or_false, Bool.false_or, Bool.false_eq_true, if_true, if_false, Int.add_zero] at hcd hok
        have HCD := Lib.hid hcd
        have HOK := Lib.hid hok
        clear hp hq hcd hok hd6
        go_wp2_with fail
        refine (HHA.out _ _ _ _ _ HD6.out HP.out ra).mono ?_
        rintro e x1 ⟨rfl, qx1⟩
        replace ra := ra.dn qx1
        replace rb := rb.dn qx1
        replace ru := ru.dn qx1
        replace rc := rc.dn qx1
        replace rv := rv.dn qx1
        replace rn := rn.dn qx1
        have ux1 := hu.trans qx1
        clear qx1 hu
        go_wp2_with fail
        refine (HHB.out _ _ _ _ _ HD6.out HQ.out rb).mono ?_
        rintro e x2 ⟨rfl, qx2⟩
        replace ra := ra.dn qx2
        replace rb := rb.dn qx2
        replace ru := ru.dn qx2
        replace rc := rc.dn qx2
        replace rv := rv.dn qx2
        replace rn := rn.dn qx2
        have ux2 := ux1.trans qx2
        clear qx2 ux1
        go_wp2_with fail
        refine (HHU.out _ _ _ _ _ HD6.out HU1.out ru).mono ?_
        rintro e x3 ⟨rfl, qx3⟩
        replace ra := ra.dn qx3
        replace rb := rb.dn qx3
        replace ru := ru.dn qx3
        replace rc := rc.dn qx3
        replace rv := rv.dn qx3
        replace rn := rn.dn qx3
        have ux3 := ux2.trans qx3
        clear qx3 ux2
        go_wp2_with fail
        refine (HHC.out _ _ _ _ _ HD6.out HC1.out rc).mono ?_
        rintro e x4 ⟨rfl, qx4⟩
        replace ra := ra.dn qx4
        replace rb := rb.dn qx4
        replace ru := ru.dn qx4
        replace rc := rc.dn qx4
        replace rv := rv.dn qx4
        replace rn := rn.dn qx4
        have ux4 := ux3.trans qx4
        clear qx4 ux3
        go_wp2_with fail
        refine (HHV.out _ _ _ _ _ HD6.out HV1.out rv).mono ?_
        rintro e x5 ⟨rfl, qx5⟩
        replace ra := ra.dn qx5
        replace rb := rb.dn qx5
        replace ru := ru.dn qx5
        replace rc := rc.dn qx5
        replace rv := rv.dn qx5
        replace rn := rn.dn qx5
        have ux5 := ux4.trans qx5
        clear qx5 ux4
        go_wp2_with fail
        refine (HHN.out _ _ _ _ _ HD6.out HN1.out rn).mono ?_
        rintro e x6 ⟨rfl, qx6⟩
        replace ra := ra.dn qx6
        replace rb := rb.dn qx6
        replace ru := ru.dn qx6
        replace rc := rc.dn qx6
        replace rv := rv.dn qx6
        replace rn := rn.dn qx6
        have ux6 := ux5.trans qx6
        clear qx6 ux5
        go_wp2_with fail
        go_roundw
        case rel => exact ⟨k + 1, by have := HLT.out; omega, rfl, by rw [HDD.out, HCD.out], by rw [HOO.out, HOK.out], ux6⟩
        case measure => have := HHY.out; have := HLT.out; simp [intOf]; omega
      ·
        subst ho
        have HU1 := Lib.hid (show (memB A yy || memB B yy) = false by rw [hp, hq]; rfl)
        have HC1 := Lib.hid (show (memB A yy && memB B yy) = false by rw [hp, hq]; rfl)
        have HV1 := Lib.hid (show (memB A yy && !memB B yy) = false by rw [hp, hq]; rfl)
        have HN1 := Lib.hid (show (!memB A yy) = true by rw [hp]; rfl)
        have HP := Lib.hid hp
        have HQ := Lib.hid hq
        have HD6 := Lib.hid hd6
        rw [hp] at hcd
        rw [HV1.out] at hok
        simp only [Bool.true_or, Bool.or_true, Bool.or_false, Bool.false_or, Bool.false_eq_true, if_true, if_false, Int.add_zero] at hcd hok
        have HCD := Lib.hid hcd
        have HOK := Lib.hid hok
        clear hp hq hcd hok hd6
        go_wp2_with fail
        refine (HHA.out _ _ _ _ _ HD6.out HP.out ra).mono ?_
        rintro e x1 ⟨rfl, qx1⟩
        replace ra := ra.dn qx1
        replace rb := rb.dn qx1
        replace ru := ru.dn qx1
        replace rc := rc.dn qx1
        replace rv := rv.dn qx1
        replace rn := rn.dn qx1
        have ux1 := hu.trans qx1
        clear qx1 hu
        go_wp2_with fail
        refine (HHB.out _ _ _ _ _ HD6.out HQ.out rb).mono ?_
        rintro e x2 ⟨rfl, qx2⟩
        replace ra := ra.dn qx2
        replace rb := rb.dn qx2
        replace ru := ru.dn qx2
        replace rc := rc.dn qx2
        replace rv := rv.dn qx2
        replace rn := rn.dn qx2
        have ux2 := ux1.trans qx2
        clear qx2 ux1
        go_wp2_with fail
        refine (HHU.out _ _ _ _ _ HD6.out HU1.out ru).mono ?_
        rintro e x3 ⟨rfl, qx3⟩
        replace ra := ra.dn qx3
        replace rb := rb.dn qx3
        replace ru := ru.dn qx3
        replace rc := rc.dn qx3
        replace rv := rv.dn qx3
        replace rn := rn.dn qx3
        have ux3 := ux2.trans qx3
        clear qx3 ux2
        go_wp2_with fail
        refine (HHC.out _ _ _ _ _ HD6.out HC1.out rc).mono ?_
        rintro e x4 ⟨rfl, qx4⟩
        replace ra := ra.dn qx4
        replace rb := rb.dn qx4
        replace ru := ru.dn qx4
        replace rc := rc.dn qx4
        replace rv := rv.dn qx4
        replace rn := rn.dn qx4
        have ux4 := ux3.trans qx4
        clear qx4 ux3
        go_wp2_with fail
        refine (HHV.out _ _ _ _ _ HD6.out HV1.out rv).mono ?_
        rintro e x5 ⟨rfl, qx5⟩
        replace ra := ra.dn qx5
        replace rb := rb.dn qx5
        replace ru := ru.dn qx5
        replace rc := rc.dn qx5
        replace rv := rv.dn qx5
        replace rn := rn.dn qx5
        have ux5 := ux4.trans qx5
        clear qx5 ux4
        go_wp2_with fail
        refine (HHN.out _ _ _ _ _ HD6.out HN1.out rn).mono ?_
        rintro e x6 ⟨rfl, qx6⟩
        replace ra := ra.dn qx6
        replace rb := rb.dn qx6
        replace ru := ru.dn qx6
        replace rc := rc.dn qx6
        replace rv := rv.dn qx6
        replace rn := rn.dn qx6
        have ux6 := ux5.trans qx6
        clear qx6 ux5
        go_wp2_with fail
        go_roundw
        case rel => exact ⟨k + 1, by have := HLT.out; omega, rfl, by rw [HDD.out, HCD.out], by rw [HOO.out, HOK.out], ux6⟩
        case measure => have := HHY.out; have := HLT.out; simp [intOf]; omega
    · obtain rfl : k = 321 := by omega
      have d1 : decide (-60 + ((321 : Nat) : Int) ≤ 260) = false := by decide
      have d2 : ¬ (-60 + ((321 : Nat) : Int) ≤ 260) := by decide
      clear hlt hk
      have ra := Hra.out.dn hu
      clear Hra Hrb Hru Hrc Hrv Hrn HHA HHB HHU HHC HHV HHN
      rw [← hio]
      have uu := HU0.out.trans hu
      clear hu
      have HK1 := Lib.hid (fun W (q : Rl W pa ca A) => HK.out W pa ca q.row)
      clear HK
      rcases hct with ⟨hA0, hn, he⟩ | ⟨x, z, m, hm, hx, hz, hh⟩
      ·
        subst hA0 hn he
        have q1 : (inn == inn) = true := by simp
        have q2 : (cD [] (-60) 321 == cD [] (-60) 321) = true := by simp
        generalize cD [] (-60) 321 = nn at *
        simp only [List.length_nil] at *
        go_wp2_with fail
        refine (HK1.out _ ra).mono ?_
        rintro e y1 ⟨rfl, qy1⟩
        replace ra := ra.dn qy1
        have uy1 := uu.trans qy1
        clear qy1 uu
        clear ra
        go_wp2_with fail
        refine (lives10 _ (hE.dn uy1)).mono ?_
        rintro e y2 ⟨rfl, qy2⟩
        have uy2 := uy1.trans qy2
        clear qy2 uy1
        go_wp2_with fail
        go_ret
        exact ⟨rfl, uy2⟩
      · obtain ⟨g, oo, rfl, _⟩ := ra.row.cs (by omega)
        have HEX := Lib.hid (fun W (q : Rl W (some ⟨g, oo, none⟩) ca A) => (q.row.cs (by omega)))
        have HX0 := Lib.hid hx
        have HZ0 := Lib.hid hz
        rw [hm] at HK1 ⊢
        have hcm : m + 1 ≤ ca := by have := ra.le; omega
        have hcx : ca ≤ 9223372036854775807 := ra.mx
        have d3 : decide ((m : Int) + 1 > 0) = true := by simp <;> omega
        have d4 : (0 : Int) < (m : Int) + 1 := by omega
        have d5 : (m : Int) < (m : Int) + 1 := by omega
        have d6 : IntKind.i64.wrap (m : Int) = m := IntWalk.i64_in _ (by omega)
        have q1 : (inn == inn) = true := by simp
        clear hx hz hm
        rcases hh with ⟨h1, he⟩ | ⟨h1, h2, he⟩ | ⟨h1, h2, hn, he⟩
        ·
         subst he
         have k1 : (x.a != 0) = true := by simpa using h1
         clear h1
         go_wp2_with fail
         refine (HK1.out _ ra).mono ?_
         rintro e y1 ⟨rfl, qy1⟩
         replace ra := ra.dn qy1
         have uy1 := uu.trans qy1
         clear qy1 uu
         obtain ⟨g', o', e, hcs⟩ := HEX.out _ ra
         injection e with e
         injection e with e1 e2
         subst e1 e2
         obtain ⟨x0, x1, x2, x3⟩ := hcs.el 0 x HX0.out
         obtain ⟨z0, z1, z2, z3⟩ := hcs.el m z HZ0.out
         have hgl := hcs.lt
         simp only [Nat.zero_mul, Nat.add_zero] at x0 x1 x2 x3
         clear hcs
         go_wp2_with fail
         clear ra x0 x1 x2 x3 z0 z1 z2 z3
         refine (lives10 _ (hE.dn uy1)).mono ?_
         rintro e y2 ⟨rfl, qy2⟩
         have uy2 := uy1.trans qy2
         clear qy2 uy1
         go_wp2_with fail
         go_ret
         exact ⟨rfl, uy2⟩
        ·
         subst he
         have k1 : (x.a != 0) = false := by simp [h1]
         have k2 : (z.c != 0) = true := by simpa using h2
         clear h2
         go_wp2_with fail
         refine (HK1.out _ ra).mono ?_
         rintro e y1 ⟨rfl, qy1⟩
         replace ra := ra.dn qy1
         have uy1 := uu.trans qy1
         clear qy1 uu
         obtain ⟨g', o', e, hcs⟩ := HEX.out _ ra
         injection e with e
         injection e with e1 e2
         subst e1 e2
         obtain ⟨x0, x1, x2, x3⟩ := hcs.el 0 x HX0.out
         obtain ⟨z0, z1, z2, z3⟩ := hcs.el m z HZ0.out
         have hgl := hcs.lt
         simp only [Nat.zero_mul, Nat.add_zero] at x0 x1 x2 x3
         clear hcs
         go_wp2_with fail
         clear ra x0 x1 x2 x3 z0 z1 z2 z3
         refine (lives10 _ (hE.dn uy1)).mono ?_
         rintro e y2 ⟨rfl, qy2⟩
         have uy2 := uy1.trans qy2
         clear qy2 uy1
         go_wp2_with fail
         go_ret
         exact ⟨rfl, uy2⟩
        ·
         subst hn he
         have k1 : (x.a != 0) = false := by simp [h1]
         have k2 : (z.c != 0) = false := by simp [h2]
         have q2 : (cD A (-60) 321 == cD A (-60) 321) = true := by simp
         clear h2
         generalize cD A (-60) 321 = nn at *
         go_wp2_with fail
         refine (HK1.out _ ra).mono ?_
         rintro e y1 ⟨rfl, qy1⟩
         replace ra := ra.dn qy1
         have uy1 := uu.trans qy1
         clear qy1 uu
         obtain ⟨g', o', e, hcs⟩ := HEX.out _ ra
         injection e with e
         injection e with e1 e2
         subst e1 e2
         obtain ⟨x0, x1, x2, x3⟩ := hcs.el 0 x HX0.out
         obtain ⟨z0, z1, z2, z3⟩ := hcs.el m z HZ0.out
         have hgl := hcs.lt
         simp only [Nat.zero_mul, Nat.add_zero] at x0 x1 x2 x3
         clear hcs
         go_wp2_with fail
         clear ra x0 x1 x2 x3 z0 z1 z2 z3
         refine (lives10 _ (hE.dn uy1)).mono ?_
         rintro e y2 ⟨rfl, qy2⟩
         have uy2 := uy1.trans qy2
         clear qy2 uy1
         go_wp2_with fail
         go_ret
         exact ⟨rfl, uy2⟩
theorem tmod40 (g : Int) : -40 < Int.tmod g 40 ∧ Int.tmod g 40 < 40 := by
 have h1 := Int.tmod_lt_of_pos g (show (0 : Int) < 40 by decide)
 have h2 := Int.tmod_lt_of_pos (-g) (show (0 : Int) < 40 by decide)
 rw [Int.neg_tmod] at h2
 omega
theorem memB_has {L : List Rq} (h : Sep L) (k : Int) : memB L k = decide (HasL L k) := by
 have h1 := memB_iff (l := L) (k := k)
 have h2 := hasL_iff h (k := k)
 cases hm : memB L k with
 | true => simp [h2.2 (h1.1 hm)]
 | false =>
   have : ¬ HasL L k := fun hh => by rw [h1.2 (h2.1 hh)] at hm; cases hm
   simp [this]
theorem runsetsPlain_true (gx : Int) (px : Option Addr) (cx : Nat) (X : List (Int × Int)) (ex : Int) (gy : Int) (py : Option Addr) (cy : Nat) (Y : List (Int × Int)) (ey : Int) (w : World) (hgx : -32768 ≤ gx ∧ gx ≤ 32767) (hX : Pl w px cx X ∧ B8 X) (hex : 0 ≤ ex ∧ ex ≤ 255) (hgy : -32768 ≤ gy ∧ gy ≤ 32767) (hY : Pl w py cy Y ∧ B8 Y) (hey : 0 ≤ ey ∧ ey ≤ 255) (hE : EnvR w) :
  Calls Tryz.prog 5 #[.agg #[.int .i16 gx, .slice px X.length cx, .int .u8 ex], .agg #[.int .i16 gy, .slice py Y.length cy, .int .u8 ey]] w fun ro w' => ro = .returned (.bool true) ∧ Dn w w' := by
 have hfx := tmod40 gx
 have hfy := tmod40 gy
 obtain ⟨fx, efx⟩ : ∃ fx, Int.tmod gx 40 = fx := ⟨_, rfl⟩
 obtain ⟨fy, efy⟩ : ∃ fy, Int.tmod gy 40 = fy := ⟨_, rfl⟩
 rw [efx] at hfx
 rw [efy] at hfy
 have lX : X.length ≤ 9223372036854775807 := Nat.le_trans hX.1.le hX.1.mx
 have lY : Y.length ≤ 9223372036854775807 := Nat.le_trans hY.1.le hY.1.mx
 obtain ⟨sA, mA⟩ := ofS_law X ex hfx
 obtain ⟨sB, mB⟩ := ofS_law Y ey hfy
 have lA := ofS_len fx X ex
 have lB := ofS_len fy Y ey
 have HX := Lib.hid (fun W (h : Pl W px cx X) => sOf10 fx px cx X ex W hfx h hX.2 hex lX)
 have HY := Lib.hid (fun W (h : Pl W py cy Y) => sOf10 fy py cy Y ey W hfy h hY.2 hey lY)
 generalize ofS fx X ex = A at *
 generalize ofS fy Y ey = B at *
 have iA := i6_sep sA
 have iB := i6_sep sB
 have cA : chkL A = 0 := chk_of iA sA (by omega)
 have cB : chkL B = 0 := chk_of iB sB (by omega)
 have hb : bothL A B = 0 := by unfold bothL; rw [cA, cB]; rfl
 have eU := union_same sA sB
 have eC := common_eq sA sB
 have eV := without_eq sA sB
 have lU := un_len A B
 have lC := cm_len sA sB
 have lV := wo_len sA sB
 have sU := sep_union sA sB
 have sC := sep_common sA sB
 have sV := sep_without sA sB
 have sN := (cpl_law sA).1
 have lN := cplL_len A
 have hUd := fun k => has_union sA sB k
 have hCd := fun k => has_common sA sB k
 have hVd := fun k (hk : I64 k) => has_without sA sB hk
 have hNd := fun k (hk : I64 k) => has_cpl sA hk
 have e2 := small_cpl2 sA mA
 have HU := Lib.hid (fun W p1 c1 p2 c2 (r1 : Rl W p1 c1 A) (r2 : Rl W p2 c2 B) => rsUnionS p1 c1 A p2 c2 B 0 (B.foldl putL A) W (by rw [eU]; exact (fin_zero hb (by omega)).symm) (by rw [eU]; exact (res_ok (fin_zero hb (by omega))).symm) r1.nl r2.nl (by omega) iA r1.row (by omega) iB r2.row)
 have HC := Lib.hid (fun W p1 c1 p2 c2 (r1 : Rl W p1 c1 A) (r2 : Rl W p2 c2 B) => rsCommonS p1 c1 A p2 c2 B 0 (cmL A B) W (by rw [eC]; exact (fin_zero hb (by omega)).symm) (by rw [eC]; exact (res_ok (fin_zero hb (by omega))).symm) r1.le r1.mx r2.le r2.mx (by omega) iA r1.row (by omega) iB r2.row)
 have HV := Lib.hid (fun W p1 c1 p2 c2 (r1 : Rl W p1 c1 A) (r2 : Rl W p2 c2 B) => rsWithoutS p1 c1 A p2 c2 B 0 (woL A B) W (by rw [eV]; exact (fin_zero hb (by omega)).symm) (by rw [eV]; exact (res_ok (fin_zero hb (by omega))).symm) r1.le r1.mx r2.le r2.mx (by omega) iA r1.row (by omega) iB r2.row)
 have HN := Lib.hid (fun W p1 c1 (r1 : Rl W p1 c1 A) => rsComplementS p1 c1 A 0 (cplL A) W (fin_zero cA (by omega)).symm (res_ok (fin_zero cA (by omega))).symm (by omega) iA r1.row)
 have iN := i6_sep sN
 have cN : chkL (cplL A) = 0 := chk_of iN sN (by omega)
 have HA := Lib.hid (fun W p1 c1 (r1 : Row W p1 (cplL A)) => rsComplementS p1 c1 (cplL A) 0 A W (by rw [e2]; exact (fin_zero cN (by omega)).symm) (by rw [e2]; exact (res_ok (fin_zero cN (by omega))).symm) (by omega) iN r1)
 have HI := Lib.hid (fun W p1 c1 p2 c2 (r1 : Rl W p1 c1 A) (r2 : Rl W p2 c2 B) => rsWithinS p1 c1 A p2 c2 B 0 (wtn A B) W hb.symm (by rw [if_pos rfl]) r2.le r2.mx (by omega) iA r1.row (by omega) iB r2.row)
 have HS := Lib.hid (fun W p1 c1 p2 c2 (r1 : Row W p1 A) (r2 : Row W p2 A) => rfSame p1 c1 A p2 c2 A true W (by simp) (by omega) (by omega) r1 r2)
 have HHA := Lib.hid (fun W p1 c1 day (r : Bool) (hd : I64 day) (h : memB A day = r) (q : Row W p1 A) => rsHasS p1 c1 A day r W hd (by rw [← h, memB_has sA]) (by omega) iA q)
 have HHB := Lib.hid (fun W p1 c1 day (r : Bool) (hd : I64 day) (h : memB B day = r) (q : Row W p1 B) => rsHasS p1 c1 B day r W hd (by rw [← h, memB_has sB]) (by omega) iB q)
 have HHU := Lib.hid (fun W p1 c1 day (r : Bool) (hd : I64 day) (h : (memB A day || memB B day) = r) (q : Row W p1 (B.foldl putL A)) => rsHasS p1 c1 (B.foldl putL A) day r W hd (by rw [← h, memB_has sA, memB_has sB, hUd]) (by omega) (i6_sep sU) q)
 have HHC := Lib.hid (fun W p1 c1 day (r : Bool) (hd : I64 day) (h : (memB A day && memB B day) = r) (q : Row W p1 (cmL A B)) => rsHasS p1 c1 (cmL A B) day r W hd (by rw [← h, memB_has sA, memB_has sB, hCd]) (by omega) (i6_sep sC) q)
 have HHV := Lib.hid (fun W p1 c1 day (r : Bool) (hd : I64 day) (h : (memB A day && !memB B day) = r) (q : Row W p1 (woL A B)) => rsHasS p1 c1 (woL A B) day r W hd (by rw [← h, memB_has sA, memB_has sB, hVd day hd]) (by omega) (i6_sep sV) q)
 have HHN := Lib.hid (fun W p1 c1 day (r : Bool) (hd : I64 day) (h : (!memB A day) = r) (q : Row W p1 (cplL A)) => rsHasS p1 c1 (cplL A) day r W hd (by rw [← h, memB_has sA, hNd day hd]) (by omega) iN q)
 have HK := Lib.hid (fun W p1 c1 (q : Row W p1 A) => rsCount p1 c1 A (cntL A).1 (cntL A).2 W rfl rfl (by omega) iA q)
 exact plain_walk gx gy fx fy ex ey px py cx cy X Y A B (B.foldl putL A) (cmL A B) (woL A B) (cplL A) (wtn A B) (cntL A).1 (cntL A).2 w efx efy hgx hgy hX.1 hY.1 HX HY HU HC HV HN HA HI HS HHA HHB HHU HHC HHV HHN HK (by rw [within_same sA sB, out_law sA sB mA mB]) (count_law sA mA (by omega)) hE
open Go.ChangeShapes Go.WideShapes Go.ChangeAt Go.RowKit
theorem gTab : Tryz.prog.globalNamed "internal/strconv.uint64pow10" = some 5 := by kernel_rfl
theorem tTab : (Tryz.prog.globals[5]?).map (·.type) = some 230 := by kernel_rfl
theorem gErr : Tryz.prog.globalNamed "strconv.ErrRange" = some 4 := by kernel_rfl
theorem tErr : (Tryz.prog.globals[4]?).map (·.type) = some 153 := by kernel_rfl
theorem cU64 : Tryz.prog.cellsOf 172 = 1 := by kernel_rfl
theorem cTab : Tryz.prog.cellsOf 230 = 20 := by kernel_rfl
theorem iface_cells {P : Program} {W : World} {t : TypeId} {ms : Array (String × TypeId)} {sp : Nat → Bool} {fuel : Nat} {cs : List Value} {nm : String} {d : DataW Unit} {pl : List MemPlace}
   (ht : P.underlying t = some (.interface ms)) (h : DataW.trod (fun _ => ()) P W 0 sp false fuel t cs = some (.iface nm d, pl)) : ∃ u v, cs = [.iface u v] := by
 cases fuel with
 | zero => simp [DataW.trod] at h
 | succ fuel =>
   unfold DataW.trod at h
   rw [ht] at h
   split at h <;> simp_all
end Go.Proofs.YtoghoddjkdoohaaGreatDoor
