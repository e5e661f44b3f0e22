/-
  WALKS OF circalaw01: IntsDivs returns true. (Printed by wip/gen/law1e.py.)
-/
import Derived.Test.YtnibmofbalgobaaDoorLawOneE0
namespace Go.Proofs.YtnibmofbalgobaaDoor
open Go.RowKit
set_option linter.unusedVariables false
set_option maxHeartbeats 4000000 in
set_option maxRecDepth 100000 in
theorem idivs_pmtl (a b c q m p : Int) (hb0 : 0 < b) (hq : I64 q) (hm : I64 m) (ha : I64 a) (hb : I64 b) (hlm : 0 ≤ m ∧ m < b) (h0 : ¬ (a = -9223372036854775808 ∧ b = -1)) (he : q * b + m = a) (H1 : Hid (DivIs a b q 0)) (H2 : Hid (∀ W, Calls Tryd.prog 30 #[.int .i64 a, .int .i64 b] W fun e w' => e = .returned (.tuple #[.int .i64 m, .int .i64 0]) ∧ W = w')) (H3 : Hid (DivIs c b p 0)) (hmz : m ≠ 0) (hk : a = -9223372036854775808) (hc : a < c) (hqp : q ≤ p) (w : World) (hE : EnvI w) :
    Calls Tryd.prog 4 #[.int .i64 a, .int .i64 b, .int .i64 c] w fun e w' => e = .returned (.bool true) ∧ Dn w w' := by
  have b0 : (b == 0) = false := by simp; omega
  have LQ : Len q := Len.of (by have := hq.1; have := hq.2; omega)
  have LB : Len b := Len.of (by have := hb.1; have := hb.2; omega)
  have LM : Len m := Len.of (by have := hm.1; have := hm.2; omega)
  have LA : Len a := Len.of (by have := ha.1; have := ha.2; omega)
  have LP : Len (q * b) := Len.of (mul_natAbs_le q b hq hb)
  have LS : Len (q * b + m) := by rw [he]; exact LA
  have HS := Lib.hid (show sgn (q * b + m - a) = 0 by rw [he]; simp [sgn])
  have HQ := Lib.hid hq
  have HM := Lib.hid hm
  have HA := Lib.hid ha
  have HB := Lib.hid hb
  have k1 : (a == -9223372036854775808) = true := by simpa using hk
  have k2 : (b == -1) = false := by simp; omega
  have s1 : decide (0 < b) = true := by simpa using hb0
  have s2 : decide (b < 0) = false := by simp; omega
  have s3 : decide (b ≤ m) = false := by simp; omega
  have s4 : decide (m < 0) = false := by simp; omega
  have c1 : decide (a ≤ c) = true := by simp; omega
  have c2 : decide (p < q) = false := by simp; omega
  have c3 : decide (c ≤ a) = false := by simp; omega
  clear hb0 h0 he hq ha hb hk hc hqp
  have m1 : (m != 0) = true := by simpa using hmz
  clear hlm hm hmz
  go_enter Tryd.func4, Tryd.ntmps4
  go_wp2_with fail
  refine (H1.out _).mono ?_
  rintro e w1 ⟨rfl, rfl⟩
  go_wp2_with fail
  refine (H2.out _).mono ?_
  rintro e w2 ⟨rfl, rfl⟩
  go_wp2_with fail
  refine (rOf_c q _ HQ.out).mono ?_
  rintro e x1 ⟨b1, p1, m1, c1, rfl, hx1, y1⟩
  go_wp2_with fail
  refine (rOf_c b _ HB.out).mono ?_
  rintro e x2 ⟨b2, p2, m2, c2, rfl, hx2, y2⟩
  go_wp2_with fail
  refine (rMul_c _ _ q b _ (hx1.dn y2) hx2 LQ LB).mono ?_
  rintro e x3 ⟨b3, p3, m3, c3, rfl, hx3, y3⟩
  go_wp2_with fail
  refine (rOf_c m _ HM.out).mono ?_
  rintro e x4 ⟨b4, p4, m4, c4, rfl, hx4, y4⟩
  go_wp2_with fail
  refine (rAdd_c _ _ (q * b) m _ (hx3.dn y4) hx4 LP LM).mono ?_
  rintro e x5 ⟨b5, p5, m5, c5, rfl, hx5, y5⟩
  go_wp2_with fail
  refine (rOf_c a _ HA.out).mono ?_
  rintro e x6 ⟨b6, p6, m6, c6, rfl, hx6, y6⟩
  go_wp2_with fail
  refine (rCmp_is _ _ (q * b + m) a 0 _ HS.out (hx5.dn y6) hx6 LS LA).mono ?_
  rintro e x7 ⟨rfl, y7⟩
  have u7 := (((((y1.trans y2).trans y3).trans y4).trans y5).trans y6).trans y7
  clear hx1 hx2 hx3 hx4 hx5 hx6 y1 y2 y3 y4 y5 y6 y7
  go_wp2_with fail
  refine (H3.out _).mono ?_
  rintro e w3 ⟨rfl, rfl⟩
  go_wp2_with fail
  refine (lives1 _ (hE.dn u7)).mono ?_
  rintro e w4 ⟨rfl, qw4⟩
  have uw4 := u7.trans qw4
  clear qw4 u7
  go_wp2_with fail
  go_ret
  exact ⟨rfl, uw4⟩
set_option maxHeartbeats 4000000 in
set_option maxRecDepth 100000 in
theorem idivs_pmte (a b c q m p : Int) (hb0 : 0 < b) (hq : I64 q) (hm : I64 m) (ha : I64 a) (hb : I64 b) (hlm : 0 ≤ m ∧ m < b) (h0 : ¬ (a = -9223372036854775808 ∧ b = -1)) (he : q * b + m = a) (H1 : Hid (DivIs a b q 0)) (H2 : Hid (∀ W, Calls Tryd.prog 30 #[.int .i64 a, .int .i64 b] W fun e w' => e = .returned (.tuple #[.int .i64 m, .int .i64 0]) ∧ W = w')) (H3 : Hid (DivIs c b p 0)) (hmz : m ≠ 0) (hk : a = -9223372036854775808) (hc : a = c) (hqp : q = p) (w : World) (hE : EnvI w) :
    Calls Tryd.prog 4 #[.int .i64 a, .int .i64 b, .int .i64 c] w fun e w' => e = .returned (.bool true) ∧ Dn w w' := by
  have b0 : (b == 0) = false := by simp; omega
  have LQ : Len q := Len.of (by have := hq.1; have := hq.2; omega)
  have LB : Len b := Len.of (by have := hb.1; have := hb.2; omega)
  have LM : Len m := Len.of (by have := hm.1; have := hm.2; omega)
  have LA : Len a := Len.of (by have := ha.1; have := ha.2; omega)
  have LP : Len (q * b) := Len.of (mul_natAbs_le q b hq hb)
  have LS : Len (q * b + m) := by rw [he]; exact LA
  have HS := Lib.hid (show sgn (q * b + m - a) = 0 by rw [he]; simp [sgn])
  have HQ := Lib.hid hq
  have HM := Lib.hid hm
  have HA := Lib.hid ha
  have HB := Lib.hid hb
  have k1 : (a == -9223372036854775808) = true := by simpa using hk
  have k2 : (b == -1) = false := by simp; omega
  have s1 : decide (0 < b) = true := by simpa using hb0
  have s2 : decide (b < 0) = false := by simp; omega
  have s3 : decide (b ≤ m) = false := by simp; omega
  have s4 : decide (m < 0) = false := by simp; omega
  subst hc hqp
  have c2 : decide (q < q) = false := by simp
  have c3 : decide (a ≤ a) = true := by simp
  clear hb0 h0 he hq ha hb hk
  have m1 : (m != 0) = true := by simpa using hmz
  clear hlm hm hmz
  go_enter Tryd.func4, Tryd.ntmps4
  go_wp2_with fail
  refine (H1.out _).mono ?_
  rintro e w1 ⟨rfl, rfl⟩
  go_wp2_with fail
  refine (H2.out _).mono ?_
  rintro e w2 ⟨rfl, rfl⟩
  go_wp2_with fail
  refine (rOf_c q _ HQ.out).mono ?_
  rintro e x1 ⟨b1, p1, m1, c1, rfl, hx1, y1⟩
  go_wp2_with fail
  refine (rOf_c b _ HB.out).mono ?_
  rintro e x2 ⟨b2, p2, m2, c2, rfl, hx2, y2⟩
  go_wp2_with fail
  refine (rMul_c _ _ q b _ (hx1.dn y2) hx2 LQ LB).mono ?_
  rintro e x3 ⟨b3, p3, m3, c3, rfl, hx3, y3⟩
  go_wp2_with fail
  refine (rOf_c m _ HM.out).mono ?_
  rintro e x4 ⟨b4, p4, m4, c4, rfl, hx4, y4⟩
  go_wp2_with fail
  refine (rAdd_c _ _ (q * b) m _ (hx3.dn y4) hx4 LP LM).mono ?_
  rintro e x5 ⟨b5, p5, m5, c5, rfl, hx5, y5⟩
  go_wp2_with fail
  refine (rOf_c a _ HA.out).mono ?_
  rintro e x6 ⟨b6, p6, m6, c6, rfl, hx6, y6⟩
  go_wp2_with fail
  refine (rCmp_is _ _ (q * b + m) a 0 _ HS.out (hx5.dn y6) hx6 LS LA).mono ?_
  rintro e x7 ⟨rfl, y7⟩
  have u7 := (((((y1.trans y2).trans y3).trans y4).trans y5).trans y6).trans y7
  clear hx1 hx2 hx3 hx4 hx5 hx6 y1 y2 y3 y4 y5 y6 y7
  go_wp2_with fail
  refine (H3.out _).mono ?_
  rintro e w3 ⟨rfl, rfl⟩
  go_wp2_with fail
  refine (lives1 _ (hE.dn u7)).mono ?_
  rintro e w4 ⟨rfl, qw4⟩
  have uw4 := u7.trans qw4
  clear qw4 u7
  go_wp2_with fail
  go_ret
  exact ⟨rfl, uw4⟩
set_option maxHeartbeats 4000000 in
set_option maxRecDepth 100000 in
theorem idivs_pmtg (a b c q m p : Int) (hb0 : 0 < b) (hq : I64 q) (hm : I64 m) (ha : I64 a) (hb : I64 b) (hlm : 0 ≤ m ∧ m < b) (h0 : ¬ (a = -9223372036854775808 ∧ b = -1)) (he : q * b + m = a) (H1 : Hid (DivIs a b q 0)) (H2 : Hid (∀ W, Calls Tryd.prog 30 #[.int .i64 a, .int .i64 b] W fun e w' => e = .returned (.tuple #[.int .i64 m, .int .i64 0]) ∧ W = w')) (H3 : Hid (DivIs c b p 0)) (hmz : m ≠ 0) (hk : a = -9223372036854775808) (hc : c < a) (hqp : p ≤ q) (w : World) (hE : EnvI w) :
    Calls Tryd.prog 4 #[.int .i64 a, .int .i64 b, .int .i64 c] w fun e w' => e = .returned (.bool true) ∧ Dn w w' := by
  have b0 : (b == 0) = false := by simp; omega
  have LQ : Len q := Len.of (by have := hq.1; have := hq.2; omega)
  have LB : Len b := Len.of (by have := hb.1; have := hb.2; omega)
  have LM : Len m := Len.of (by have := hm.1; have := hm.2; omega)
  have LA : Len a := Len.of (by have := ha.1; have := ha.2; omega)
  have LP : Len (q * b) := Len.of (mul_natAbs_le q b hq hb)
  have LS : Len (q * b + m) := by rw [he]; exact LA
  have HS := Lib.hid (show sgn (q * b + m - a) = 0 by rw [he]; simp [sgn])
  have HQ := Lib.hid hq
  have HM := Lib.hid hm
  have HA := Lib.hid ha
  have HB := Lib.hid hb
  have k1 : (a == -9223372036854775808) = true := by simpa using hk
  have k2 : (b == -1) = false := by simp; omega
  have s1 : decide (0 < b) = true := by simpa using hb0
  have s2 : decide (b < 0) = false := by simp; omega
  have s3 : decide (b ≤ m) = false := by simp; omega
  have s4 : decide (m < 0) = false := by simp; omega
  have c1 : decide (a ≤ c) = false := by simp; omega
  have c2 : decide (q < p) = false := by simp; omega
  have c3 : decide (c ≤ a) = true := by simp; omega
  clear hb0 h0 he hq ha hb hk hc hqp
  have m1 : (m != 0) = true := by simpa using hmz
  clear hlm hm hmz
  go_enter Tryd.func4, Tryd.ntmps4
  go_wp2_with fail
  refine (H1.out _).mono ?_
  rintro e w1 ⟨rfl, rfl⟩
  go_wp2_with fail
  refine (H2.out _).mono ?_
  rintro e w2 ⟨rfl, rfl⟩
  go_wp2_with fail
  refine (rOf_c q _ HQ.out).mono ?_
  rintro e x1 ⟨b1, p1, m1, c1, rfl, hx1, y1⟩
  go_wp2_with fail
  refine (rOf_c b _ HB.out).mono ?_
  rintro e x2 ⟨b2, p2, m2, c2, rfl, hx2, y2⟩
  go_wp2_with fail
  refine (rMul_c _ _ q b _ (hx1.dn y2) hx2 LQ LB).mono ?_
  rintro e x3 ⟨b3, p3, m3, c3, rfl, hx3, y3⟩
  go_wp2_with fail
  refine (rOf_c m _ HM.out).mono ?_
  rintro e x4 ⟨b4, p4, m4, c4, rfl, hx4, y4⟩
  go_wp2_with fail
  refine (rAdd_c _ _ (q * b) m _ (hx3.dn y4) hx4 LP LM).mono ?_
  rintro e x5 ⟨b5, p5, m5, c5, rfl, hx5, y5⟩
  go_wp2_with fail
  refine (rOf_c a _ HA.out).mono ?_
  rintro e x6 ⟨b6, p6, m6, c6, rfl, hx6, y6⟩
  go_wp2_with fail
  refine (rCmp_is _ _ (q * b + m) a 0 _ HS.out (hx5.dn y6) hx6 LS LA).mono ?_
  rintro e x7 ⟨rfl, y7⟩
  have u7 := (((((y1.trans y2).trans y3).trans y4).trans y5).trans y6).trans y7
  clear hx1 hx2 hx3 hx4 hx5 hx6 y1 y2 y3 y4 y5 y6 y7
  go_wp2_with fail
  refine (H3.out _).mono ?_
  rintro e w3 ⟨rfl, rfl⟩
  go_wp2_with fail
  refine (lives1 _ (hE.dn u7)).mono ?_
  rintro e w4 ⟨rfl, qw4⟩
  have uw4 := u7.trans qw4
  clear qw4 u7
  go_wp2_with fail
  go_ret
  exact ⟨rfl, uw4⟩
end Go.Proofs.YtnibmofbalgobaaDoor
