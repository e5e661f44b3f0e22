/-
  WALKS OF circalaw01: IntsSums returns true.
-/
import Derived.Test.YtnibmofbalgobaaDoorLawOneA
import Derived.IntWalk
namespace Go.Proofs.YtnibmofbalgobaaDoor
open Go.RowKit
/-- What a sum of whole numbers z gives as an int64 and an error. -/
def Fits (z s e : Int) : Prop := (I64 z ∧ s = z ∧ e = 0) ∨ (¬ I64 z ∧ s = 0 ∧ e = 15)
theorem fits_ex (z : Int) : ∃ s e, Fits z s e := by
  by_cases h : I64 z
  · exact ⟨z, 0, Or.inl ⟨h, rfl, rfl⟩⟩
  · exact ⟨0, 15, Or.inr ⟨h, rfl, rfl⟩⟩
theorem Fits.i64 {z s e : Int} (h : Fits z s e) : I64 s := by
  rcases h with ⟨h, rfl, _⟩ | ⟨_, rfl, _⟩
  · exact h
  · decide
def Len (z : Int) : Prop := (Dg.dl z.natAbs).length ≤ 1000
theorem Len.of {z : Int} (h : z.natAbs ≤ 85070591730234615865843651857942052864) : Len z := by
  unfold Len
  refine Nat.le_trans (Dg.dl_len (k := 39) ?_) (by decide)
  have e : Dg.p10 39 = 1000000000000000000000000000000000000000 := by decide +kernel
  rw [e]; omega
theorem mul_natAbs_le (a b : Int) (ha : I64 a) (hb : I64 b) : (a * b).natAbs ≤ 85070591730234615865843651857942052864 := by
  rw [Int.natAbs_mul]
  have h1 : a.natAbs ≤ 9223372036854775808 := by have := ha.1; have := ha.2; omega
  have h2 : b.natAbs ≤ 9223372036854775808 := by have := hb.1; have := hb.2; omega
  exact Nat.mul_le_mul h1 h2
theorem lis_any (v : Value) (z s e : Int) (w : World) (hf : Fits z s e) (hv : IsN w v z) (hl : Len z) :
    Calls Tryd.prog 23 #[.int .i64 s, .int .i64 e, v] w fun r w' => r = .returned (.bool true) ∧ Dn w w' := by
  rcases hf with ⟨h, rfl, rfl⟩ | ⟨h, rfl, rfl⟩
  · exact lis_fit v _ w hv hl h
  · exact lis_over v _ w hv hl h
theorem add_any (a b z s e : Int) (w : World) (ha : I64 a) (hb : I64 b) (hz : a + b = z) (hf : Fits z s e) :
    Calls Tryd.prog 20 #[.int .i64 a, .int .i64 b] w fun r w' => r = .returned (.tuple #[.int .i64 s, .int .i64 e]) ∧ Up w w' := by
  subst hz
  rcases hf with ⟨h, rfl, rfl⟩ | ⟨h, rfl, rfl⟩
  · exact add_fits a b w ha hb h
  · exact add_over a b w ha hb h
theorem sub_any (a b z s e : Int) (w : World) (ha : I64 a) (hb : I64 b) (hz : a - b = z) (hf : Fits z s e) :
    Calls Tryd.prog 21 #[.int .i64 a, .int .i64 b] w fun r w' => r = .returned (.tuple #[.int .i64 s, .int .i64 e]) ∧ w = w' := by
  subst hz
  rcases hf with ⟨h, rfl, rfl⟩ | ⟨h, rfl, rfl⟩
  · exact isub_fits a b w ha hb h
  · exact isub_over a b w ha hb h
theorem mul_any (a b z s e : Int) (w : World) (ha : I64 a) (hb : I64 b) (hz : a * b = z) (hf : Fits z s e) :
    Calls Tryd.prog 22 #[.int .i64 a, .int .i64 b] w fun r w' => r = .returned (.tuple #[.int .i64 s, .int .i64 e]) ∧ Up w w' := by
  subst hz
  rcases hf with ⟨h, rfl, rfl⟩ | ⟨h, rfl, rfl⟩
  · exact imul_fits a b w ha hb h
  · exact imul_over a b w ha hb h
theorem rOf_c (n : Int) (w : World) (hn : I64 n) :
    Calls Tryd.prog 19 #[.int .i64 n] w fun e w' => ∃ b p m cap, e = .returned (.agg #[.bool b, .slice p m cap]) ∧ IsN w' (.agg #[.bool b, .slice p m cap]) n ∧ Dn w w' := by
  refine (rOf1 n w hn).mono ?_
  rintro e w' ⟨v, rfl, hI, hd⟩
  obtain ⟨b, p, m, cap, rfl⟩ := hI.shape
  exact ⟨b, p, m, cap, rfl, hI, hd⟩
theorem rNeg_c (v : Value) (x : Int) (w : World) (hv : IsN w v x) :
    Calls Tryd.prog 25 #[v] w fun e w' => ∃ b p m cap, e = .returned (.agg #[.bool b, .slice p m cap]) ∧ IsN w' (.agg #[.bool b, .slice p m cap]) (-x) ∧ Dn w w' := by
  refine (rNeg v x w hv).mono ?_
  rintro e w' ⟨v, rfl, hI, hd⟩
  obtain ⟨b, p, m, cap, rfl⟩ := hI.shape
  exact ⟨b, p, m, cap, rfl, hI.dn hd, hd⟩
theorem rAdd_c (va vb : Value) (x y : Int) (w : World) (hva : IsN w va x) (hvb : IsN w vb y) (hx : Len x) (hy : Len y) :
    Calls Tryd.prog 24 #[va, vb] w fun e w' => ∃ b p m cap, e = .returned (.agg #[.bool b, .slice p m cap]) ∧ IsN w' (.agg #[.bool b, .slice p m cap]) (x + y) ∧ Dn w w' :=
  (rAdd va vb x y w hva hvb hx hy).mono fun _ _ ⟨b, p, m, cap, he, hI, hd, _⟩ => ⟨b, p, m, cap, he, hI, hd⟩
theorem rMul_c (va vb : Value) (x y : Int) (w : World) (hva : IsN w va x) (hvb : IsN w vb y) (hx : Len x) (hy : Len y) :
    Calls Tryd.prog 26 #[va, vb] w fun e w' => ∃ b p m cap, e = .returned (.agg #[.bool b, .slice p m cap]) ∧ IsN w' (.agg #[.bool b, .slice p m cap]) (x * y) ∧ Dn w w' :=
  (rMul va vb x y w hva hvb hx hy).mono fun _ _ ⟨b, p, m, cap, he, hI, hd, _⟩ => ⟨b, p, m, cap, he, hI, hd⟩
theorem kd6 {W w1 w2 : World} {a0 a1 a2 a3 : Addr} {v0 v1 v2 v3 vx vy : Value} {a b : Int} (k : Dn w1 w2) (h : Dn W w1 ∧ IsN w1 vx a ∧ IsN w1 vy b ∧ w1.cell? a0 = some v0 ∧ w1.cell? a1 = some v1 ∧ w1.cell? a2 = some v2 ∧ w1.cell? a3 = some v3) :
    Dn W w2 ∧ IsN w2 vx a ∧ IsN w2 vy b ∧ w2.cell? a0 = some v0 ∧ w2.cell? a1 = some v1 ∧ w2.cell? a2 = some v2 ∧ w2.cell? a3 = some v3 := by
  obtain ⟨h1, h2, h3, c0, c1, c2, c3⟩ := h
  exact ⟨h1.trans k, h2.dn k, h3.dn k, k.cell c0, k.cell c1, k.cell c2, k.cell c3⟩
set_option maxHeartbeats 4000000 in
set_option maxRecDepth 100000 in
theorem intsSums_true (a b : Int) (w : World) (ha : I64 a) (hb : I64 b) (hE : EnvI w) :
    Calls Tryd.prog 3 #[.int .i64 a, .int .i64 b] w fun e w' => e = .returned (.bool true) ∧ Dn w w' := by
  obtain ⟨s, e1, F1⟩ := fits_ex (a + b)
  obtain ⟨d, e2, F2⟩ := fits_ex (a + -b)
  obtain ⟨p, e3, F3⟩ := fits_ex (a * b)
  have La : Len a := Len.of (by have := ha.1; have := ha.2; omega)
  have Lb : Len b := Len.of (by have := hb.1; have := hb.2; omega)
  have Ln : Len (-b) := Len.of (by have := hb.1; have := hb.2; omega)
  have Ls : Len (a + b) := Len.of (by have := hb.1; have := hb.2; have := ha.1; have := ha.2; omega)
  have Ld : Len (a + -b) := Len.of (by have := hb.1; have := hb.2; have := ha.1; have := ha.2; omega)
  have Lp : Len (a * b) := Len.of (mul_natAbs_le a b ha hb)
  have HA := Lib.hid ha
  have HB := Lib.hid hb
  clear ha hb
  go_enter Tryd.func3, Tryd.ntmps3
  go_wp2_with fail
  refine (rOf_c a _ HA.out).mono ?_
  rintro e w1 ⟨b1, p1, m1, c1, rfl, hx, q1⟩
  go_wp2_with fail
  refine (rOf_c b _ HB.out).mono ?_
  rintro e w2 ⟨b2, p2, m2, c2, rfl, hy, q2⟩
  have u2 := q1.trans q2
  clear q1
  go_wp2_with fail
  obtain ⟨W, hW⟩ : ∃ W, W = (w2.alloc (.cells #[.bool b1, .slice p1 m1 c1] 24)).alloc (.cells #[.bool b2, .slice p2 m2 c2] 24) := ⟨_, rfl⟩
  have n0 : NBlk W w2.heap.size b1 (.slice p1 m1 c1) := by rw [hW]; exact (NBlk.new _ _ _ _).alloc _
  have n1 : NBlk W (w2.heap.size + 1) b2 (.slice p2 m2 c2) := by rw [hW]; exact NBlk.new1 _ _ _ _ _
  have U2 : Dn w2 W := by rw [hW]; exact ((Dn.refl _).alloc _).alloc _
  have uW := u2.trans U2
  obtain ⟨a0, a1, _, _, _⟩ := n0
  obtain ⟨b0, b1', _, _, _⟩ := n1
  have hS := kd6 (a0 := ⟨w2.heap.size, 0, none⟩) (a1 := ⟨w2.heap.size, 1, none⟩) (a2 := ⟨w2.heap.size + 1, 0, none⟩) (a3 := ⟨w2.heap.size + 1, 1, none⟩) (Dn.refl _) ⟨Dn.refl W, (hx.dn q2).dn U2, hy.dn U2, a0, a1, b0, b1'⟩
  clear a0 a1 b0 b1' hx hy q2 U2 u2
  rw [← hW]
  have HW := Lib.hid hW
  have HS := Lib.hid hS
  clear hW hS
  refine (add_any a b _ s e1 _ HA.out HB.out rfl F1).mono ?_
  rintro e w3 ⟨rfl, q3⟩
  go_wp2_with fail
  refine (sub_any a b _ d e2 _ HA.out HB.out Int.sub_eq_add_neg F2).mono ?_
  rintro e w4 ⟨rfl, rfl⟩
  go_wp2_with fail
  refine (mul_any a b _ p e3 _ HA.out HB.out rfl F3).mono ?_
  rintro e w5 ⟨rfl, q5⟩
  go_wp2_with fail
  refine (add_any b a _ s e1 _ HB.out HA.out (Int.add_comm b a) F1).mono ?_
  rintro e w6 ⟨rfl, q6⟩
  have k6 := (q3.dn.trans q5.dn).trans q6.dn
  have hS := kd6 (W := W) k6 HS.out

  clear HS q3 q5 q6 k6
  go_wp2_with fail
  go_region_held3 (fun w' => Dn W w' ∧ IsN w' (.agg #[.bool b1, .slice p1 m1 c1]) a ∧ IsN w' (.agg #[.bool b2, .slice p2 m2 c2]) b ∧ w'.cell? ⟨w2.heap.size, 0, none⟩ = some (.bool b1) ∧ w'.cell? ⟨w2.heap.size, 1, none⟩ = some (.slice p1 m1 c1) ∧ w'.cell? ⟨w2.heap.size + 1, 0, none⟩ = some (.bool b2) ∧ w'.cell? ⟨w2.heap.size + 1, 1, none⟩ = some (.slice p2 m2 c2))
    (first | exact kd6 ((Dn.refl _).drew) hS | exact kd6 ‹Dn _ _› ‹_›)
    (first
      | (go_at_call 24; refine (rAdd_c _ _ a _ _ (‹Dn W _ ∧ IsN _ _ a ∧ _› : _ ∧ _).2.1 (by first | exact (‹Dn W _ ∧ _ ∧ IsN _ _ b ∧ _› : _ ∧ _).2.2.1 | assumption) La (by assumption)).mono ?_; rintro e wa ⟨ba, pa, ma, ca, rfl, hIa, qa⟩)
      | (go_at_call 26; refine (rMul_c _ _ a b _ (‹Dn W _ ∧ IsN _ _ a ∧ _› : _ ∧ _).2.1 (‹Dn W _ ∧ _ ∧ IsN _ _ b ∧ _› : _ ∧ _).2.2.1 La Lb).mono ?_; rintro e wa ⟨ba, pa, ma, ca, rfl, hIa, qa⟩)
      | (go_at_call 25; refine (rNeg_c _ b _ (‹Dn W _ ∧ _ ∧ IsN _ _ b ∧ _› : _ ∧ _).2.2.1).mono ?_; rintro e wa ⟨ba, pa, ma, ca, rfl, hIa, qa⟩)
      | (go_at_call 23; refine (lis_any _ _ _ _ _ (by assumption) (by assumption) (by assumption)).mono ?_; rintro e wa ⟨rfl, qa⟩))
  have hf : Dn W _ := (‹Dn W _ ∧ IsN _ _ a ∧ _› : _ ∧ _).1
  have u7 := uW.trans hf
  clear hf hS uW F2 F3
  have hF := F1
  clear F1
  obtain ⟨x, e4, F4⟩ := fits_ex (s - b)
  rcases hF with ⟨hi, rfl, rfl⟩ | ⟨hi, rfl, rfl⟩
  · have HR := Lib.hid (fun W => sub_any (a + b) b _ a 0 W hi HB.out rfl (Or.inl ⟨by rw [show a + b - b = a by omega]; exact HA.out, by omega, rfl⟩))
    clear F4
    have HI := Lib.hid hi
    clear hi
    go_wp2_with fail
    refine (HR.out _).mono ?_
    rintro e w8 ⟨rfl, rfl⟩
    go_wp2_with fail
    refine (lgives a _).mono ?_
    rintro e w9 ⟨rfl, rfl⟩
    go_wp2_with fail
    refine (lives1 _ (hE.dn u7)).mono ?_
    rintro e w10 ⟨rfl, q10⟩
    go_wp2_with fail
    go_ret
    exact ⟨rfl, u7.trans q10⟩
  · have HR := Lib.hid (fun W => sub_any 0 b _ x e4 W (by decide) HB.out rfl F4)
    clear F4
    have HI := Lib.hid hi
    clear hi
    go_wp2_with fail
    refine (HR.out _).mono ?_
    rintro e w8 ⟨rfl, rfl⟩
    go_wp2_with fail
    refine (lives1 _ (hE.dn u7)).mono ?_
    rintro e w10 ⟨rfl, q10⟩
    go_wp2_with fail
    go_ret
    exact ⟨rfl, u7.trans q10⟩
end Go.Proofs.YtnibmofbalgobaaDoor
