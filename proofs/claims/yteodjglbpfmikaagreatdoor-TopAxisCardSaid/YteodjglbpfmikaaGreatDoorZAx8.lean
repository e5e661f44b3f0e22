/- Walks and laws that the claim's theorem leans on: part 8. -/
import Derived.Test.YteodjglbpfmikaaGreatDoorZAx1
import Derived.Test.YteodjglbpfmikaaGreatDoorZAx7
namespace Go.Proofs.YteodjglbpfmikaaGreatDoor.Fl
open Ieee
def kf (x : Nat) : Int := if fsg x then 18446744073709551615 - x else x + 9223372036854775808
theorem fsg_iff {x : Nat} (hx : x < 18446744073709551616) : fsg x = decide (9223372036854775808 ≤ x) := by
 unfold fsg
 rcases Nat.lt_or_ge x 9223372036854775808 with h | h
 · have e : x / 2 ^ 63 % 2 = 0 := by omega
   rw [e]; simp; omega
 · have e : x / 2 ^ 63 % 2 = 1 := by omega
   rw [e]; simp; omega
theorem and_nat (x : Nat) (hx : x < 18446744073709551616) : x &&& 9223372036854775808 = if 9223372036854775808 ≤ x then 9223372036854775808 else 0 := by
 have hb : x.testBit 63 = decide (9223372036854775808 ≤ x) := by
   rw [Nat.testBit_eq_decide_div_mod_eq]
   exact decide_eq_decide.2 (by omega)
 apply Nat.eq_of_testBit_eq
 intro i
 rw [Nat.testBit_and, show (9223372036854775808 : Nat) = 2 ^ 63 from rfl, Nat.testBit_two_pow]
 by_cases hi : 63 = i
 · subst hi
   rw [hb]
   by_cases h : 9223372036854775808 ≤ x
   · rw [if_pos h, Nat.testBit_two_pow]; simp; exact h
   · rw [if_neg h]; simp; omega
 · rw [decide_eq_false hi, Bool.and_false]
   split
   · rw [Nat.testBit_two_pow, decide_eq_false hi]
   · simp
theorem b_and (k : Int) (h0 : 0 ≤ k) (h1 : k < 18446744073709551616) : bits .and .u64 k 9223372036854775808 = if 9223372036854775808 ≤ k then 9223372036854775808 else 0 := by
 rw [u64_and k _ h0 h1 (by decide) (by decide)]
 show ((k.toNat &&& 9223372036854775808 : Nat) : Int) = _
 rw [and_nat _ (by omega)]
 split <;> split <;> omega
theorem b_or (k : Int) (h0 : 0 ≤ k) (h1 : k < 9223372036854775808) : bits .or .u64 k 9223372036854775808 = k + 9223372036854775808 := by
 rw [u64_or k _ h0 (by omega) (by decide) (by decide)]
 show ((k.toNat ||| 9223372036854775808 : Nat) : Int) = _
 have h := Nat.two_pow_add_eq_or_of_lt (b := k.toNat) (i := 63) (by omega) 1
 rw [show (2 : Nat) ^ 63 * 1 = 9223372036854775808 from rfl, Nat.or_comm] at h
 rw [← h]
 omega
theorem b_not (k : Int) (h0 : 0 ≤ k) (h1 : k < 18446744073709551616) : bits .xor .u64 IntKind.u64.max k = 18446744073709551615 - k := by
 have e : IntKind.u64.max = 18446744073709551615 := rfl
 rw [e, u64_xor _ k (by decide) (by decide) h0 h1]
 show ((18446744073709551615 ^^^ k.toNat : Nat) : Int) = _
 have h : (18446744073709551615 ^^^ k.toNat : Nat) = 18446744073709551615 - k.toNat := by
  have hk : k.toNat < 2 ^ 64 := by omega
  apply Nat.eq_of_testBit_eq
  intro i
  rw [Nat.testBit_xor, show (18446744073709551615 : Nat) = 2 ^ 64 - 1 from rfl, Nat.testBit_two_pow_sub_one, show 2 ^ 64 - 1 - k.toNat = 2 ^ 64 - (k.toNat + 1) by omega, Nat.testBit_two_pow_sub_succ hk]
  by_cases hi : i < 64
  · simp [hi]
  · simp only [hi, decide_false, Bool.false_and, Bool.false_xor]
    exact Nat.testBit_lt_two_pow (Nat.lt_of_lt_of_le hk (Nat.pow_le_pow_right (by decide) (by omega)))
 rw [h]
 omega
theorem b_andNot (k : Int) (h0 : 9223372036854775808 ≤ k) (h1 : k < 18446744073709551616) : bits .andNot .u64 k 9223372036854775808 = k - 9223372036854775808 := by
 rw [u64_andNot k _ (by omega) h1 (by decide) (by decide)]
 show ((k.toNat &&& 9223372036854775807 : Nat) : Int) = _
 have h := Nat.and_two_pow_sub_one_eq_mod k.toNat 63
 rw [show (2 : Nat) ^ 63 - 1 = 9223372036854775807 from rfl] at h
 rw [h]
 omega
end Go.Proofs.YteodjglbpfmikaaGreatDoor.Fl
namespace Go.Proofs.YteodjglbpfmikaaGreatDoor
open Go.RowKit Fl Ieee
set_option linter.unusedVariables false
set_option linter.unusedSimpArgs false
theorem f_key {x : Nat} (h : rg x ≤ top) (hx : x < 18446744073709551616) (w : World) : Calls Tryz.prog 105 #[.float .f64 x] w fun ro w' => ro = .returned (.int .u64 (kf x)) ∧ w = w' := by
 have q1 : (FloatKind.f64.format.order x x != some .eq) = false := by
   have := ord_eq h h
   rw [decide_eq_true rfl] at this
   show (!(double.order x x == some .eq)) = false
   rw [this]; rfl
 have HB := f_bits x
 have hs := fsg_iff hx
 by_cases hb : 9223372036854775808 ≤ x
 · have e1 : bits .and .u64 (x : Int) 9223372036854775808 = 9223372036854775808 := by rw [b_and _ (by omega) (by omega), if_pos (by omega)]
   have e2 : bits .xor .u64 IntKind.u64.max (x : Int) = kf x := by
    rw [b_not _ (by omega) (by omega)]
    unfold kf
    rw [hs, decide_eq_true hb]
    rfl
   clear h hx hs hb
   go_enter Tryz.func105, Tryz.ntmps105
   go_wp2_with (simp only [q1, HB, e1])
   go_ret
   exact ⟨by rw [← e2]; rfl, rfl⟩
 · have e1 : bits .and .u64 (x : Int) 9223372036854775808 = 0 := by rw [b_and _ (by omega) (by omega), if_neg (by omega)]
   have e2 : bits .or .u64 (x : Int) 9223372036854775808 = kf x := by
    rw [b_or _ (by omega) (by omega)]
    unfold kf
    rw [hs, decide_eq_false hb]
    rfl
   clear h hx hs hb
   go_enter Tryz.func105, Tryz.ntmps105
   go_wp2_with (simp only [q1, HB, e1])
   go_ret
   exact ⟨by rw [← e2]; rfl, rfl⟩
def wf (k : Int) : Nat := if 9223372036854775808 ≤ k then (k - 9223372036854775808).toNat else (18446744073709551615 - k).toNat
theorem f_at (k : Int) (h0 : 0 ≤ k) (h1 : k < 18446744073709551616) (w : World) : Calls Tryz.prog 107 #[.int .u64 k] w fun ro w' => ro = .returned (.float .f64 (wf k)) ∧ w = w' := by
 by_cases hb : 9223372036854775808 ≤ k
 · have e1 : bits .and .u64 k 9223372036854775808 = 9223372036854775808 := by rw [b_and _ h0 h1, if_pos hb]
   have e2 : (bits .andNot .u64 k 9223372036854775808).toNat = wf k := by
    rw [b_andNot _ hb h1]
    unfold wf
    rw [if_pos hb]
   clear h0 h1 hb
   go_enter Tryz.func107, Tryz.ntmps107
   go_wp2_with (simp only [f_from, e1])
   go_ret
   exact ⟨by rw [← e2]; rfl, rfl⟩
 · have e1 : bits .and .u64 k 9223372036854775808 = 0 := by rw [b_and _ h0 h1, if_neg hb]
   have e2 : (bits .xor .u64 IntKind.u64.max k).toNat = wf k := by
    rw [b_not _ h0 h1]
    unfold wf
    rw [if_neg hb]
   clear h0 h1 hb
   go_enter Tryz.func107, Tryz.ntmps107
   go_wp2_with (simp only [f_from, e1])
   go_ret
   exact ⟨by rw [← e2]; rfl, rfl⟩
theorem f_inf (w : World) : Calls Tryz.prog 106 #[.int .i64 1] w fun ro w' => ro = .returned (.float .f64 9218868437227405312) ∧ w = w' := by
 go_enter Tryz.func106, Tryz.ntmps106
 go_wp2_with (simp only [f_from])
 go_ret
 exact ⟨rfl, rfl⟩
theorem f_ninf (w : World) : Calls Tryz.prog 106 #[.int .i64 (-1)] w fun ro w' => ro = .returned (.float .f64 18442240474082181120) ∧ w = w' := by
 go_enter Tryz.func106, Tryz.ntmps106
 go_wp2_with (simp only [f_from])
 go_ret
 exact ⟨rfl, rfl⟩
theorem sr_parts {x : Nat} (hx : x < 18446744073709551616) : (fsg x = false ∧ x < 9223372036854775808 ∧ rg x = x ∧ sr x = x) ∨ (fsg x = true ∧ 9223372036854775808 ≤ x ∧ rg x = x - 9223372036854775808 ∧ sr x = -((x : Int) - 9223372036854775808)) := by
 have hs := fsg_iff hx
 unfold sr rg
 rcases Nat.lt_or_ge x 9223372036854775808 with h | h
 · rw [decide_eq_false (by omega)] at hs
   rw [hs]
   exact .inl ⟨rfl, h, by omega, by simp only [Bool.false_eq_true, if_false]; omega⟩
 · rw [decide_eq_true h] at hs
   rw [hs]
   exact .inr ⟨rfl, h, by omega, by simp only [if_true]; omega⟩
theorem f_prev {x : Nat} (hx : x < 18446744073709551616) (h : rg x ≤ 1087 * 2 ^ 52) (h0 : sr x ≠ 0) : ∃ y, (rg y < top ∧ sr y = sr x - 1) ∧ ∀ w, Calls Tryz.prog 48 #[.float .f64 x] w fun ro w' => ro = .returned (.tuple #[.float .f64 y, .int .i64 0]) ∧ w = w' := by
 have ht : rg x ≤ top := by unfold top; omega
 have hk : 4503599627370495 < kf x ∧ kf x < 18446744073709551615 ∧ 1 ≤ kf x := by
  unfold kf
  rcases sr_parts hx with ⟨e, h1, h2, h3⟩ | ⟨e, h1, h2, h3⟩ <;> rw [e]
  · simp only [Bool.false_eq_true, if_false]; omega
  · simp only [if_true]; omega
 have hw : rg (wf (kf x - 1)) < top ∧ sr (wf (kf x - 1)) = sr x - 1 := by
  rcases sr_parts hx with ⟨e, h1, h2, h3⟩ | ⟨e, h1, h2, h3⟩
  · have e1 : wf (kf x - 1) = x - 1 := by
      unfold wf kf; rw [e]; simp only [Bool.false_eq_true, if_false]; rw [if_pos (by omega)]; omega
    rw [e1, h3]
    rcases sr_parts (x := x - 1) (by omega) with ⟨k0, k1, k2, k3⟩ | ⟨k0, k1, k2, k3⟩
    · exact ⟨by rw [k2]; unfold top; omega, by rw [k3]; omega⟩
    · omega
  · have e1 : wf (kf x - 1) = x + 1 := by
      unfold wf kf; rw [e]; simp only [if_true]; rw [if_neg (by omega)]; omega
    rw [e1, h3]
    rcases sr_parts (x := x + 1) (by omega) with ⟨k0, k1, k2, k3⟩ | ⟨k0, k1, k2, k3⟩
    · omega
    · exact ⟨by rw [k2]; unfold top; omega, by rw [k3]; omega⟩
 refine ⟨_, hw, fun w => ?_⟩
 have e1 : IntKind.u64.wrap (kf x - 1) = kf x - 1 := IntWalk.u64_in _ (by omega)
 have d1 : (kf x != 18446744073709551615) = true := by simp; omega
 have d2 : decide (4503599627370495 < kf x) = true := by simp; omega
 have HB := Lib.hid (show 0 ≤ kf x - 1 ∧ kf x - 1 < 18446744073709551616 by omega)
 have e2 : kf 18442240474082181120 = 4503599627370495 := rfl
 have HKEY : Hid (∀ y, (y = x ∨ y = 18442240474082181120) → ∀ w, Calls Tryz.prog 105 #[.float .f64 y] w fun ro w' => ro = .returned (.int .u64 (kf y)) ∧ w = w') := Lib.hid (fun y hy w => by
  rcases hy with rfl | rfl
  · exact f_key ht hx w
  · exact f_key (by decide) (by decide) w)
 clear ht hk hw h h0 hx
 go_enter Tryz.func48, Tryz.ntmps48
 go_wp2_with (first | simp only [e1, e2, d1, d2] | (go_at_call 105; refine (HKEY.out _ (by first | exact .inl rfl | exact .inr rfl) _).mono ?_; rintro e wa ⟨rfl, rfl⟩) | (go_at_call 106; refine (f_ninf _).mono ?_; rintro e wa ⟨rfl, rfl⟩) | (go_at_call 107; refine (f_at _ HB.out.1 HB.out.2 _).mono ?_; rintro e wa ⟨rfl, rfl⟩))
 exact bodyPost_ret (v := .tuple #[.float .f64 (wf (kf x - 1)), .int .i64 0]) (by simp [results, Tryz.results48, go_sem]) rfl ⟨rfl, rfl⟩
theorem f_next {x : Nat} (hx : x < 18446744073709551616) (h : rg x ≤ 1087 * 2 ^ 52) (h0 : sr x ≠ 0) : ∃ y, (rg y < top ∧ sr y = sr x + 1) ∧ ∀ w, Calls Tryz.prog 49 #[.float .f64 x] w fun ro w' => ro = .returned (.tuple #[.float .f64 y, .int .i64 0]) ∧ w = w' := by
 have ht : rg x ≤ top := by unfold top; omega
 have hk : kf x < 18442240474082181120 ∧ 0 ≤ kf x := by
  unfold kf
  rcases sr_parts hx with ⟨e, h1, h2, h3⟩ | ⟨e, h1, h2, h3⟩ <;> rw [e]
  · simp only [Bool.false_eq_true, if_false]; omega
  · simp only [if_true]; omega
 have hw : rg (wf (kf x + 1)) < top ∧ sr (wf (kf x + 1)) = sr x + 1 := by
  rcases sr_parts hx with ⟨e, h1, h2, h3⟩ | ⟨e, h1, h2, h3⟩
  · have e1 : wf (kf x + 1) = x + 1 := by
      unfold wf kf; rw [e]; simp only [Bool.false_eq_true, if_false]; rw [if_pos (by omega)]; omega
    rw [e1, h3]
    rcases sr_parts (x := x + 1) (by omega) with ⟨k0, k1, k2, k3⟩ | ⟨k0, k1, k2, k3⟩
    · exact ⟨by rw [k2]; unfold top; omega, by rw [k3]; omega⟩
    · omega
  · have e1 : wf (kf x + 1) = x - 1 := by
      unfold wf kf; rw [e]; simp only [if_true]; rw [if_neg (by omega)]; omega
    rw [e1, h3]
    rcases sr_parts (x := x - 1) (by omega) with ⟨k0, k1, k2, k3⟩ | ⟨k0, k1, k2, k3⟩
    · omega
    · exact ⟨by rw [k2]; unfold top; omega, by rw [k3]; omega⟩
 refine ⟨_, hw, fun w => ?_⟩
 have e1 : IntKind.u64.wrap (kf x + 1) = kf x + 1 := IntWalk.u64_in _ (by omega)
 have d2 : decide (kf x < 18442240474082181120) = true := by simp; omega
 have HB := Lib.hid (show 0 ≤ kf x + 1 ∧ kf x + 1 < 18446744073709551616 by omega)
 have e2 : kf 9218868437227405312 = 18442240474082181120 := rfl
 have HKEY : Hid (∀ y, (y = x ∨ y = 9218868437227405312) → ∀ w, Calls Tryz.prog 105 #[.float .f64 y] w fun ro w' => ro = .returned (.int .u64 (kf y)) ∧ w = w') := Lib.hid (fun y hy w => by
  rcases hy with rfl | rfl
  · exact f_key ht hx w
  · exact f_key (by decide) (by decide) w)
 clear ht hk hw h h0 hx
 go_enter Tryz.func49, Tryz.ntmps49
 go_wp2_with (first | simp only [e1, e2, d2] | (go_at_call 105; refine (HKEY.out _ (by first | exact .inl rfl | exact .inr rfl) _).mono ?_; rintro e wa ⟨rfl, rfl⟩) | (go_at_call 106; refine (f_inf _).mono ?_; rintro e wa ⟨rfl, rfl⟩) | (go_at_call 107; refine (f_at _ HB.out.1 HB.out.2 _).mono ?_; rintro e wa ⟨rfl, rfl⟩))
 exact bodyPost_ret (v := .tuple #[.float .f64 (wf (kf x + 1)), .int .i64 0]) (by simp [results, Tryz.results49, go_sem]) rfl ⟨rfl, rfl⟩
theorem f_against_w {n : Int} (hn : I64 n) (w : World) : Calls Tryz.prog 53 #[.float .f64 (nw n), .int .i64 n] w fun ro w' => ro = .returned (.int .i64 (c3 (MG (fns n)) (n * U))) ∧ w = w' := by
 obtain ⟨h1, h2, h3, h4, h5⟩ := nw_law hn
 have h := f_against (x := nw n) (by unfold top; omega) hn w
 rw [val_sr, h5] at h
 exact h
theorem fns_ne {n : Int} (h : c3 (MG (fns n)) (n * U) ≠ 0) : fns n ≠ 0 := fun q => by
 have := fns_zero q
 subst this
 rw [q] at h
 exact h (by rw [Int.zero_mul]; rfl)
theorem f_near_dn (n : Int) (hn : I64 n) : ∃ y, (rg y < top ∧ sr y = fdn n) ∧ ∀ w, Calls Tryz.prog 47 #[.int .i64 n, .int .i64 1, .func (.func 48) #[] #[]] w fun ro w' => ro = .returned (.float .f64 y) ∧ w = w' := by
 obtain ⟨h1, h2, h3, h4, h5⟩ := nw_law hn
 have HA := Lib.hid (fun w => f_against_w hn w)
 by_cases hc : c3 (MG (fns n)) (n * U) = 1
 · have h0 := fns_ne (n := n) (by rw [hc]; decide)
   obtain ⟨y, ⟨hy1, hy2⟩, hp⟩ := f_prev h1 h4 (by rw [h5]; exact h0)
   have HP := Lib.hid hp
   have HD := Lib.hid (show fdn n = fns n - 1 by unfold fdn; rw [if_pos hc])
   refine ⟨y, ⟨hy1, by rw [hy2, h5, HD.out]⟩, fun w => ?_⟩
   have dc : (c3 (MG (fns n)) (n * U) == 1) = true := by simpa using hc
   clear h0 h1 h2 h3 h4 h5 hc hn hp hy1 hy2 HD
   go_enter Tryz.func47, Tryz.ntmps47
   go_wp2_with (first | simp only [dc] | (go_at_call 53; refine (HA.out _).mono ?_; rintro e wa ⟨rfl, rfl⟩) | (go_at_call 48; refine (HP.out _).mono ?_; rintro e wa ⟨rfl, rfl⟩))
   go_ret
   exact ⟨rfl, rfl⟩
 · have HD := Lib.hid (show fdn n = fns n by unfold fdn; rw [if_neg hc])
   refine ⟨nw n, ⟨by unfold top; omega, by rw [h5, HD.out]⟩, fun w => ?_⟩
   have dc : (c3 (MG (fns n)) (n * U) == 1) = false := by simpa using hc
   clear h1 h2 h3 h4 h5 hc hn HD
   go_enter Tryz.func47, Tryz.ntmps47
   go_wp2_with (first | simp only [dc] | (go_at_call 53; refine (HA.out _).mono ?_; rintro e wa ⟨rfl, rfl⟩))
   go_ret
   exact ⟨rfl, rfl⟩
theorem f_down (n : Int) (hn : I64 n) : ∃ y, (rg y < top ∧ sr y = fdn n) ∧ ∀ w, Calls Tryz.prog 9 #[.int .i64 n] w fun ro w' => ro = .returned (.float .f64 y) ∧ w = w' := by
 obtain ⟨y, hy, hw⟩ := f_near_dn n hn
 refine ⟨y, hy, fun w => ?_⟩
 have HN := Lib.hid hw
 clear hn hw hy
 go_enter Tryz.func9, Tryz.ntmps9
 go_wp2_with (go_at_call 47; refine (HN.out _).mono ?_; rintro e wa ⟨rfl, rfl⟩)
 go_ret
 exact ⟨rfl, rfl⟩
theorem f_near_up (n : Int) (hn : I64 n) : ∃ y, (rg y < top ∧ sr y = fup n) ∧ ∀ w, Calls Tryz.prog 47 #[.int .i64 n, .int .i64 (-1), .func (.func 49) #[] #[]] w fun ro w' => ro = .returned (.float .f64 y) ∧ w = w' := by
 obtain ⟨h1, h2, h3, h4, h5⟩ := nw_law hn
 have HA := Lib.hid (fun w => f_against_w hn w)
 by_cases hc : c3 (MG (fns n)) (n * U) = -1
 · have h0 := fns_ne (n := n) (by rw [hc]; decide)
   obtain ⟨y, ⟨hy1, hy2⟩, hp⟩ := f_next h1 h4 (by rw [h5]; exact h0)
   have HP := Lib.hid hp
   have HD := Lib.hid (show fup n = fns n + 1 by unfold fup; rw [if_pos hc])
   refine ⟨y, ⟨hy1, by rw [hy2, h5, HD.out]⟩, fun w => ?_⟩
   have dc : (c3 (MG (fns n)) (n * U) == -1) = true := by simpa using hc
   clear h0 h1 h2 h3 h4 h5 hc hn hp hy1 hy2 HD
   go_enter Tryz.func47, Tryz.ntmps47
   go_wp2_with (first | simp only [dc] | (go_at_call 53; refine (HA.out _).mono ?_; rintro e wa ⟨rfl, rfl⟩) | (go_at_call 49; refine (HP.out _).mono ?_; rintro e wa ⟨rfl, rfl⟩))
   go_ret
   exact ⟨rfl, rfl⟩
 · have HD := Lib.hid (show fup n = fns n by unfold fup; rw [if_neg hc])
   refine ⟨nw n, ⟨by unfold top; omega, by rw [h5, HD.out]⟩, fun w => ?_⟩
   have dc : (c3 (MG (fns n)) (n * U) == -1) = false := by simpa using hc
   clear h1 h2 h3 h4 h5 hc hn HD
   go_enter Tryz.func47, Tryz.ntmps47
   go_wp2_with (first | simp only [dc] | (go_at_call 53; refine (HA.out _).mono ?_; rintro e wa ⟨rfl, rfl⟩))
   go_ret
   exact ⟨rfl, rfl⟩
theorem f_up (n : Int) (hn : I64 n) : ∃ y, (rg y < top ∧ sr y = fup n) ∧ ∀ w, Calls Tryz.prog 10 #[.int .i64 n] w fun ro w' => ro = .returned (.float .f64 y) ∧ w = w' := by
 obtain ⟨y, hy, hw⟩ := f_near_up n hn
 refine ⟨y, hy, fun w => ?_⟩
 have HN := Lib.hid hw
 clear hn hw hy
 go_enter Tryz.func10, Tryz.ntmps10
 go_wp2_with (go_at_call 47; refine (HN.out _).mono ?_; rintro e wa ⟨rfl, rfl⟩)
 go_ret
 exact ⟨rfl, rfl⟩
end Go.Proofs.YteodjglbpfmikaaGreatDoor
namespace Go.Proofs.YteodjglbpfmikaaGreatDoor
set_option maxRecDepth 20000
open Go.RowKit Fl Ieee
set_option linter.unusedVariables false
set_option linter.unusedSimpArgs false
theorem ne_self {x : Nat} (h : rg x ≤ top) : (FloatKind.f64.format.order x x != some .eq) = false := by
 have := ord_eq h h
 rw [decide_eq_true rfl] at this
 show (!(double.order x x == some .eq)) = false
 rw [this]; rfl
theorem ne_nan {x : Nat} (h : top < rg x) : (FloatKind.f64.format.order x x != some .eq) = true := by
 have := order_nan (x := x) (y := x) (.inl h)
 show (!(double.order x x == some .eq)) = true
 rw [this]; rfl
theorem f_whole_nan {x : Nat} (h : top < rg x) (w : World) : Calls Tryz.prog 50 #[.float .f64 x] w fun ro w' => ro = .returned (.tuple #[.int .i64 0, .int .i64 1]) ∧ w = w' := by
 have q0 := ne_nan h
 clear h
 go_enter Tryz.func50, Tryz.ntmps50
 go_wp2_with (simp only [q0])
 exact bodyPost_ret (v := .tuple #[.int .i64 0, .int .i64 1]) (by simp [results, Tryz.results50, go_sem]) rfl ⟨rfl, rfl⟩
theorem f_whole_hi {x : Nat} (h : rg x ≤ top) (hb : val gr ≤ val x) (w : World) : Calls Tryz.prog 50 #[.float .f64 x] w fun ro w' => ro = .returned (.tuple #[.int .i64 0, .int .i64 15]) ∧ w = w' := by
 have q0 := ne_self h
 have q1 : (FloatKind.f64.format.order x 4890909195324358656 == some .gt || FloatKind.f64.format.order x 4890909195324358656 == some .eq) = decide (val gr ≤ val x) := ord_ge h (Nat.le_of_lt gr_val.1)
 rw [decide_eq_true hb] at q1
 clear h hb
 go_enter Tryz.func50, Tryz.ntmps50
 go_wp2_with (simp only [q0, q1])
 exact bodyPost_ret (v := .tuple #[.int .i64 0, .int .i64 15]) (by simp [results, Tryz.results50, go_sem]) rfl ⟨rfl, rfl⟩
theorem f_whole_lo {x : Nat} (h : rg x ≤ top) (hb : val x < val ngr) (w : World) : Calls Tryz.prog 50 #[.float .f64 x] w fun ro w' => ro = .returned (.tuple #[.int .i64 0, .int .i64 15]) ∧ w = w' := by
 have q0 := ne_self h
 have hU := U_pos
 have hb2 : ¬ val gr ≤ val x := fun q => by rw [gr_val.2] at q; rw [ngr_val.2] at hb; omega
 have q1 : (FloatKind.f64.format.order x 4890909195324358656 == some .gt || FloatKind.f64.format.order x 4890909195324358656 == some .eq) = decide (val gr ≤ val x) := ord_ge h (Nat.le_of_lt gr_val.1)
 have q2 : (FloatKind.f64.format.order x 14114281232179134464 == some .lt) = decide (val x < val ngr) := ord_lt h (Nat.le_of_lt ngr_val.1)
 rw [decide_eq_false hb2] at q1
 rw [decide_eq_true hb] at q2
 clear h hb hb2 hU
 go_enter Tryz.func50, Tryz.ntmps50
 go_wp2_with (simp only [q0, q1, q2])
 exact bodyPost_ret (v := .tuple #[.int .i64 0, .int .i64 15]) (by simp [results, Tryz.results50, go_sem]) rfl ⟨rfl, rfl⟩
theorem f_whole_in {x : Nat} {a : Int} (h : rg x < top) (hv : val x = a * U) (ha : I64 a) (w : World) : Calls Tryz.prog 50 #[.float .f64 x] w fun ro w' => ro = .returned (.tuple #[.int .i64 a, .int .i64 0]) ∧ w = w' := by
 have h' := Nat.le_of_lt h
 have q0 := ne_self h'
 have hU := U_pos
 have hb2 : ¬ val gr ≤ val x := fun q => by
  rw [gr_val.2, hv] at q
  have := Int.le_of_mul_le_mul_right q hU
  have := ha.2
  omega
 have hb3 : ¬ val x < val ngr := fun q => by
  rw [ngr_val.2, hv] at q
  have := Int.lt_of_mul_lt_mul_right q (by omega)
  have := ha.1
  omega
 have q1 : (FloatKind.f64.format.order x 4890909195324358656 == some .gt || FloatKind.f64.format.order x 4890909195324358656 == some .eq) = decide (val gr ≤ val x) := ord_ge h' (Nat.le_of_lt gr_val.1)
 have q2 : (FloatKind.f64.format.order x 14114281232179134464 == some .lt) = decide (val x < val ngr) := ord_lt h' (Nat.le_of_lt ngr_val.1)
 rw [decide_eq_false hb2] at q1
 rw [decide_eq_false hb3] at q2
 have hc : ∀ w, (convert 25 2 (.float .f64 x)).run Tryz.prog w = .ok (.int .i64 a) w := fun w => run_convert_float_int w _ _ .f64 .i64 _ _ (by rw [Tryz.underlying25]; rfl) Tryz.underlying2 (to_int (toInt_val h hv) ha.1 ha.2)
 clear h h' hb2 hb3 hU hv ha
 go_enter Tryz.func50, Tryz.ntmps50
 go_wp2_with (simp only [q0, q1, q2, hc])
 exact bodyPost_ret (v := .tuple #[.int .i64 a, .int .i64 0]) (by simp [results, Tryz.results50, go_sem]) rfl ⟨rfl, rfl⟩
def Whole (a : Int) (ro : Ending) : Prop := (I64 a ∧ ro = .returned (.tuple #[.int .i64 a, .int .i64 0])) ∨ (¬ I64 a ∧ ro = .returned (.tuple #[.int .i64 0, .int .i64 15]))
theorem f_whole {x : Nat} {a : Int} (h : rg x < top) (hv : val x = a * U) (w : World) : Calls Tryz.prog 50 #[.float .f64 x] w fun ro w' => Whole a ro ∧ w = w' := by
 have hU := U_pos
 by_cases ha : I64 a
 · exact (f_whole_in h hv ha w).mono fun ro w' hr => ⟨.inl ⟨ha, hr.1⟩, hr.2⟩
 · by_cases h2 : 9223372036854775807 < a
   · refine (f_whole_hi (Nat.le_of_lt h) ?_ w).mono fun ro w' hr => ⟨.inr ⟨ha, hr.1⟩, hr.2⟩
     rw [gr_val.2, hv]
     exact Int.mul_le_mul_of_nonneg_right (by omega) (by omega)
   · refine (f_whole_lo (Nat.le_of_lt h) ?_ w).mono fun ro w' hr => ⟨.inr ⟨ha, hr.1⟩, hr.2⟩
     rw [ngr_val.2, hv]
     exact Int.mul_lt_mul_of_pos_right (by unfold I64 at ha; omega) hU
theorem f_floor {x : Nat} (h : rg x < top) (w : World) : Calls Tryz.prog 11 #[.float .f64 x] w fun ro w' => Whole (flo x) ro ∧ w = w' := by
 obtain ⟨k1, k2, k3, k4⟩ := fl_val h
 have HM := Lib.hid (fun w => m_floor (Nat.le_of_lt h) w)
 have HW := Lib.hid (fun w => f_whole k1 k3 w)
 clear h k1 k2 k3 k4
 go_enter Tryz.func11, Tryz.ntmps11
 go_wp2_with (first | (go_at_call 51; refine (HM.out _).mono ?_; rintro e wa ⟨rfl, rfl⟩))
 go_at_call 50
 refine (HW.out _).mono ?_
 rintro e wa ⟨h | h, rfl⟩ <;> obtain ⟨h, rfl⟩ := h
 · have H := Lib.hid h
   clear h
   go_wp2_with fail
   exact bodyPost_ret (v := .tuple #[.int .i64 (flo x), .int .i64 0]) (by simp [results, Tryz.results11, go_sem]) rfl ⟨.inl ⟨H.out, rfl⟩, rfl⟩
 · have H := Lib.hid h
   clear h
   go_wp2_with fail
   exact bodyPost_ret (v := .tuple #[.int .i64 0, .int .i64 15]) (by simp [results, Tryz.results11, go_sem]) rfl ⟨.inr ⟨H.out, rfl⟩, rfl⟩
theorem f_ceil {x : Nat} (h : rg x < top) (w : World) : Calls Tryz.prog 12 #[.float .f64 x] w fun ro w' => Whole (cei x) ro ∧ w = w' := by
 obtain ⟨k1, k2, k3, k4⟩ := cl_val h
 have HM := Lib.hid (fun w => m_ceil (Nat.le_of_lt h) w)
 have HW := Lib.hid (fun w => f_whole k1 k3 w)
 clear h k1 k2 k3 k4
 go_enter Tryz.func12, Tryz.ntmps12
 go_wp2_with (first | (go_at_call 52; refine (HM.out _).mono ?_; rintro e wa ⟨rfl, rfl⟩))
 go_at_call 50
 refine (HW.out _).mono ?_
 rintro e wa ⟨h | h, rfl⟩ <;> obtain ⟨h, rfl⟩ := h
 · have H := Lib.hid h
   clear h
   go_wp2_with fail
   exact bodyPost_ret (v := .tuple #[.int .i64 (cei x), .int .i64 0]) (by simp [results, Tryz.results12, go_sem]) rfl ⟨.inl ⟨H.out, rfl⟩, rfl⟩
 · have H := Lib.hid h
   clear h
   go_wp2_with fail
   exact bodyPost_ret (v := .tuple #[.int .i64 0, .int .i64 15]) (by simp [results, Tryz.results12, go_sem]) rfl ⟨.inr ⟨H.out, rfl⟩, rfl⟩
theorem inf_whole {x : Nat} (way : Toward) (h : rg x = top) : rg (double.write ((double.read x).integral way)) = top ∧ val (double.write ((double.read x).integral way)) = val x := by
 rw [read_inf h]
 show rg (double.word (fsg x) double.infRung) = top ∧ val (double.word (fsg x) double.infRung) = val x
 rw [double_words.2.2.1]
 obtain ⟨k1, k2, _⟩ := word_parts (fsg x) (r := top) (by decide)
 refine ⟨k1, ?_⟩
 rw [val_eq (m := mg top) (by rw [k1]), val_eq (x := x) (m := mg top) (by rw [h]), k2]
theorem inf_out {x : Nat} (h : rg x = top) : val gr ≤ val x ∨ val x < val ngr := by
 have h5 := mg_top gr_val.1
 have h6 := mg_top ngr_val.1
 rw [val_eq (x := x) (m := mg top) (by rw [h]), val_eq (x := gr) (m := mg (rg gr)) rfl, val_eq (x := ngr) (m := mg (rg ngr)) rfl]
 rw [show fsg gr = false by decide, show fsg ngr = true by decide]
 unfold sn
 cases fsg x
 · left; simp only [Bool.false_eq_true, if_false]; omega
 · right; simp only [if_true]; omega
theorem f_whole_out {x : Nat} (h : rg x = top) (w : World) : Calls Tryz.prog 50 #[.float .f64 x] w fun ro w' => ro = .returned (.tuple #[.int .i64 0, .int .i64 15]) ∧ w = w' := by
 rcases inf_out h with q | q
 · exact f_whole_hi (by omega) q w
 · exact f_whole_lo (by omega) q w
theorem f_floor_inf {x : Nat} (h : rg x = top) (w : World) : Calls Tryz.prog 11 #[.float .f64 x] w fun ro w' => ro = .returned (.tuple #[.int .i64 0, .int .i64 15]) ∧ w = w' := by
 have HM := Lib.hid (fun w => m_floor (x := x) (by omega) w)
 have HW := Lib.hid (fun w => f_whole_out (x := flW x) (inf_whole .down h).1 w)
 clear h
 go_enter Tryz.func11, Tryz.ntmps11
 go_wp2_with (first | (go_at_call 51; refine (HM.out _).mono ?_; rintro e wa ⟨rfl, rfl⟩) | (go_at_call 50; refine (HW.out _).mono ?_; rintro e wa ⟨rfl, rfl⟩))
 exact bodyPost_ret (v := .tuple #[.int .i64 0, .int .i64 15]) (by simp [results, Tryz.results11, go_sem]) rfl ⟨rfl, rfl⟩
theorem arch_floor_nan {x : Nat} (h : top < rg x) (w : World) : ∃ y w', (callFunc 108 #[.float .f64 x]).run Tryz.prog w = .ok (.value (.float .f64 y)) w' ∧ top < rg y ∧ (w' = w ∨ w' = w.drew) := by
 obtain ⟨y, w', h1, h2, h3⟩ := floor_nan (P := Tryz.prog) "math.archFloor" .down h w
 refine ⟨y, w', ?_, h2, h3⟩
 rw [run_callFunc_extern Tryz.func108 (by kernel_rfl) (by kernel_rfl) (by kernel_rfl) (e := Extern.MathFloor.toIntegral "math.archFloor" .down) (by kernel_rfl), h1]
 rfl
theorem m_floor_nan {x : Nat} (h : top < rg x) (w : World) : Calls Tryz.prog 51 #[.float .f64 x] w fun ro w' => (∃ y, ro = .returned (.float .f64 y) ∧ top < rg y) ∧ Dn w w' := by
 obtain ⟨y, w1, HL, hy, hw⟩ := arch_floor_nan h w
 have HD := Lib.hid (show Dn w w1 by rcases hw with e | e <;> subst e; exact Dn.refl _; exact (Dn.refl _).drew)
 have HY := Lib.hid hy
 clear hw hy h
 go_enter Tryz.func51, Tryz.ntmps51
 go_wp2_with (simp only [HL])
 go_ret
 exact ⟨⟨y, rfl, HY.out⟩, HD.out⟩
theorem f_floor_nan {x : Nat} (h : top < rg x) (w : World) : Calls Tryz.prog 11 #[.float .f64 x] w fun ro w' => ro = .returned (.tuple #[.int .i64 0, .int .i64 1]) ∧ Dn w w' := by
 have HM := Lib.hid (fun w => m_floor_nan h w)
 clear h
 go_enter Tryz.func11, Tryz.ntmps11
 go_wp2_with fail
 go_at_call 51
 refine (HM.out _).mono ?_
 rintro e wa ⟨⟨y, rfl, hy⟩, hd⟩
 have HW := Lib.hid (fun w => f_whole_nan hy w)
 clear hy
 go_wp2_with (go_at_call 50; refine (HW.out _).mono ?_; rintro e wb ⟨rfl, rfl⟩)
 exact bodyPost_ret (v := .tuple #[.int .i64 0, .int .i64 1]) (by simp [results, Tryz.results11, go_sem]) rfl ⟨rfl, hd⟩
theorem f_ceil_inf {x : Nat} (h : rg x = top) (w : World) : Calls Tryz.prog 12 #[.float .f64 x] w fun ro w' => ro = .returned (.tuple #[.int .i64 0, .int .i64 15]) ∧ w = w' := by
 have HM := Lib.hid (fun w => m_ceil (x := x) (by omega) w)
 have HW := Lib.hid (fun w => f_whole_out (x := clW x) (inf_whole .up h).1 w)
 clear h
 go_enter Tryz.func12, Tryz.ntmps12
 go_wp2_with (first | (go_at_call 52; refine (HM.out _).mono ?_; rintro e wa ⟨rfl, rfl⟩) | (go_at_call 50; refine (HW.out _).mono ?_; rintro e wa ⟨rfl, rfl⟩))
 exact bodyPost_ret (v := .tuple #[.int .i64 0, .int .i64 15]) (by simp [results, Tryz.results12, go_sem]) rfl ⟨rfl, rfl⟩
theorem arch_ceil_nan {x : Nat} (h : top < rg x) (w : World) : ∃ y w', (callFunc 110 #[.float .f64 x]).run Tryz.prog w = .ok (.value (.float .f64 y)) w' ∧ top < rg y ∧ (w' = w ∨ w' = w.drew) := by
 obtain ⟨y, w', h1, h2, h3⟩ := floor_nan (P := Tryz.prog) "math.archCeil" .up h w
 refine ⟨y, w', ?_, h2, h3⟩
 rw [run_callFunc_extern Tryz.func110 (by kernel_rfl) (by kernel_rfl) (by kernel_rfl) (e := Extern.MathFloor.toIntegral "math.archCeil" .up) (by kernel_rfl), h1]
 rfl
theorem m_ceil_nan {x : Nat} (h : top < rg x) (w : World) : Calls Tryz.prog 52 #[.float .f64 x] w fun ro w' => (∃ y, ro = .returned (.float .f64 y) ∧ top < rg y) ∧ Dn w w' := by
 obtain ⟨y, w1, HL, hy, hw⟩ := arch_ceil_nan h w
 have HD := Lib.hid (show Dn w w1 by rcases hw with e | e <;> subst e; exact Dn.refl _; exact (Dn.refl _).drew)
 have HY := Lib.hid hy
 clear hw hy h
 go_enter Tryz.func52, Tryz.ntmps52
 go_wp2_with (simp only [HL])
 go_ret
 exact ⟨⟨y, rfl, HY.out⟩, HD.out⟩
theorem f_ceil_nan {x : Nat} (h : top < rg x) (w : World) : Calls Tryz.prog 12 #[.float .f64 x] w fun ro w' => ro = .returned (.tuple #[.int .i64 0, .int .i64 1]) ∧ Dn w w' := by
 have HM := Lib.hid (fun w => m_ceil_nan h w)
 clear h
 go_enter Tryz.func12, Tryz.ntmps12
 go_wp2_with fail
 go_at_call 52
 refine (HM.out _).mono ?_
 rintro e wa ⟨⟨y, rfl, hy⟩, hd⟩
 have HW := Lib.hid (fun w => f_whole_nan hy w)
 clear hy
 go_wp2_with (go_at_call 50; refine (HW.out _).mono ?_; rintro e wb ⟨rfl, rfl⟩)
 exact bodyPost_ret (v := .tuple #[.int .i64 0, .int .i64 1]) (by simp [results, Tryz.results12, go_sem]) rfl ⟨rfl, hd⟩
theorem f_cmp {x : Nat} {n : Int} (h : rg x < top) (hn : I64 n) (w : World) : Calls Tryz.prog 13 #[.float .f64 x, .int .i64 n] w fun ro w' => ro = .returned (.tuple #[.int .i64 (c3 (val x) (n * U)), .int .i64 0]) ∧ w = w' := by
 have q0 := ne_self (Nat.le_of_lt h)
 have HA := Lib.hid (fun w => f_against (Nat.le_of_lt h) hn w)
 clear h hn
 go_enter Tryz.func13, Tryz.ntmps13
 go_wp2_with (first | simp only [q0] | (go_at_call 53; refine (HA.out _).mono ?_; rintro e wa ⟨rfl, rfl⟩))
 exact bodyPost_ret (v := .tuple #[.int .i64 (c3 (val x) (n * U)), .int .i64 0]) (by simp [results, Tryz.results13, go_sem]) rfl ⟨rfl, rfl⟩
end Go.Proofs.YteodjglbpfmikaaGreatDoor
