/- Walks and laws that the claim's theorem leans on: part 16. -/
import Derived.Test.YteodjglbpfmikaaGreatDoorZAx1
import Derived.Test.YteodjglbpfmikaaGreatDoorZAx10
import Derived.Test.YteodjglbpfmikaaGreatDoorZAx15
import Derived.ProofKit
import Derived.OpenShut
import Derived.Lib.SmallJoins
import Derived.ChangeMaps5
import Derived.LaidMore
import Derived.Stop.Joined
import Derived.Lib.LaidTab
namespace Go.Proofs.YteodjglbpfmikaaGreatDoor
set_option maxHeartbeats 4000000
set_option maxRecDepth 100000
open Go.RowKit
set_option linter.unusedVariables false
set_option linter.unusedSimpArgs false
open Fl
def ofA (k : Int) : Int := if k % 8 = 0 ∨ k % 8 = 2 then -1 else 0
def ofB (k lo : Int) : Int := if k % 8 = 0 ∨ k % 8 = 2 then 0 else lo
def ofC (k : Int) : Int := if k % 8 = 1 ∨ k % 8 = 2 then 1 else 0
def ofD (k n lo : Int) : Int := if k % 8 = 1 ∨ k % 8 = 2 then 0 else lo + n % 16
theorem rOf9_0 (k n lo : Int) (hk : 0 ≤ k ∧ k ≤ 255) (hn : 0 ≤ n ∧ n ≤ 255) (hl : -32768 ≤ lo ∧ lo ≤ 32767) (h : k % 8 = 0) (w : World) :
  Calls Tryz.prog 7 #[.agg #[.int .u8 k, .int .u8 n, .int .i16 lo]] w fun ro w' => ro = .returned (.agg #[.int .i8 (-1), .int .i64 0, .int .i8 0, .int .i64 (lo + n % 16)]) ∧ Dn w w' := by
 have t0 : (k % 8 == 0) = true := by simp [h]
 have t1 : (k % 8 == 1) = false := by simp [h]
 have t2 : (k % 8 == 2) = false := by simp [h]
 go_enter Tryz.func7, Tryz.ntmps7
 go_wp2_with fail
 exact bodyPost_ret (v := .agg #[.int .i8 (-1), .int .i64 0, .int .i8 0, .int .i64 (lo + n % 16)]) (by simp [results, Tryz.results7, go_sem]) rfl ⟨rfl, (((Dn.refl _).alloc _).alloc _).alloc _⟩
theorem rOf9_1 (k n lo : Int) (hk : 0 ≤ k ∧ k ≤ 255) (hn : 0 ≤ n ∧ n ≤ 255) (hl : -32768 ≤ lo ∧ lo ≤ 32767) (h : k % 8 = 1) (w : World) :
  Calls Tryz.prog 7 #[.agg #[.int .u8 k, .int .u8 n, .int .i16 lo]] w fun ro w' => ro = .returned (.agg #[.int .i8 0, .int .i64 lo, .int .i8 1, .int .i64 0]) ∧ Dn w w' := by
 have t0 : (k % 8 == 0) = false := by simp [h]
 have t1 : (k % 8 == 1) = true := by simp [h]
 have t2 : (k % 8 == 2) = false := by simp [h]
 go_enter Tryz.func7, Tryz.ntmps7
 go_wp2_with fail
 exact bodyPost_ret (v := .agg #[.int .i8 0, .int .i64 lo, .int .i8 1, .int .i64 0]) (by simp [results, Tryz.results7, go_sem]) rfl ⟨rfl, (((Dn.refl _).alloc _).alloc _).alloc _⟩
theorem rOf9_2 (k n lo : Int) (hk : 0 ≤ k ∧ k ≤ 255) (hn : 0 ≤ n ∧ n ≤ 255) (hl : -32768 ≤ lo ∧ lo ≤ 32767) (h : k % 8 = 2) (w : World) :
  Calls Tryz.prog 7 #[.agg #[.int .u8 k, .int .u8 n, .int .i16 lo]] w fun ro w' => ro = .returned (.agg #[.int .i8 (-1), .int .i64 0, .int .i8 1, .int .i64 0]) ∧ Dn w w' := by
 have t0 : (k % 8 == 0) = false := by simp [h]
 have t1 : (k % 8 == 1) = false := by simp [h]
 have t2 : (k % 8 == 2) = true := by simp [h]
 go_enter Tryz.func7, Tryz.ntmps7
 go_wp2_with fail
 exact bodyPost_ret (v := .agg #[.int .i8 (-1), .int .i64 0, .int .i8 1, .int .i64 0]) (by simp [results, Tryz.results7, go_sem]) rfl ⟨rfl, (((Dn.refl _).alloc _).alloc _).alloc _⟩
theorem rOf9_x (k n lo : Int) (hk : 0 ≤ k ∧ k ≤ 255) (hn : 0 ≤ n ∧ n ≤ 255) (hl : -32768 ≤ lo ∧ lo ≤ 32767) (h0 : k % 8 ≠ 0) (h1 : k % 8 ≠ 1) (h2 : k % 8 ≠ 2) (w : World) :
  Calls Tryz.prog 7 #[.agg #[.int .u8 k, .int .u8 n, .int .i16 lo]] w fun ro w' => ro = .returned (.agg #[.int .i8 0, .int .i64 lo, .int .i8 0, .int .i64 (lo + n % 16)]) ∧ Dn w w' := by
 have t0 : (k % 8 == 0) = false := by simp; omega
 have t1 : (k % 8 == 1) = false := by simp; omega
 have t2 : (k % 8 == 2) = false := by simp; omega
 go_enter Tryz.func7, Tryz.ntmps7
 go_wp2_with fail
 exact bodyPost_ret (v := .agg #[.int .i8 0, .int .i64 lo, .int .i8 0, .int .i64 (lo + n % 16)]) (by simp [results, Tryz.results7, go_sem]) rfl ⟨rfl, (((Dn.refl _).alloc _).alloc _).alloc _⟩
theorem rOf9 (k n lo : Int) (hk : 0 ≤ k ∧ k ≤ 255) (hn : 0 ≤ n ∧ n ≤ 255) (hl : -32768 ≤ lo ∧ lo ≤ 32767) (w : World) :
   Calls Tryz.prog 7 #[.agg #[.int .u8 k, .int .u8 n, .int .i16 lo]] w fun ro w' => ro = .returned (.agg #[.int .i8 (ofA k), .int .i64 (ofB k lo), .int .i8 (ofC k), .int .i64 (ofD k n lo)]) ∧ Dn w w' := by
 unfold ofA ofB ofC ofD
 by_cases h0 : k % 8 = 0
 · rw [if_pos (Or.inl h0), if_pos (Or.inl h0), if_neg (by omega), if_neg (by omega)]; exact rOf9_0 k n lo hk hn hl h0 w
 · by_cases h2 : k % 8 = 2
   · rw [if_pos (Or.inr h2), if_pos (Or.inr h2), if_pos (Or.inr h2), if_pos (Or.inr h2)]; exact rOf9_2 k n lo hk hn hl h2 w
   · rw [if_neg (by omega), if_neg (by omega)]
     by_cases h1 : k % 8 = 1
     · rw [if_pos (Or.inl h1), if_pos (Or.inl h1)]; exact rOf9_1 k n lo hk hn hl h1 w
     · rw [if_neg (by omega), if_neg (by omega)]; exact rOf9_x k n lo hk hn hl h0 h1 h2 w
theorem sft_ok (i d k : Int) (hi : i ≠ 0 ∨ I64 (d + k)) : Sft i d k i (if i = 0 then d + k else d) 0 := by
 unfold Sft
 by_cases h : i = 0
 · rw [if_pos h]
   refine .inr ⟨h, h, ?_⟩
   rcases hi with h2 | h2
   · exact absurd h h2
   · exact .inl ⟨h2, rfl, rfl⟩
 · rw [if_neg h]; exact .inl ⟨h, rfl, rfl, rfl⟩
theorem sft_over (d k : Int) (h : ¬ I64 (d + k)) : Sft 0 d k 0 0 15 := .inr ⟨rfl, rfl, .inr ⟨h, rfl, rfl⟩⟩
theorem of_right {k n lo : Int} (hk : 0 ≤ k ∧ k ≤ 255) (hn : 0 ≤ n ∧ n ≤ 255) (hl : -32768 ≤ lo ∧ lo ≤ 32767) : I64 (ofB k lo) ∧ I64 (ofD k n lo) ∧ rnErr (ofA k) (ofB k lo) (ofC k) (ofD k n lo) = 0 ∧ (ofA k = 0 ∨ ofA k = -1) ∧ (ofC k = 0 ∨ ofC k = 1) ∧ (ofA k ≠ 0 → ofB k lo = 0) ∧ (ofC k ≠ 0 → ofD k n lo = 0) ∧ (ofA k = 0 → ofC k = 0 → ofB k lo ≤ ofD k n lo) := by
 have b1 : I64 (ofB k lo) := by unfold ofB I64; split <;> omega
 have b2 : I64 (ofD k n lo) := by unfold ofD I64; split <;> omega
 refine ⟨b1, b2, (rnErr_ok b1 b2).2 ?_, ?_, ?_, ?_, ?_, ?_⟩
 · unfold RnOk eOk key ofA ofB ofC ofD
   split <;> split <;> omega
 · unfold ofA; split <;> simp
 · unfold ofC; split <;> simp
 · unfold ofA ofB; split <;> simp
 · unfold ofC ofD; split <;> simp
 · unfold ofA ofB ofC ofD
   split <;> split <;> omega
theorem axis_shift {k n lo : Int} (sh : Int) (hk : 0 ≤ k ∧ k ≤ 255) (hn : 0 ≤ n ∧ n ≤ 255) (hl : -32768 ≤ lo ∧ lo ≤ 32767) :
   ∃ q0 q1 q2 q3 e, ShR (ofA k) (ofB k lo) (ofC k) (ofD k n lo) sh q0 q1 q2 q3 e ∧ (e = 15 ∨ (e = 0 ∧ (q0 = 0 ∨ q0 = -1) ∧ (q2 = 0 ∨ q2 = 1) ∧ (q0 ≠ 0 → q1 = 0) ∧ (q2 ≠ 0 → q3 = 0) ∧ (q0 = 0 → q2 = 0 → q1 ≤ q3) ∧ I64 q1 ∧ I64 q3)) := by
 obtain ⟨b1, b2, h0, hA, hC, hB, hD, hAC⟩ := of_right hk hn hl
 generalize ofA k = a at *
 generalize ofB k lo = b at *
 generalize ofC k = c at *
 generalize ofD k n lo = d at *
 by_cases h1 : a ≠ 0 ∨ I64 (b + sh)
 · have s1 := sft_ok a b sh h1
   by_cases h2 : c ≠ 0 ∨ I64 (d + sh)
   · have s2 := sft_ok c d sh h2
     refine ⟨_, _, _, _, 0, .inr ⟨h0, _, _, _, _, _, _, s1, s2, .inr (.inr ⟨rfl, rfl, rfl, rfl, rfl, rfl, rfl⟩)⟩, .inr ⟨rfl, hA, hC, fun q => ?_, fun q => ?_, fun q1 q2 => ?_, ?_, ?_⟩⟩
     · rw [if_neg q]; exact hB q
     · rw [if_neg q]; exact hD q
     · rw [if_pos q1, if_pos q2]; have := hAC q1 q2; omega
     · split
       · rcases h1 with h1 | h1
         · contradiction
         · exact h1
       · exact b1
     · split
       · rcases h2 with h2 | h2
         · contradiction
         · exact h2
       · exact b2
   · have hc : c = 0 := by
       rcases Int.decEq c 0 with q | q
       · exact absurd (.inl q) h2
       · exact q
     have s2 := sft_over d sh (fun q => h2 (.inr q))
     rw [← hc] at s2
     exact ⟨0, 0, 0, 0, 15, .inr ⟨h0, _, _, _, _, _, _, s1, s2, .inr (.inl ⟨rfl, by decide, rfl, rfl, rfl, rfl, rfl⟩)⟩, .inl rfl⟩
 · have ha : a = 0 := by
     rcases Int.decEq a 0 with q | q
     · exact absurd (.inl q) h1
     · exact q
   have s1 := sft_over b sh (fun q => h1 (.inr q))
   rw [← ha] at s1
   by_cases h2 : c ≠ 0 ∨ I64 (d + sh)
   · exact ⟨0, 0, 0, 0, 15, .inr ⟨h0, _, _, _, _, _, _, s1, sft_ok c d sh h2, .inl ⟨by decide, rfl, rfl, rfl, rfl, rfl⟩⟩, .inl rfl⟩
   · have hc : c = 0 := by
       rcases Int.decEq c 0 with q | q
       · exact absurd (.inl q) h2
       · exact q
     have s2 := sft_over d sh (fun q => h2 (.inr q))
     rw [← hc] at s2
     exact ⟨0, 0, 0, 0, 15, .inr ⟨h0, _, _, _, _, _, _, s1, s2, .inl ⟨by decide, rfl, rfl, rfl, rfl, rfl⟩⟩, .inl rfl⟩
theorem has_right {q0 q1 q2 q3 z : Int} (h0 : q0 = 0 ∨ q0 = -1) (h2 : q2 = 0 ∨ q2 = 1) (h1 : q0 ≠ 0 → q1 = 0) (h3 : q2 ≠ 0 → q3 = 0) (hh : q0 = 0 → q2 = 0 → q1 ≤ q3) (b1 : I64 q1) (b3 : I64 q3) (hz : I64 z) : decide (Wi 0 z 0 z q0 q1 q2 q3) = decide ((q0 = 0 → q1 ≤ z) ∧ (q2 = 0 → z ≤ q3)) := by
 apply decide_eq_decide.2
 unfold Wi RnOk eOk key
 unfold I64 at *
 constructor
 · rintro ⟨_, _, h4, h5⟩
   exact ⟨fun q => by omega, fun q => by omega⟩
 · rintro ⟨h4, h5⟩
   have h6 : q0 = 0 ∧ q1 ≤ z ∨ q0 = -1 ∧ q1 = 0 := by
     rcases h0 with q | q
     · exact .inl ⟨q, h4 q⟩
     · exact .inr ⟨q, h1 (by omega)⟩
   have h7 : q2 = 0 ∧ z ≤ q3 ∨ q2 = 1 ∧ q3 = 0 := by
     rcases h2 with q | q
     · exact .inl ⟨q, h5 q⟩
     · exact .inr ⟨q, h3 (by omega)⟩
   refine ⟨⟨.inl rfl, .inl rfl, by omega, by omega, by omega⟩, ⟨?_, ?_, by omega, by omega, by omega⟩, by omega, by omega⟩
   · rcases h6 with q | q
     · exact .inl q.1
     · exact .inr ⟨.inr q.1, q.2⟩
   · rcases h7 with q | q
     · exact .inl q.1
     · exact .inr ⟨.inl q.1, q.2⟩
theorem above_is {f : Nat} {q : Int} : decide (0 ≤ c3 (val f) (q * U)) = decide (q ≤ flo f) := by
 have hU := U_pos
 apply decide_eq_decide.2
 have h : val f < q * U ↔ flo f < q := by unfold flo; exact (Int.ediv_lt_iff_lt_mul hU).symm
 unfold c3
 split
 · constructor <;> intro k <;> omega
 · split <;> constructor <;> intro k <;> omega
theorem below_is {f : Nat} {q : Int} : decide (c3 (val f) (q * U) ≤ 0) = decide (cei f ≤ q) := by
 have hU := U_pos
 apply decide_eq_decide.2
 have h : q * U < val f ↔ q < cei f := by
   have h1 := Int.ediv_lt_iff_lt_mul hU (a := -val f) (b := -q)
   rw [Int.neg_mul] at h1
   unfold cei
   constructor
   · intro k; have := h1.2 (by omega); omega
   · intro k; have := h1.1 (by omega); omega
 unfold c3
 split
 · constructor <;> intro k <;> omega
 · split <;> constructor <;> intro k <;> omega
theorem flo_cei (f : Nat) : flo f ≤ cei f := by
 have hU := U_pos
 have h1 := (flo_le f).1
 have h2 := (cei_ge f).1
 exact Int.le_of_mul_le_mul_right (Int.le_trans h1 h2) hU
theorem c53 : rg 4845873199050653696 < top ∧ val 4845873199050653696 = 9007199254740992 * U := by
 refine ⟨by decide, ?_⟩
 rw [val_eq (m := 9007199254740992 * un 1074) (by
  show mg 4845873199050653696 = _
  have h : mg 4845873199050653696 = 2 ^ 52 * un 1075 := by decide +kernel
  rw [h, show 1075 = 1 + 1074 from rfl, un_add, ← Nat.mul_assoc])]
 show ((9007199254740992 * un 1074 : Nat) : Int) = _
 rw [Int.natCast_mul]; rfl
theorem n53 : rg 14069245235905429504 < top ∧ val 14069245235905429504 = -9007199254740992 * U := by
 refine ⟨by decide, ?_⟩
 rw [val_eq (m := 9007199254740992 * un 1074) (by
  show mg 4845873199050653696 = _
  have h : mg 4845873199050653696 = 2 ^ 52 * un 1075 := by decide +kernel
  rw [h, show 1075 = 1 + 1074 from rfl, un_add, ← Nat.mul_assoc])]
 show -((9007199254740992 * un 1074 : Nat) : Int) = _
 rw [Int.natCast_mul, ← Int.neg_mul]; rfl
theorem axis_11 (k n lo sh a0 b0 c0 d0 q0 q1 q2 q3 : Int) (f : Nat) (w : World) (g0 : q0 = 0 ∨ q0 = -1) (g2 : q2 = 0 ∨ q2 = 1) (g1 : q0 ≠ 0 → q1 = 0) (g3 : q2 ≠ 0 → q3 = 0) (hh : q0 = 0 → q2 = 0 → q1 ≤ q3) (b1 : I64 q1) (b3 : I64 q3) (x0 : (q0 == 0) = true) (x2 : (q2 == 0) = true) (HOF : Hid (∀ W, Calls Tryz.prog 7 #[.agg #[.int .u8 k, .int .u8 n, .int .i16 lo]] W fun ro w' => ro = .returned (.agg #[.int .i8 a0, .int .i64 b0, .int .i8 c0, .int .i64 d0]) ∧ Dn W w')) (HSH : Hid (∀ W, Calls Tryz.prog 6 #[.agg #[.int .i8 a0, .int .i64 b0, .int .i8 c0, .int .i64 d0], .int .i64 sh] W fun ro w' => ro = .returned (.tuple #[.agg #[.int .i8 q0, .int .i64 q1, .int .i8 q2, .int .i64 q3], .int .i64 0]) ∧ Dn W w')) (hE : EnvP w) :
   Calls Tryz.prog 3 #[.agg #[.int .u8 k, .int .u8 n, .int .i16 lo], .int .i64 sh, .float .f64 f] w fun ro w' => ro = .returned (.bool true) ∧ Dn w w' := by
 have hle := hh (by simpa using x0) (by simpa using x2)
 obtain ⟨y1, ⟨r1, s1⟩, p1⟩ := f_down q1 b1
 obtain ⟨y3, ⟨r3, s3⟩, p3⟩ := f_down q3 b3
 obtain ⟨z1, ⟨r4, s4⟩, p4⟩ := f_up q1 b1
 obtain ⟨z3, ⟨r5, s5⟩, p5⟩ := f_up q3 b3
 obtain ⟨dw, hdw⟩ : ∃ dw : Int → Nat, dw = fun z => if z = q3 then y3 else y1 := ⟨_, rfl⟩
 obtain ⟨uw, huw⟩ : ∃ uw : Int → Nat, uw = fun z => if z = q3 then z3 else z1 := ⟨_, rfl⟩
 have HDN := Lib.hid (fun z (W : World) (h : z = q1 ∨ z = q3) => show Calls Tryz.prog 9 #[.int .i64 z] W fun ro w' => ro = .returned (.float .f64 (dw z)) ∧ W = w' by
   rw [hdw]
   by_cases e : z = q3
   · simp only [e, if_true]; exact p3 W
   · simp only [e, if_false]
     rcases h with h | h
     · rw [h]; exact p1 W
     · exact absurd h e)
 have HUP := Lib.hid (fun z (W : World) (h : z = q1 ∨ z = q3) => show Calls Tryz.prog 10 #[.int .i64 z] W fun ro w' => ro = .returned (.float .f64 (uw z)) ∧ W = w' by
   rw [huw]
   by_cases e : z = q3
   · simp only [e, if_true]; exact p5 W
   · simp only [e, if_false]
     rcases h with h | h
     · rw [h]; exact p4 W
     · exact absurd h e)
 have O1 : Hid ((FloatKind.f64.format.order (dw q1) (dw q3) == some .gt) = false) := Lib.hid (by
   have e3 : dw q3 = y3 := by rw [hdw]; simp
   rw [e3]
   by_cases e : q1 = q3
   · rw [e, e3, show FloatKind.f64.format = Ieee.double from rfl, ord_gt (Nat.le_of_lt r3) (Nat.le_of_lt r3)]; simp
   · have e1 : dw q1 = y1 := by rw [hdw]; simp [e]
     rw [e1, show FloatKind.f64.format = Ieee.double from rfl, ord_gt (Nat.le_of_lt r1) (Nat.le_of_lt r3), val_sr, val_sr, s1, s3]
     have := MG_le.2 (Fl.dn_mono hle)
     simp; omega)
 have O2 : Hid ((FloatKind.f64.format.order (uw q1) (uw q3) == some .gt) = false) := Lib.hid (by
   have e3 : uw q3 = z3 := by rw [huw]; simp
   rw [e3]
   by_cases e : q1 = q3
   · rw [e, e3, show FloatKind.f64.format = Ieee.double from rfl, ord_gt (Nat.le_of_lt r5) (Nat.le_of_lt r5)]; simp
   · have e1 : uw q1 = z1 := by rw [huw]; simp [e]
     rw [e1, show FloatKind.f64.format = Ieee.double from rfl, ord_gt (Nat.le_of_lt r4) (Nat.le_of_lt r5), val_sr, val_sr, s4, s5]
     have := MG_le.2 (Fl.up_mono hle)
     simp; omega)
 rcases Nat.lt_trichotomy (rg f) top with hf | hf | hf
 rotate_left
 · have HFL := Lib.hid (fun W => (f_floor_inf hf W).mono fun e w' h => (⟨h.1, dn_eq h.2⟩ : e = .returned (.tuple #[.int .i64 0, .int .i64 15]) ∧ Dn W w'))
   have HCE := Lib.hid (fun W => (f_ceil_inf hf W).mono fun e w' h => (⟨h.1, dn_eq h.2⟩ : e = .returned (.tuple #[.int .i64 0, .int .i64 15]) ∧ Dn W w'))
   exact axis_err11 k n lo sh a0 b0 c0 d0 q0 q1 q2 q3 f w 15 dw uw (by decide) x0 x2 HOF HSH HDN HUP O1 O2 HFL HCE hE
 · have HFL := Lib.hid (fun W => f_floor_nan hf W)
   have HCE := Lib.hid (fun W => f_ceil_nan hf W)
   exact axis_err11 k n lo sh a0 b0 c0 d0 q0 q1 q2 q3 f w 1 dw uw (by decide) x0 x2 HOF HSH HDN HUP O1 O2 HFL HCE hE
 have hU := U_pos
 have hfl := flo_le f
 have hce := cei_ge f
 have hfc := flo_cei f
 have M0 : Hid ((FloatKind.f64.format.order f f == some .eq) = true) := Lib.hid (by rw [show FloatKind.f64.format = Ieee.double from rfl, ord_eq (Nat.le_of_lt hf) (Nat.le_of_lt hf)]; simp)
 have mix : ∀ (g h a b : Int), (g != h) = true → 9007199254740992 * U < val f ∨ val f < -9007199254740992 * U → Hid (∀ W, Calls Tryz.prog 11 #[.float .f64 f] W fun ro w' => ro = .returned (.tuple #[.int .i64 a, .int .i64 g]) ∧ Dn W w') → Hid (∀ W, Calls Tryz.prog 12 #[.float .f64 f] W fun ro w' => ro = .returned (.tuple #[.int .i64 b, .int .i64 h]) ∧ Dn W w') → Calls Tryz.prog 3 #[.agg #[.int .u8 k, .int .u8 n, .int .i16 lo], .int .i64 sh, .float .f64 f] w fun ro w' => ro = .returned (.bool true) ∧ Dn w w' := by
   intro g h a b hg hv HFL HCE
   by_cases h1 : 9007199254740992 * U < val f
   · have M1 : Hid ((FloatKind.f64.format.order f 4845873199050653696 == some .gt) = true) := Lib.hid (by rw [show FloatKind.f64.format = Ieee.double from rfl, ord_gt (Nat.le_of_lt hf) (Nat.le_of_lt c53.1), c53.2]; simpa using h1)
     exact axis_mix111 k n lo sh a0 b0 c0 d0 q0 q1 q2 q3 f w g h a b dw uw hg x0 x2 HOF HSH HDN HUP O1 O2 M0 M1 HFL HCE hE
   · have M1 : Hid ((FloatKind.f64.format.order f 4845873199050653696 == some .gt) = false) := Lib.hid (by rw [show FloatKind.f64.format = Ieee.double from rfl, ord_gt (Nat.le_of_lt hf) (Nat.le_of_lt c53.1), c53.2]; simpa using h1)
     have M2 : Hid ((FloatKind.f64.format.order f 14069245235905429504 == some .lt) = true) := Lib.hid (by
       rw [show FloatKind.f64.format = Ieee.double from rfl, ord_lt (Nat.le_of_lt hf) (Nat.le_of_lt n53.1), n53.2]
       rcases hv with hv | hv
       · exact absurd hv h1
       · simpa using hv)
     exact axis_mix211 k n lo sh a0 b0 c0 d0 q0 q1 q2 q3 f w g h a b dw uw hg x0 x2 HOF HSH HDN HUP O1 O2 M0 M1 M2 HFL HCE hE
 by_cases ha : I64 (flo f) <;> by_cases hb : I64 (cei f)
 rotate_left
 · refine mix 0 15 (flo f) 0 (by decide) (.inl ?_) (Lib.hid fun W => (f_floor hf W).mono fun e w' h => ⟨h.1.elim (fun q => q.2) (fun q => absurd ha q.1), dn_eq h.2⟩) (Lib.hid fun W => (f_ceil hf W).mono fun e w' h => ⟨h.1.elim (fun q => absurd q.1 hb) (fun q => q.2), dn_eq h.2⟩)
   have h9 : 9223372036854775807 * U ≤ (cei f - 1) * U := Int.mul_le_mul_of_nonneg_right (by unfold I64 at ha hb; omega) (by omega)
   omega
 · refine mix 15 0 0 (cei f) (by decide) (.inr ?_) (Lib.hid fun W => (f_floor hf W).mono fun e w' h => ⟨h.1.elim (fun q => absurd q.1 ha) (fun q => q.2), dn_eq h.2⟩) (Lib.hid fun W => (f_ceil hf W).mono fun e w' h => ⟨h.1.elim (fun q => q.2) (fun q => absurd hb q.1), dn_eq h.2⟩)
   have h9 : (flo f + 1) * U ≤ -9223372036854775808 * U := Int.mul_le_mul_of_nonneg_right (by unfold I64 at ha hb; omega) (by omega)
   omega
 · have HFL := Lib.hid (fun W => (f_floor hf W).mono fun e w' h => (⟨h.1.elim (fun q => absurd q.1 ha) (fun q => q.2), dn_eq h.2⟩ : e = .returned (.tuple #[.int .i64 0, .int .i64 15]) ∧ Dn W w'))
   have HCE := Lib.hid (fun W => (f_ceil hf W).mono fun e w' h => (⟨h.1.elim (fun q => absurd q.1 hb) (fun q => q.2), dn_eq h.2⟩ : e = .returned (.tuple #[.int .i64 0, .int .i64 15]) ∧ Dn W w'))
   exact axis_err11 k n lo sh a0 b0 c0 d0 q0 q1 q2 q3 f w 15 dw uw (by decide) x0 x2 HOF HSH HDN HUP O1 O2 HFL HCE hE
 have HFL := Lib.hid (fun W => (f_floor hf W).mono fun e w' h => (⟨h.1.elim (fun q => q.2) (fun q => absurd ha q.1), dn_eq h.2⟩ : e = .returned (.tuple #[.int .i64 (flo f), .int .i64 0]) ∧ Dn W w'))
 have HCE := Lib.hid (fun W => (f_ceil hf W).mono fun e w' h => (⟨h.1.elim (fun q => q.2) (fun q => absurd hb q.1), dn_eq h.2⟩ : e = .returned (.tuple #[.int .i64 (cei f), .int .i64 0]) ∧ Dn W w'))
 have hcmp : decide (eC 0 (flo f) 0 (cei f) ≤ 0) = true := by
   rw [decide_eq_true_eq]
   unfold eC c3
   rw [if_neg (by decide)]
   split
   · decide
   · rw [if_neg (by omega)]; decide
 have HC1 := Lib.hid (fun W => f_cmp (n := q1) hf b1 W)
 have HC2 := Lib.hid (fun W => f_cmp (n := q3) hf b3 W)
 have HH1 := Lib.hid (fun W => rnHas q0 q1 q2 q3 (flo f) W b1 b3 ha)
 have HH2 := Lib.hid (fun W => rnHas q0 q1 q2 q3 (cei f) W b1 b3 hb)
 rw [has_right g0 g2 g1 g3 hh b1 b3 ha] at HH1
 rw [has_right g0 g2 g1 g3 hh b1 b3 hb] at HH2
 have ca := above_is (f := f) (q := q1)
 have cb := below_is (f := f) (q := q3)
 obtain ⟨p0, hp0⟩ : ∃ p : Bool, p = decide ((q0 = 0 → q1 ≤ flo f) ∧ (q2 = 0 → flo f ≤ q3)) := ⟨_, rfl⟩
 obtain ⟨p2, hp2⟩ : ∃ p : Bool, p = decide ((q0 = 0 → q1 ≤ cei f) ∧ (q2 = 0 → cei f ≤ q3)) := ⟨_, rfl⟩
 obtain ⟨A, hA⟩ : ∃ p : Bool, p = decide (q1 ≤ flo f) := ⟨_, rfl⟩
 obtain ⟨B, hB⟩ : ∃ p : Bool, p = decide (cei f ≤ q3) := ⟨_, rfl⟩
 obtain ⟨wb, hwb⟩ : ∃ p : Bool, p = (flo f == cei f) := ⟨_, rfl⟩
 rw [← hp0] at HH1
 rw [← hp2] at HH2
 rw [← hA] at ca
 rw [← hB] at cb
 have wbf := hwb.symm
 have e0 : q0 = 0 := by simpa using x0
 have e2 : q2 = 0 := by simpa using x2
 have K1 : wb = true → p0 = (A && B) := by
   intro h
   rw [h] at hwb
   have he : flo f = cei f := by simpa using hwb.symm
   rw [hp0, hA, hB, ← he]
   simp [e0, e2]
 have K2 : (!p0 || !p2 || (A && B)) = true := by
   rw [hp2, hp0, hA, hB]
   simp [e0, e2]
   omega
 clear hwb hA hB hp0 hp2
 cases wb with
 | true =>
   cases p0 with
   | true =>
     cases p2 with
     | true =>
       cases A with
       | true =>
         cases B with
         | true =>
           exact axis_m11ttttt k n lo sh a0 b0 c0 d0 q0 q1 q2 q3 f w (flo f) (cei f) (c3 (val f) (q1 * U)) (c3 (val f) (q3 * U)) dw uw x0 x2 wbf hcmp ca cb HOF HSH HDN HUP O1 O2 HFL HCE HC1 HC2 HH1 HH2 hE
         | false =>
           exact absurd (K1 rfl) (by decide)
       | false =>
         cases B with
         | true =>
           exact absurd (K1 rfl) (by decide)
         | false =>
           exact absurd (K1 rfl) (by decide)
     | false =>
       cases A with
       | true =>
         cases B with
         | true =>
           exact axis_m11ttttf k n lo sh a0 b0 c0 d0 q0 q1 q2 q3 f w (flo f) (cei f) (c3 (val f) (q1 * U)) (c3 (val f) (q3 * U)) dw uw x0 x2 wbf hcmp ca cb HOF HSH HDN HUP O1 O2 HFL HCE HC1 HC2 HH1 HH2 hE
         | false =>
           exact absurd (K1 rfl) (by decide)
       | false =>
         cases B with
         | true =>
           exact absurd (K1 rfl) (by decide)
         | false =>
           exact absurd (K1 rfl) (by decide)
   | false =>
     cases p2 with
     | true =>
       cases A with
       | true =>
         cases B with
         | true =>
           exact absurd (K1 rfl) (by decide)
         | false =>
           exact axis_m11ttffx k n lo sh a0 b0 c0 d0 q0 q1 q2 q3 f w (flo f) (cei f) (c3 (val f) (q1 * U)) (c3 (val f) (q3 * U)) dw uw x0 x2 wbf hcmp ca cb HOF HSH HDN HUP O1 O2 HFL HCE HC1 HC2 HH1 hE
       | false =>
         cases B with
         | true =>
           exact axis_m11tftfx k n lo sh a0 b0 c0 d0 q0 q1 q2 q3 f w (flo f) (cei f) (c3 (val f) (q1 * U)) (c3 (val f) (q3 * U)) dw uw x0 x2 wbf hcmp ca cb HOF HSH HDN HUP O1 O2 HFL HCE HC1 HC2 HH1 hE
         | false =>
           exact axis_m11tfffx k n lo sh a0 b0 c0 d0 q0 q1 q2 q3 f w (flo f) (cei f) (c3 (val f) (q1 * U)) (c3 (val f) (q3 * U)) dw uw x0 x2 wbf hcmp ca cb HOF HSH HDN HUP O1 O2 HFL HCE HC1 HC2 HH1 hE
     | false =>
       cases A with
       | true =>
         cases B with
         | true =>
           exact absurd (K1 rfl) (by decide)
         | false =>
           exact axis_m11ttffx k n lo sh a0 b0 c0 d0 q0 q1 q2 q3 f w (flo f) (cei f) (c3 (val f) (q1 * U)) (c3 (val f) (q3 * U)) dw uw x0 x2 wbf hcmp ca cb HOF HSH HDN HUP O1 O2 HFL HCE HC1 HC2 HH1 hE
       | false =>
         cases B with
         | true =>
           exact axis_m11tftfx k n lo sh a0 b0 c0 d0 q0 q1 q2 q3 f w (flo f) (cei f) (c3 (val f) (q1 * U)) (c3 (val f) (q3 * U)) dw uw x0 x2 wbf hcmp ca cb HOF HSH HDN HUP O1 O2 HFL HCE HC1 HC2 HH1 hE
         | false =>
           exact axis_m11tfffx k n lo sh a0 b0 c0 d0 q0 q1 q2 q3 f w (flo f) (cei f) (c3 (val f) (q1 * U)) (c3 (val f) (q3 * U)) dw uw x0 x2 wbf hcmp ca cb HOF HSH HDN HUP O1 O2 HFL HCE HC1 HC2 HH1 hE
 | false =>
   cases p0 with
   | true =>
     cases p2 with
     | true =>
       cases A with
       | true =>
         cases B with
         | true =>
           exact axis_m11ftttt k n lo sh a0 b0 c0 d0 q0 q1 q2 q3 f w (flo f) (cei f) (c3 (val f) (q1 * U)) (c3 (val f) (q3 * U)) dw uw x0 x2 wbf hcmp ca cb HOF HSH HDN HUP O1 O2 HFL HCE HC1 HC2 HH1 HH2 hE
         | false =>
           exact absurd K2 (by decide)
       | false =>
         cases B with
         | true =>
           exact absurd K2 (by decide)
         | false =>
           exact absurd K2 (by decide)
     | false =>
       cases A with
       | true =>
         cases B with
         | true =>
           exact axis_m11fxxtf k n lo sh a0 b0 c0 d0 q0 q1 q2 q3 f w (flo f) (cei f) (c3 (val f) (q1 * U)) (c3 (val f) (q3 * U)) dw uw x0 x2 wbf hcmp HOF HSH HDN HUP O1 O2 HFL HCE HC1 HC2 HH1 HH2 hE
         | false =>
           exact axis_m11fxxtf k n lo sh a0 b0 c0 d0 q0 q1 q2 q3 f w (flo f) (cei f) (c3 (val f) (q1 * U)) (c3 (val f) (q3 * U)) dw uw x0 x2 wbf hcmp HOF HSH HDN HUP O1 O2 HFL HCE HC1 HC2 HH1 HH2 hE
       | false =>
         cases B with
         | true =>
           exact axis_m11fxxtf k n lo sh a0 b0 c0 d0 q0 q1 q2 q3 f w (flo f) (cei f) (c3 (val f) (q1 * U)) (c3 (val f) (q3 * U)) dw uw x0 x2 wbf hcmp HOF HSH HDN HUP O1 O2 HFL HCE HC1 HC2 HH1 HH2 hE
         | false =>
           exact axis_m11fxxtf k n lo sh a0 b0 c0 d0 q0 q1 q2 q3 f w (flo f) (cei f) (c3 (val f) (q1 * U)) (c3 (val f) (q3 * U)) dw uw x0 x2 wbf hcmp HOF HSH HDN HUP O1 O2 HFL HCE HC1 HC2 HH1 HH2 hE
   | false =>
     cases p2 with
     | true =>
       cases A with
       | true =>
         cases B with
         | true =>
           exact axis_m11fxxfx k n lo sh a0 b0 c0 d0 q0 q1 q2 q3 f w (flo f) (cei f) (c3 (val f) (q1 * U)) (c3 (val f) (q3 * U)) dw uw x0 x2 wbf hcmp HOF HSH HDN HUP O1 O2 HFL HCE HC1 HC2 HH1 hE
         | false =>
           exact axis_m11fxxfx k n lo sh a0 b0 c0 d0 q0 q1 q2 q3 f w (flo f) (cei f) (c3 (val f) (q1 * U)) (c3 (val f) (q3 * U)) dw uw x0 x2 wbf hcmp HOF HSH HDN HUP O1 O2 HFL HCE HC1 HC2 HH1 hE
       | false =>
         cases B with
         | true =>
           exact axis_m11fxxfx k n lo sh a0 b0 c0 d0 q0 q1 q2 q3 f w (flo f) (cei f) (c3 (val f) (q1 * U)) (c3 (val f) (q3 * U)) dw uw x0 x2 wbf hcmp HOF HSH HDN HUP O1 O2 HFL HCE HC1 HC2 HH1 hE
         | false =>
           exact axis_m11fxxfx k n lo sh a0 b0 c0 d0 q0 q1 q2 q3 f w (flo f) (cei f) (c3 (val f) (q1 * U)) (c3 (val f) (q3 * U)) dw uw x0 x2 wbf hcmp HOF HSH HDN HUP O1 O2 HFL HCE HC1 HC2 HH1 hE
     | false =>
       cases A with
       | true =>
         cases B with
         | true =>
           exact axis_m11fxxfx k n lo sh a0 b0 c0 d0 q0 q1 q2 q3 f w (flo f) (cei f) (c3 (val f) (q1 * U)) (c3 (val f) (q3 * U)) dw uw x0 x2 wbf hcmp HOF HSH HDN HUP O1 O2 HFL HCE HC1 HC2 HH1 hE
         | false =>
           exact axis_m11fxxfx k n lo sh a0 b0 c0 d0 q0 q1 q2 q3 f w (flo f) (cei f) (c3 (val f) (q1 * U)) (c3 (val f) (q3 * U)) dw uw x0 x2 wbf hcmp HOF HSH HDN HUP O1 O2 HFL HCE HC1 HC2 HH1 hE
       | false =>
         cases B with
         | true =>
           exact axis_m11fxxfx k n lo sh a0 b0 c0 d0 q0 q1 q2 q3 f w (flo f) (cei f) (c3 (val f) (q1 * U)) (c3 (val f) (q3 * U)) dw uw x0 x2 wbf hcmp HOF HSH HDN HUP O1 O2 HFL HCE HC1 HC2 HH1 hE
         | false =>
           exact axis_m11fxxfx k n lo sh a0 b0 c0 d0 q0 q1 q2 q3 f w (flo f) (cei f) (c3 (val f) (q1 * U)) (c3 (val f) (q3 * U)) dw uw x0 x2 wbf hcmp HOF HSH HDN HUP O1 O2 HFL HCE HC1 HC2 HH1 hE
theorem axis_10 (k n lo sh a0 b0 c0 d0 q0 q1 q2 q3 : Int) (f : Nat) (w : World) (g0 : q0 = 0 ∨ q0 = -1) (g2 : q2 = 0 ∨ q2 = 1) (g1 : q0 ≠ 0 → q1 = 0) (g3 : q2 ≠ 0 → q3 = 0) (hh : q0 = 0 → q2 = 0 → q1 ≤ q3) (b1 : I64 q1) (b3 : I64 q3) (x0 : (q0 == 0) = true) (x2 : (q2 == 0) = false) (HOF : Hid (∀ W, Calls Tryz.prog 7 #[.agg #[.int .u8 k, .int .u8 n, .int .i16 lo]] W fun ro w' => ro = .returned (.agg #[.int .i8 a0, .int .i64 b0, .int .i8 c0, .int .i64 d0]) ∧ Dn W w')) (HSH : Hid (∀ W, Calls Tryz.prog 6 #[.agg #[.int .i8 a0, .int .i64 b0, .int .i8 c0, .int .i64 d0], .int .i64 sh] W fun ro w' => ro = .returned (.tuple #[.agg #[.int .i8 q0, .int .i64 q1, .int .i8 q2, .int .i64 q3], .int .i64 0]) ∧ Dn W w')) (hE : EnvP w) :
   Calls Tryz.prog 3 #[.agg #[.int .u8 k, .int .u8 n, .int .i16 lo], .int .i64 sh, .float .f64 f] w fun ro w' => ro = .returned (.bool true) ∧ Dn w w' := by
 rcases Nat.lt_trichotomy (rg f) top with hf | hf | hf
 rotate_left
 · have HFL := Lib.hid (fun W => (f_floor_inf hf W).mono fun e w' h => (⟨h.1, dn_eq h.2⟩ : e = .returned (.tuple #[.int .i64 0, .int .i64 15]) ∧ Dn W w'))
   have HCE := Lib.hid (fun W => (f_ceil_inf hf W).mono fun e w' h => (⟨h.1, dn_eq h.2⟩ : e = .returned (.tuple #[.int .i64 0, .int .i64 15]) ∧ Dn W w'))
   exact axis_err10 k n lo sh a0 b0 c0 d0 q0 q1 q2 q3 f w 15 (by decide) x0 x2 HOF HSH HFL HCE hE
 · have HFL := Lib.hid (fun W => f_floor_nan hf W)
   have HCE := Lib.hid (fun W => f_ceil_nan hf W)
   exact axis_err10 k n lo sh a0 b0 c0 d0 q0 q1 q2 q3 f w 1 (by decide) x0 x2 HOF HSH HFL HCE hE
 have hU := U_pos
 have hfl := flo_le f
 have hce := cei_ge f
 have hfc := flo_cei f
 have M0 : Hid ((FloatKind.f64.format.order f f == some .eq) = true) := Lib.hid (by rw [show FloatKind.f64.format = Ieee.double from rfl, ord_eq (Nat.le_of_lt hf) (Nat.le_of_lt hf)]; simp)
 have mix : ∀ (g h a b : Int), (g != h) = true → 9007199254740992 * U < val f ∨ val f < -9007199254740992 * U → Hid (∀ W, Calls Tryz.prog 11 #[.float .f64 f] W fun ro w' => ro = .returned (.tuple #[.int .i64 a, .int .i64 g]) ∧ Dn W w') → Hid (∀ W, Calls Tryz.prog 12 #[.float .f64 f] W fun ro w' => ro = .returned (.tuple #[.int .i64 b, .int .i64 h]) ∧ Dn W w') → Calls Tryz.prog 3 #[.agg #[.int .u8 k, .int .u8 n, .int .i16 lo], .int .i64 sh, .float .f64 f] w fun ro w' => ro = .returned (.bool true) ∧ Dn w w' := by
   intro g h a b hg hv HFL HCE
   by_cases h1 : 9007199254740992 * U < val f
   · have M1 : Hid ((FloatKind.f64.format.order f 4845873199050653696 == some .gt) = true) := Lib.hid (by rw [show FloatKind.f64.format = Ieee.double from rfl, ord_gt (Nat.le_of_lt hf) (Nat.le_of_lt c53.1), c53.2]; simpa using h1)
     exact axis_mix110 k n lo sh a0 b0 c0 d0 q0 q1 q2 q3 f w g h a b hg x0 x2 HOF HSH M0 M1 HFL HCE hE
   · have M1 : Hid ((FloatKind.f64.format.order f 4845873199050653696 == some .gt) = false) := Lib.hid (by rw [show FloatKind.f64.format = Ieee.double from rfl, ord_gt (Nat.le_of_lt hf) (Nat.le_of_lt c53.1), c53.2]; simpa using h1)
     have M2 : Hid ((FloatKind.f64.format.order f 14069245235905429504 == some .lt) = true) := Lib.hid (by
       rw [show FloatKind.f64.format = Ieee.double from rfl, ord_lt (Nat.le_of_lt hf) (Nat.le_of_lt n53.1), n53.2]
       rcases hv with hv | hv
       · exact absurd hv h1
       · simpa using hv)
     exact axis_mix210 k n lo sh a0 b0 c0 d0 q0 q1 q2 q3 f w g h a b hg x0 x2 HOF HSH M0 M1 M2 HFL HCE hE
 by_cases ha : I64 (flo f) <;> by_cases hb : I64 (cei f)
 rotate_left
 · refine mix 0 15 (flo f) 0 (by decide) (.inl ?_) (Lib.hid fun W => (f_floor hf W).mono fun e w' h => ⟨h.1.elim (fun q => q.2) (fun q => absurd ha q.1), dn_eq h.2⟩) (Lib.hid fun W => (f_ceil hf W).mono fun e w' h => ⟨h.1.elim (fun q => absurd q.1 hb) (fun q => q.2), dn_eq h.2⟩)
   have h9 : 9223372036854775807 * U ≤ (cei f - 1) * U := Int.mul_le_mul_of_nonneg_right (by unfold I64 at ha hb; omega) (by omega)
   omega
 · refine mix 15 0 0 (cei f) (by decide) (.inr ?_) (Lib.hid fun W => (f_floor hf W).mono fun e w' h => ⟨h.1.elim (fun q => absurd q.1 ha) (fun q => q.2), dn_eq h.2⟩) (Lib.hid fun W => (f_ceil hf W).mono fun e w' h => ⟨h.1.elim (fun q => q.2) (fun q => absurd hb q.1), dn_eq h.2⟩)
   have h9 : (flo f + 1) * U ≤ -9223372036854775808 * U := Int.mul_le_mul_of_nonneg_right (by unfold I64 at ha hb; omega) (by omega)
   omega
 · have HFL := Lib.hid (fun W => (f_floor hf W).mono fun e w' h => (⟨h.1.elim (fun q => absurd q.1 ha) (fun q => q.2), dn_eq h.2⟩ : e = .returned (.tuple #[.int .i64 0, .int .i64 15]) ∧ Dn W w'))
   have HCE := Lib.hid (fun W => (f_ceil hf W).mono fun e w' h => (⟨h.1.elim (fun q => absurd q.1 hb) (fun q => q.2), dn_eq h.2⟩ : e = .returned (.tuple #[.int .i64 0, .int .i64 15]) ∧ Dn W w'))
   exact axis_err10 k n lo sh a0 b0 c0 d0 q0 q1 q2 q3 f w 15 (by decide) x0 x2 HOF HSH HFL HCE hE
 have HFL := Lib.hid (fun W => (f_floor hf W).mono fun e w' h => (⟨h.1.elim (fun q => q.2) (fun q => absurd ha q.1), dn_eq h.2⟩ : e = .returned (.tuple #[.int .i64 (flo f), .int .i64 0]) ∧ Dn W w'))
 have HCE := Lib.hid (fun W => (f_ceil hf W).mono fun e w' h => (⟨h.1.elim (fun q => q.2) (fun q => absurd hb q.1), dn_eq h.2⟩ : e = .returned (.tuple #[.int .i64 (cei f), .int .i64 0]) ∧ Dn W w'))
 have hcmp : decide (eC 0 (flo f) 0 (cei f) ≤ 0) = true := by
   rw [decide_eq_true_eq]
   unfold eC c3
   rw [if_neg (by decide)]
   split
   · decide
   · rw [if_neg (by omega)]; decide
 have HC1 := Lib.hid (fun W => f_cmp (n := q1) hf b1 W)
 have HC2 := Lib.hid (fun W => f_cmp (n := q3) hf b3 W)
 have HH1 := Lib.hid (fun W => rnHas q0 q1 q2 q3 (flo f) W b1 b3 ha)
 have HH2 := Lib.hid (fun W => rnHas q0 q1 q2 q3 (cei f) W b1 b3 hb)
 rw [has_right g0 g2 g1 g3 hh b1 b3 ha] at HH1
 rw [has_right g0 g2 g1 g3 hh b1 b3 hb] at HH2
 have ca := above_is (f := f) (q := q1)
 have cb := below_is (f := f) (q := q3)
 obtain ⟨p0, hp0⟩ : ∃ p : Bool, p = decide ((q0 = 0 → q1 ≤ flo f) ∧ (q2 = 0 → flo f ≤ q3)) := ⟨_, rfl⟩
 obtain ⟨p2, hp2⟩ : ∃ p : Bool, p = decide ((q0 = 0 → q1 ≤ cei f) ∧ (q2 = 0 → cei f ≤ q3)) := ⟨_, rfl⟩
 obtain ⟨A, hA⟩ : ∃ p : Bool, p = decide (q1 ≤ flo f) := ⟨_, rfl⟩
 obtain ⟨B, hB⟩ : ∃ p : Bool, p = decide (cei f ≤ q3) := ⟨_, rfl⟩
 obtain ⟨wb, hwb⟩ : ∃ p : Bool, p = (flo f == cei f) := ⟨_, rfl⟩
 rw [← hp0] at HH1
 rw [← hp2] at HH2
 rw [← hA] at ca
 rw [← hB] at cb
 have wbf := hwb.symm
 have e0 : q0 = 0 := by simpa using x0
 have e2 : ¬ q2 = 0 := by simpa using x2
 have K1 : wb = true → p0 = (A) := by
   intro h
   rw [h] at hwb
   have he : flo f = cei f := by simpa using hwb.symm
   rw [hp0, hA]
   simp [e0, e2]
 have K2 : (!p0 || !p2 || (A)) = true := by
   rw [hp2, hp0, hA]
   simp [e0, e2]
   omega
 clear hwb hA hB hp0 hp2
 cases wb with
 | true =>
   cases p0 with
   | true =>
     cases p2 with
     | true =>
       cases A with
       | true =>
         exact axis_m10ttttt k n lo sh a0 b0 c0 d0 q0 q1 q2 q3 f w (flo f) (cei f) (c3 (val f) (q1 * U)) (c3 (val f) (q3 * U)) x0 x2 wbf hcmp ca HOF HSH HFL HCE HC1 HH1 HH2 hE
       | false =>
         exact absurd (K1 rfl) (by decide)
     | false =>
       cases A with
       | true =>
         exact axis_m10ttttf k n lo sh a0 b0 c0 d0 q0 q1 q2 q3 f w (flo f) (cei f) (c3 (val f) (q1 * U)) (c3 (val f) (q3 * U)) x0 x2 wbf hcmp ca HOF HSH HFL HCE HC1 HH1 HH2 hE
       | false =>
         exact absurd (K1 rfl) (by decide)
   | false =>
     cases p2 with
     | true =>
       cases A with
       | true =>
         exact absurd (K1 rfl) (by decide)
       | false =>
         exact axis_m10tftfx k n lo sh a0 b0 c0 d0 q0 q1 q2 q3 f w (flo f) (cei f) (c3 (val f) (q1 * U)) (c3 (val f) (q3 * U)) x0 x2 wbf hcmp ca HOF HSH HFL HCE HC1 HH1 hE
     | false =>
       cases A with
       | true =>
         exact absurd (K1 rfl) (by decide)
       | false =>
         exact axis_m10tftfx k n lo sh a0 b0 c0 d0 q0 q1 q2 q3 f w (flo f) (cei f) (c3 (val f) (q1 * U)) (c3 (val f) (q3 * U)) x0 x2 wbf hcmp ca HOF HSH HFL HCE HC1 HH1 hE
 | false =>
   cases p0 with
   | true =>
     cases p2 with
     | true =>
       cases A with
       | true =>
         exact axis_m10ftttt k n lo sh a0 b0 c0 d0 q0 q1 q2 q3 f w (flo f) (cei f) (c3 (val f) (q1 * U)) (c3 (val f) (q3 * U)) x0 x2 wbf hcmp ca HOF HSH HFL HCE HC1 HH1 HH2 hE
       | false =>
         exact absurd K2 (by decide)
     | false =>
       cases A with
       | true =>
         exact axis_m10fxxtf k n lo sh a0 b0 c0 d0 q0 q1 q2 q3 f w (flo f) (cei f) (c3 (val f) (q1 * U)) (c3 (val f) (q3 * U)) x0 x2 wbf hcmp HOF HSH HFL HCE HC1 HH1 HH2 hE
       | false =>
         exact axis_m10fxxtf k n lo sh a0 b0 c0 d0 q0 q1 q2 q3 f w (flo f) (cei f) (c3 (val f) (q1 * U)) (c3 (val f) (q3 * U)) x0 x2 wbf hcmp HOF HSH HFL HCE HC1 HH1 HH2 hE
   | false =>
     cases p2 with
     | true =>
       cases A with
       | true =>
         exact axis_m10fxxfx k n lo sh a0 b0 c0 d0 q0 q1 q2 q3 f w (flo f) (cei f) (c3 (val f) (q1 * U)) (c3 (val f) (q3 * U)) x0 x2 wbf hcmp HOF HSH HFL HCE HC1 HH1 hE
       | false =>
         exact axis_m10fxxfx k n lo sh a0 b0 c0 d0 q0 q1 q2 q3 f w (flo f) (cei f) (c3 (val f) (q1 * U)) (c3 (val f) (q3 * U)) x0 x2 wbf hcmp HOF HSH HFL HCE HC1 HH1 hE
     | false =>
       cases A with
       | true =>
         exact axis_m10fxxfx k n lo sh a0 b0 c0 d0 q0 q1 q2 q3 f w (flo f) (cei f) (c3 (val f) (q1 * U)) (c3 (val f) (q3 * U)) x0 x2 wbf hcmp HOF HSH HFL HCE HC1 HH1 hE
       | false =>
         exact axis_m10fxxfx k n lo sh a0 b0 c0 d0 q0 q1 q2 q3 f w (flo f) (cei f) (c3 (val f) (q1 * U)) (c3 (val f) (q3 * U)) x0 x2 wbf hcmp HOF HSH HFL HCE HC1 HH1 hE
theorem axis_01 (k n lo sh a0 b0 c0 d0 q0 q1 q2 q3 : Int) (f : Nat) (w : World) (g0 : q0 = 0 ∨ q0 = -1) (g2 : q2 = 0 ∨ q2 = 1) (g1 : q0 ≠ 0 → q1 = 0) (g3 : q2 ≠ 0 → q3 = 0) (hh : q0 = 0 → q2 = 0 → q1 ≤ q3) (b1 : I64 q1) (b3 : I64 q3) (x0 : (q0 == 0) = false) (x2 : (q2 == 0) = true) (HOF : Hid (∀ W, Calls Tryz.prog 7 #[.agg #[.int .u8 k, .int .u8 n, .int .i16 lo]] W fun ro w' => ro = .returned (.agg #[.int .i8 a0, .int .i64 b0, .int .i8 c0, .int .i64 d0]) ∧ Dn W w')) (HSH : Hid (∀ W, Calls Tryz.prog 6 #[.agg #[.int .i8 a0, .int .i64 b0, .int .i8 c0, .int .i64 d0], .int .i64 sh] W fun ro w' => ro = .returned (.tuple #[.agg #[.int .i8 q0, .int .i64 q1, .int .i8 q2, .int .i64 q3], .int .i64 0]) ∧ Dn W w')) (hE : EnvP w) :
   Calls Tryz.prog 3 #[.agg #[.int .u8 k, .int .u8 n, .int .i16 lo], .int .i64 sh, .float .f64 f] w fun ro w' => ro = .returned (.bool true) ∧ Dn w w' := by
 rcases Nat.lt_trichotomy (rg f) top with hf | hf | hf
 rotate_left
 · have HFL := Lib.hid (fun W => (f_floor_inf hf W).mono fun e w' h => (⟨h.1, dn_eq h.2⟩ : e = .returned (.tuple #[.int .i64 0, .int .i64 15]) ∧ Dn W w'))
   have HCE := Lib.hid (fun W => (f_ceil_inf hf W).mono fun e w' h => (⟨h.1, dn_eq h.2⟩ : e = .returned (.tuple #[.int .i64 0, .int .i64 15]) ∧ Dn W w'))
   exact axis_err01 k n lo sh a0 b0 c0 d0 q0 q1 q2 q3 f w 15 (by decide) x0 x2 HOF HSH HFL HCE hE
 · have HFL := Lib.hid (fun W => f_floor_nan hf W)
   have HCE := Lib.hid (fun W => f_ceil_nan hf W)
   exact axis_err01 k n lo sh a0 b0 c0 d0 q0 q1 q2 q3 f w 1 (by decide) x0 x2 HOF HSH HFL HCE hE
 have hU := U_pos
 have hfl := flo_le f
 have hce := cei_ge f
 have hfc := flo_cei f
 have M0 : Hid ((FloatKind.f64.format.order f f == some .eq) = true) := Lib.hid (by rw [show FloatKind.f64.format = Ieee.double from rfl, ord_eq (Nat.le_of_lt hf) (Nat.le_of_lt hf)]; simp)
 have mix : ∀ (g h a b : Int), (g != h) = true → 9007199254740992 * U < val f ∨ val f < -9007199254740992 * U → Hid (∀ W, Calls Tryz.prog 11 #[.float .f64 f] W fun ro w' => ro = .returned (.tuple #[.int .i64 a, .int .i64 g]) ∧ Dn W w') → Hid (∀ W, Calls Tryz.prog 12 #[.float .f64 f] W fun ro w' => ro = .returned (.tuple #[.int .i64 b, .int .i64 h]) ∧ Dn W w') → Calls Tryz.prog 3 #[.agg #[.int .u8 k, .int .u8 n, .int .i16 lo], .int .i64 sh, .float .f64 f] w fun ro w' => ro = .returned (.bool true) ∧ Dn w w' := by
   intro g h a b hg hv HFL HCE
   by_cases h1 : 9007199254740992 * U < val f
   · have M1 : Hid ((FloatKind.f64.format.order f 4845873199050653696 == some .gt) = true) := Lib.hid (by rw [show FloatKind.f64.format = Ieee.double from rfl, ord_gt (Nat.le_of_lt hf) (Nat.le_of_lt c53.1), c53.2]; simpa using h1)
     exact axis_mix101 k n lo sh a0 b0 c0 d0 q0 q1 q2 q3 f w g h a b hg x0 x2 HOF HSH M0 M1 HFL HCE hE
   · have M1 : Hid ((FloatKind.f64.format.order f 4845873199050653696 == some .gt) = false) := Lib.hid (by rw [show FloatKind.f64.format = Ieee.double from rfl, ord_gt (Nat.le_of_lt hf) (Nat.le_of_lt c53.1), c53.2]; simpa using h1)
     have M2 : Hid ((FloatKind.f64.format.order f 14069245235905429504 == some .lt) = true) := Lib.hid (by
       rw [show FloatKind.f64.format = Ieee.double from rfl, ord_lt (Nat.le_of_lt hf) (Nat.le_of_lt n53.1), n53.2]
       rcases hv with hv | hv
       · exact absurd hv h1
       · simpa using hv)
     exact axis_mix201 k n lo sh a0 b0 c0 d0 q0 q1 q2 q3 f w g h a b hg x0 x2 HOF HSH M0 M1 M2 HFL HCE hE
 by_cases ha : I64 (flo f) <;> by_cases hb : I64 (cei f)
 rotate_left
 · refine mix 0 15 (flo f) 0 (by decide) (.inl ?_) (Lib.hid fun W => (f_floor hf W).mono fun e w' h => ⟨h.1.elim (fun q => q.2) (fun q => absurd ha q.1), dn_eq h.2⟩) (Lib.hid fun W => (f_ceil hf W).mono fun e w' h => ⟨h.1.elim (fun q => absurd q.1 hb) (fun q => q.2), dn_eq h.2⟩)
   have h9 : 9223372036854775807 * U ≤ (cei f - 1) * U := Int.mul_le_mul_of_nonneg_right (by unfold I64 at ha hb; omega) (by omega)
   omega
 · refine mix 15 0 0 (cei f) (by decide) (.inr ?_) (Lib.hid fun W => (f_floor hf W).mono fun e w' h => ⟨h.1.elim (fun q => absurd q.1 ha) (fun q => q.2), dn_eq h.2⟩) (Lib.hid fun W => (f_ceil hf W).mono fun e w' h => ⟨h.1.elim (fun q => q.2) (fun q => absurd hb q.1), dn_eq h.2⟩)
   have h9 : (flo f + 1) * U ≤ -9223372036854775808 * U := Int.mul_le_mul_of_nonneg_right (by unfold I64 at ha hb; omega) (by omega)
   omega
 · have HFL := Lib.hid (fun W => (f_floor hf W).mono fun e w' h => (⟨h.1.elim (fun q => absurd q.1 ha) (fun q => q.2), dn_eq h.2⟩ : e = .returned (.tuple #[.int .i64 0, .int .i64 15]) ∧ Dn W w'))
   have HCE := Lib.hid (fun W => (f_ceil hf W).mono fun e w' h => (⟨h.1.elim (fun q => absurd q.1 hb) (fun q => q.2), dn_eq h.2⟩ : e = .returned (.tuple #[.int .i64 0, .int .i64 15]) ∧ Dn W w'))
   exact axis_err01 k n lo sh a0 b0 c0 d0 q0 q1 q2 q3 f w 15 (by decide) x0 x2 HOF HSH HFL HCE hE
 have HFL := Lib.hid (fun W => (f_floor hf W).mono fun e w' h => (⟨h.1.elim (fun q => q.2) (fun q => absurd ha q.1), dn_eq h.2⟩ : e = .returned (.tuple #[.int .i64 (flo f), .int .i64 0]) ∧ Dn W w'))
 have HCE := Lib.hid (fun W => (f_ceil hf W).mono fun e w' h => (⟨h.1.elim (fun q => q.2) (fun q => absurd hb q.1), dn_eq h.2⟩ : e = .returned (.tuple #[.int .i64 (cei f), .int .i64 0]) ∧ Dn W w'))
 have hcmp : decide (eC 0 (flo f) 0 (cei f) ≤ 0) = true := by
   rw [decide_eq_true_eq]
   unfold eC c3
   rw [if_neg (by decide)]
   split
   · decide
   · rw [if_neg (by omega)]; decide
 have HC1 := Lib.hid (fun W => f_cmp (n := q1) hf b1 W)
 have HC2 := Lib.hid (fun W => f_cmp (n := q3) hf b3 W)
 have HH1 := Lib.hid (fun W => rnHas q0 q1 q2 q3 (flo f) W b1 b3 ha)
 have HH2 := Lib.hid (fun W => rnHas q0 q1 q2 q3 (cei f) W b1 b3 hb)
 rw [has_right g0 g2 g1 g3 hh b1 b3 ha] at HH1
 rw [has_right g0 g2 g1 g3 hh b1 b3 hb] at HH2
 have ca := above_is (f := f) (q := q1)
 have cb := below_is (f := f) (q := q3)
 obtain ⟨p0, hp0⟩ : ∃ p : Bool, p = decide ((q0 = 0 → q1 ≤ flo f) ∧ (q2 = 0 → flo f ≤ q3)) := ⟨_, rfl⟩
 obtain ⟨p2, hp2⟩ : ∃ p : Bool, p = decide ((q0 = 0 → q1 ≤ cei f) ∧ (q2 = 0 → cei f ≤ q3)) := ⟨_, rfl⟩
 obtain ⟨A, hA⟩ : ∃ p : Bool, p = decide (q1 ≤ flo f) := ⟨_, rfl⟩
 obtain ⟨B, hB⟩ : ∃ p : Bool, p = decide (cei f ≤ q3) := ⟨_, rfl⟩
 obtain ⟨wb, hwb⟩ : ∃ p : Bool, p = (flo f == cei f) := ⟨_, rfl⟩
 rw [← hp0] at HH1
 rw [← hp2] at HH2
 rw [← hA] at ca
 rw [← hB] at cb
 have wbf := hwb.symm
 have e0 : ¬ q0 = 0 := by simpa using x0
 have e2 : q2 = 0 := by simpa using x2
 have K1 : wb = true → p0 = (B) := by
   intro h
   rw [h] at hwb
   have he : flo f = cei f := by simpa using hwb.symm
   rw [hp0, hB, ← he]
   simp [e0, e2]
 have K2 : (!p0 || !p2 || (B)) = true := by
   rw [hp2, hp0, hB]
   simp [e0, e2]
   omega
 clear hwb hA hB hp0 hp2
 cases wb with
 | true =>
   cases p0 with
   | true =>
     cases p2 with
     | true =>
       cases B with
       | true =>
         exact axis_m01ttttt k n lo sh a0 b0 c0 d0 q0 q1 q2 q3 f w (flo f) (cei f) (c3 (val f) (q1 * U)) (c3 (val f) (q3 * U)) x0 x2 wbf hcmp cb HOF HSH HFL HCE HC2 HH1 HH2 hE
       | false =>
         exact absurd (K1 rfl) (by decide)
     | false =>
       cases B with
       | true =>
         exact axis_m01ttttf k n lo sh a0 b0 c0 d0 q0 q1 q2 q3 f w (flo f) (cei f) (c3 (val f) (q1 * U)) (c3 (val f) (q3 * U)) x0 x2 wbf hcmp cb HOF HSH HFL HCE HC2 HH1 HH2 hE
       | false =>
         exact absurd (K1 rfl) (by decide)
   | false =>
     cases p2 with
     | true =>
       cases B with
       | true =>
         exact absurd (K1 rfl) (by decide)
       | false =>
         exact axis_m01ttffx k n lo sh a0 b0 c0 d0 q0 q1 q2 q3 f w (flo f) (cei f) (c3 (val f) (q1 * U)) (c3 (val f) (q3 * U)) x0 x2 wbf hcmp cb HOF HSH HFL HCE HC2 HH1 hE
     | false =>
       cases B with
       | true =>
         exact absurd (K1 rfl) (by decide)
       | false =>
         exact axis_m01ttffx k n lo sh a0 b0 c0 d0 q0 q1 q2 q3 f w (flo f) (cei f) (c3 (val f) (q1 * U)) (c3 (val f) (q3 * U)) x0 x2 wbf hcmp cb HOF HSH HFL HCE HC2 HH1 hE
 | false =>
   cases p0 with
   | true =>
     cases p2 with
     | true =>
       cases B with
       | true =>
         exact axis_m01ftttt k n lo sh a0 b0 c0 d0 q0 q1 q2 q3 f w (flo f) (cei f) (c3 (val f) (q1 * U)) (c3 (val f) (q3 * U)) x0 x2 wbf hcmp cb HOF HSH HFL HCE HC2 HH1 HH2 hE
       | false =>
         exact absurd K2 (by decide)
     | false =>
       cases B with
       | true =>
         exact axis_m01fxxtf k n lo sh a0 b0 c0 d0 q0 q1 q2 q3 f w (flo f) (cei f) (c3 (val f) (q1 * U)) (c3 (val f) (q3 * U)) x0 x2 wbf hcmp HOF HSH HFL HCE HC2 HH1 HH2 hE
       | false =>
         exact axis_m01fxxtf k n lo sh a0 b0 c0 d0 q0 q1 q2 q3 f w (flo f) (cei f) (c3 (val f) (q1 * U)) (c3 (val f) (q3 * U)) x0 x2 wbf hcmp HOF HSH HFL HCE HC2 HH1 HH2 hE
   | false =>
     cases p2 with
     | true =>
       cases B with
       | true =>
         exact axis_m01fxxfx k n lo sh a0 b0 c0 d0 q0 q1 q2 q3 f w (flo f) (cei f) (c3 (val f) (q1 * U)) (c3 (val f) (q3 * U)) x0 x2 wbf hcmp HOF HSH HFL HCE HC2 HH1 hE
       | false =>
         exact axis_m01fxxfx k n lo sh a0 b0 c0 d0 q0 q1 q2 q3 f w (flo f) (cei f) (c3 (val f) (q1 * U)) (c3 (val f) (q3 * U)) x0 x2 wbf hcmp HOF HSH HFL HCE HC2 HH1 hE
     | false =>
       cases B with
       | true =>
         exact axis_m01fxxfx k n lo sh a0 b0 c0 d0 q0 q1 q2 q3 f w (flo f) (cei f) (c3 (val f) (q1 * U)) (c3 (val f) (q3 * U)) x0 x2 wbf hcmp HOF HSH HFL HCE HC2 HH1 hE
       | false =>
         exact axis_m01fxxfx k n lo sh a0 b0 c0 d0 q0 q1 q2 q3 f w (flo f) (cei f) (c3 (val f) (q1 * U)) (c3 (val f) (q3 * U)) x0 x2 wbf hcmp HOF HSH HFL HCE HC2 HH1 hE
theorem axis_00 (k n lo sh a0 b0 c0 d0 q0 q1 q2 q3 : Int) (f : Nat) (w : World) (g0 : q0 = 0 ∨ q0 = -1) (g2 : q2 = 0 ∨ q2 = 1) (g1 : q0 ≠ 0 → q1 = 0) (g3 : q2 ≠ 0 → q3 = 0) (hh : q0 = 0 → q2 = 0 → q1 ≤ q3) (b1 : I64 q1) (b3 : I64 q3) (x0 : (q0 == 0) = false) (x2 : (q2 == 0) = false) (HOF : Hid (∀ W, Calls Tryz.prog 7 #[.agg #[.int .u8 k, .int .u8 n, .int .i16 lo]] W fun ro w' => ro = .returned (.agg #[.int .i8 a0, .int .i64 b0, .int .i8 c0, .int .i64 d0]) ∧ Dn W w')) (HSH : Hid (∀ W, Calls Tryz.prog 6 #[.agg #[.int .i8 a0, .int .i64 b0, .int .i8 c0, .int .i64 d0], .int .i64 sh] W fun ro w' => ro = .returned (.tuple #[.agg #[.int .i8 q0, .int .i64 q1, .int .i8 q2, .int .i64 q3], .int .i64 0]) ∧ Dn W w')) (hE : EnvP w) :
   Calls Tryz.prog 3 #[.agg #[.int .u8 k, .int .u8 n, .int .i16 lo], .int .i64 sh, .float .f64 f] w fun ro w' => ro = .returned (.bool true) ∧ Dn w w' := by
 rcases Nat.lt_trichotomy (rg f) top with hf | hf | hf
 rotate_left
 · have HFL := Lib.hid (fun W => (f_floor_inf hf W).mono fun e w' h => (⟨h.1, dn_eq h.2⟩ : e = .returned (.tuple #[.int .i64 0, .int .i64 15]) ∧ Dn W w'))
   have HCE := Lib.hid (fun W => (f_ceil_inf hf W).mono fun e w' h => (⟨h.1, dn_eq h.2⟩ : e = .returned (.tuple #[.int .i64 0, .int .i64 15]) ∧ Dn W w'))
   exact axis_err00 k n lo sh a0 b0 c0 d0 q0 q1 q2 q3 f w 15 (by decide) x0 x2 HOF HSH HFL HCE hE
 · have HFL := Lib.hid (fun W => f_floor_nan hf W)
   have HCE := Lib.hid (fun W => f_ceil_nan hf W)
   exact axis_err00 k n lo sh a0 b0 c0 d0 q0 q1 q2 q3 f w 1 (by decide) x0 x2 HOF HSH HFL HCE hE
 have hU := U_pos
 have hfl := flo_le f
 have hce := cei_ge f
 have hfc := flo_cei f
 have M0 : Hid ((FloatKind.f64.format.order f f == some .eq) = true) := Lib.hid (by rw [show FloatKind.f64.format = Ieee.double from rfl, ord_eq (Nat.le_of_lt hf) (Nat.le_of_lt hf)]; simp)
 have mix : ∀ (g h a b : Int), (g != h) = true → 9007199254740992 * U < val f ∨ val f < -9007199254740992 * U → Hid (∀ W, Calls Tryz.prog 11 #[.float .f64 f] W fun ro w' => ro = .returned (.tuple #[.int .i64 a, .int .i64 g]) ∧ Dn W w') → Hid (∀ W, Calls Tryz.prog 12 #[.float .f64 f] W fun ro w' => ro = .returned (.tuple #[.int .i64 b, .int .i64 h]) ∧ Dn W w') → Calls Tryz.prog 3 #[.agg #[.int .u8 k, .int .u8 n, .int .i16 lo], .int .i64 sh, .float .f64 f] w fun ro w' => ro = .returned (.bool true) ∧ Dn w w' := by
   intro g h a b hg hv HFL HCE
   by_cases h1 : 9007199254740992 * U < val f
   · have M1 : Hid ((FloatKind.f64.format.order f 4845873199050653696 == some .gt) = true) := Lib.hid (by rw [show FloatKind.f64.format = Ieee.double from rfl, ord_gt (Nat.le_of_lt hf) (Nat.le_of_lt c53.1), c53.2]; simpa using h1)
     exact axis_mix100 k n lo sh a0 b0 c0 d0 q0 q1 q2 q3 f w g h a b hg x0 x2 HOF HSH M0 M1 HFL HCE hE
   · have M1 : Hid ((FloatKind.f64.format.order f 4845873199050653696 == some .gt) = false) := Lib.hid (by rw [show FloatKind.f64.format = Ieee.double from rfl, ord_gt (Nat.le_of_lt hf) (Nat.le_of_lt c53.1), c53.2]; simpa using h1)
     have M2 : Hid ((FloatKind.f64.format.order f 14069245235905429504 == some .lt) = true) := Lib.hid (by
       rw [show FloatKind.f64.format = Ieee.double from rfl, ord_lt (Nat.le_of_lt hf) (Nat.le_of_lt n53.1), n53.2]
       rcases hv with hv | hv
       · exact absurd hv h1
       · simpa using hv)
     exact axis_mix200 k n lo sh a0 b0 c0 d0 q0 q1 q2 q3 f w g h a b hg x0 x2 HOF HSH M0 M1 M2 HFL HCE hE
 by_cases ha : I64 (flo f) <;> by_cases hb : I64 (cei f)
 rotate_left
 · refine mix 0 15 (flo f) 0 (by decide) (.inl ?_) (Lib.hid fun W => (f_floor hf W).mono fun e w' h => ⟨h.1.elim (fun q => q.2) (fun q => absurd ha q.1), dn_eq h.2⟩) (Lib.hid fun W => (f_ceil hf W).mono fun e w' h => ⟨h.1.elim (fun q => absurd q.1 hb) (fun q => q.2), dn_eq h.2⟩)
   have h9 : 9223372036854775807 * U ≤ (cei f - 1) * U := Int.mul_le_mul_of_nonneg_right (by unfold I64 at ha hb; omega) (by omega)
   omega
 · refine mix 15 0 0 (cei f) (by decide) (.inr ?_) (Lib.hid fun W => (f_floor hf W).mono fun e w' h => ⟨h.1.elim (fun q => absurd q.1 ha) (fun q => q.2), dn_eq h.2⟩) (Lib.hid fun W => (f_ceil hf W).mono fun e w' h => ⟨h.1.elim (fun q => q.2) (fun q => absurd hb q.1), dn_eq h.2⟩)
   have h9 : (flo f + 1) * U ≤ -9223372036854775808 * U := Int.mul_le_mul_of_nonneg_right (by unfold I64 at ha hb; omega) (by omega)
   omega
 · have HFL := Lib.hid (fun W => (f_floor hf W).mono fun e w' h => (⟨h.1.elim (fun q => absurd q.1 ha) (fun q => q.2), dn_eq h.2⟩ : e = .returned (.tuple #[.int .i64 0, .int .i64 15]) ∧ Dn W w'))
   have HCE := Lib.hid (fun W => (f_ceil hf W).mono fun e w' h => (⟨h.1.elim (fun q => absurd q.1 hb) (fun q => q.2), dn_eq h.2⟩ : e = .returned (.tuple #[.int .i64 0, .int .i64 15]) ∧ Dn W w'))
   exact axis_err00 k n lo sh a0 b0 c0 d0 q0 q1 q2 q3 f w 15 (by decide) x0 x2 HOF HSH HFL HCE hE
 have HFL := Lib.hid (fun W => (f_floor hf W).mono fun e w' h => (⟨h.1.elim (fun q => q.2) (fun q => absurd ha q.1), dn_eq h.2⟩ : e = .returned (.tuple #[.int .i64 (flo f), .int .i64 0]) ∧ Dn W w'))
 have HCE := Lib.hid (fun W => (f_ceil hf W).mono fun e w' h => (⟨h.1.elim (fun q => q.2) (fun q => absurd hb q.1), dn_eq h.2⟩ : e = .returned (.tuple #[.int .i64 (cei f), .int .i64 0]) ∧ Dn W w'))
 have hcmp : decide (eC 0 (flo f) 0 (cei f) ≤ 0) = true := by
   rw [decide_eq_true_eq]
   unfold eC c3
   rw [if_neg (by decide)]
   split
   · decide
   · rw [if_neg (by omega)]; decide
 have HC1 := Lib.hid (fun W => f_cmp (n := q1) hf b1 W)
 have HC2 := Lib.hid (fun W => f_cmp (n := q3) hf b3 W)
 have HH1 := Lib.hid (fun W => rnHas q0 q1 q2 q3 (flo f) W b1 b3 ha)
 have HH2 := Lib.hid (fun W => rnHas q0 q1 q2 q3 (cei f) W b1 b3 hb)
 rw [has_right g0 g2 g1 g3 hh b1 b3 ha] at HH1
 rw [has_right g0 g2 g1 g3 hh b1 b3 hb] at HH2
 have ca := above_is (f := f) (q := q1)
 have cb := below_is (f := f) (q := q3)
 obtain ⟨p0, hp0⟩ : ∃ p : Bool, p = decide ((q0 = 0 → q1 ≤ flo f) ∧ (q2 = 0 → flo f ≤ q3)) := ⟨_, rfl⟩
 obtain ⟨p2, hp2⟩ : ∃ p : Bool, p = decide ((q0 = 0 → q1 ≤ cei f) ∧ (q2 = 0 → cei f ≤ q3)) := ⟨_, rfl⟩
 obtain ⟨A, hA⟩ : ∃ p : Bool, p = decide (q1 ≤ flo f) := ⟨_, rfl⟩
 obtain ⟨B, hB⟩ : ∃ p : Bool, p = decide (cei f ≤ q3) := ⟨_, rfl⟩
 obtain ⟨wb, hwb⟩ : ∃ p : Bool, p = (flo f == cei f) := ⟨_, rfl⟩
 rw [← hp0] at HH1
 rw [← hp2] at HH2
 rw [← hA] at ca
 rw [← hB] at cb
 have wbf := hwb.symm
 have e0 : ¬ q0 = 0 := by simpa using x0
 have e2 : ¬ q2 = 0 := by simpa using x2
 have K1 : wb = true → p0 = (true) := by
   intro h
   rw [h] at hwb
   have he : flo f = cei f := by simpa using hwb.symm
   rw [hp0]
   simp [e0, e2]
 have K2 : (!p0 || !p2 || (true)) = true := by
   rw [hp2, hp0]
   simp [e0, e2]
 clear hwb hA hB hp0 hp2
 cases wb with
 | true =>
   cases p0 with
   | true =>
     cases p2 with
     | true =>
       exact axis_m00ttttt k n lo sh a0 b0 c0 d0 q0 q1 q2 q3 f w (flo f) (cei f) (c3 (val f) (q1 * U)) (c3 (val f) (q3 * U)) x0 x2 wbf hcmp HOF HSH HFL HCE HH1 HH2 hE
     | false =>
       exact axis_m00ttttf k n lo sh a0 b0 c0 d0 q0 q1 q2 q3 f w (flo f) (cei f) (c3 (val f) (q1 * U)) (c3 (val f) (q3 * U)) x0 x2 wbf hcmp HOF HSH HFL HCE HH1 HH2 hE
   | false =>
     cases p2 with
     | true =>
       exact absurd (K1 rfl) (by decide)
     | false =>
       exact absurd (K1 rfl) (by decide)
 | false =>
   cases p0 with
   | true =>
     cases p2 with
     | true =>
       exact axis_m00ftttt k n lo sh a0 b0 c0 d0 q0 q1 q2 q3 f w (flo f) (cei f) (c3 (val f) (q1 * U)) (c3 (val f) (q3 * U)) x0 x2 wbf hcmp HOF HSH HFL HCE HH1 HH2 hE
     | false =>
       exact axis_m00fxxtf k n lo sh a0 b0 c0 d0 q0 q1 q2 q3 f w (flo f) (cei f) (c3 (val f) (q1 * U)) (c3 (val f) (q3 * U)) x0 x2 wbf hcmp HOF HSH HFL HCE HH1 HH2 hE
   | false =>
     cases p2 with
     | true =>
       exact axis_m00fxxfx k n lo sh a0 b0 c0 d0 q0 q1 q2 q3 f w (flo f) (cei f) (c3 (val f) (q1 * U)) (c3 (val f) (q3 * U)) x0 x2 wbf hcmp HOF HSH HFL HCE HH1 hE
     | false =>
       exact axis_m00fxxfx k n lo sh a0 b0 c0 d0 q0 q1 q2 q3 f w (flo f) (cei f) (c3 (val f) (q1 * U)) (c3 (val f) (q3 * U)) x0 x2 wbf hcmp HOF HSH HFL HCE HH1 hE
theorem topAxis_true (k n lo sh : Int) (f : Nat) (w : World) (hk : 0 ≤ k ∧ k ≤ 255) (hn : 0 ≤ n ∧ n ≤ 255) (hl : -32768 ≤ lo ∧ lo ≤ 32767) (hs : I64 sh) (_hf : f = f) (hE : EnvP w) :
   Calls Tryz.prog 3 #[.agg #[.int .u8 k, .int .u8 n, .int .i16 lo], .int .i64 sh, .float .f64 f] w fun ro w' => ro = .returned (.bool true) ∧ Dn w w' := by
 obtain ⟨b1, b2, _⟩ := of_right hk hn hl
 obtain ⟨q0, q1, q2, q3, e, hS, he⟩ := axis_shift sh hk hn hl
 have HOF := Lib.hid (fun W => rOf9 k n lo hk hn hl W)
 have HSH := Lib.hid (fun W => rnShift _ _ _ _ sh q0 q1 q2 q3 e W b1 b2 hs hS)
 rcases he with rfl | ⟨rfl, g0, g2, g1, g3, hh, i1, i3⟩
 · exact axis_over k n lo sh _ _ _ _ q0 q1 q2 q3 f w HOF HSH hE
 · cases x0 : (q0 == 0) <;> cases x2 : (q2 == 0)
   · exact axis_00 k n lo sh _ _ _ _ q0 q1 q2 q3 f w g0 g2 g1 g3 hh i1 i3 x0 x2 HOF HSH hE
   · exact axis_01 k n lo sh _ _ _ _ q0 q1 q2 q3 f w g0 g2 g1 g3 hh i1 i3 x0 x2 HOF HSH hE
   · exact axis_10 k n lo sh _ _ _ _ q0 q1 q2 q3 f w g0 g2 g1 g3 hh i1 i3 x0 x2 HOF HSH hE
   · exact axis_11 k n lo sh _ _ _ _ q0 q1 q2 q3 f w g0 g2 g1 g3 hh i1 i3 x0 x2 HOF HSH hE
open Go.ChangeShapes Go.WideShapes Go.ChangeAt Go.RowKit Go.Joins Go.Deep
variable {H : Type} {enc : TypeId × Value → H} {P : Program} {W : World} {r : Reach} {b0 : Nat} {t e : TypeId} {v : Value} {d : DataW H} {p : List MemPlace} {sp : Nat → Bool} {hd : Bool} {base : Nat}
theorem open_i64 (ht : P.underlying t = some (.int .i64)) (hv : Value.okWide P W r b0 t v) (h : DataW.Trod enc P W base sp hd t v d p) : ∃ a, v = .int .i64 a ∧ I64 a := by
 obtain ⟨a, rfl, _, _, w⟩ := open_int ht hv h
 exact ⟨a, rfl, i64_of_wf w⟩
open Go.ChangeShapes Go.WideShapes Go.ChangeAt Go.RowKit Go.Joins Go.Deep
variable {H : Type} {enc : TypeId × Value → H} {P : Program} {W : World} {r : Reach} {b0 : Nat} {t e : TypeId} {v : Value} {d : DataW H} {p : List MemPlace} {sp : Nat → Bool} {hd : Bool} {base : Nat}
theorem cell_u8 {n : Nat} {c : Value} {y : DataW H × List MemPlace} (he : P.underlying e = some (.int .u8)) (h : DataW.trod enc P W base sp hd n e [c] = some y) : ∃ a, c = .int .u8 a ∧ (0 ≤ a ∧ a ≤ 255) := by
 obtain ⟨a, ha, _, w⟩ := DataW.trod_int he h
 simp at ha
 simp [Lit.wf, IntKind.min, IntKind.max, IntKind.signed, IntKind.bits] at w
 exact ⟨a, ha, by omega, by omega⟩
theorem cell_i16 {n : Nat} {c : Value} {y : DataW H × List MemPlace} (he : P.underlying e = some (.int .i16)) (h : DataW.trod enc P W base sp hd n e [c] = some y) : ∃ a, c = .int .i16 a ∧ (-32768 ≤ a ∧ a ≤ 32767) := by
 obtain ⟨a, ha, _, w⟩ := DataW.trod_int he h
 simp at ha
 simp [Lit.wf, IntKind.min, IntKind.max, IntKind.signed, IntKind.bits] at w
 exact ⟨a, ha, by omega, by omega⟩
theorem open_r3 {f0 f1 f2 : Field} (ht : P.underlying t = some (.struct #[f0, f1, f2])) (hone : oneCellFields P #[f0, f1, f2] = true) (hct : P.cellsOf t = 3)
  (h0 : P.underlying f0.type = some (.int .u8)) (h1 : P.underlying f1.type = some (.int .u8)) (h2 : P.underlying f2.type = some (.int .i16))
  (hv : Value.okWide P W r b0 t v) (h : DataW.Trod enc P W base sp hd t v d p) :
  ∃ a b c, v = .agg #[.int .u8 a, .int .u8 b, .int .i16 c] ∧ (0 ≤ a ∧ a ≤ 255) ∧ (0 ≤ b ∧ b ≤ 255) ∧ (-32768 ≤ c ∧ c ≤ 32767) := by
 obtain ⟨v0, v1, v2, y0, y1, y2, n, rfl, _, _, k0, k1, k2⟩ := open_agg3 ht hone hct hv h
 obtain ⟨a, rfl, ha⟩ := cell_u8 h0 k0
 obtain ⟨b, rfl, hb⟩ := cell_u8 h1 k1
 obtain ⟨c, rfl, hc⟩ := cell_i16 h2 k2
 exact ⟨a, b, c, rfl, ha, hb, hc⟩
open Go.ChangeShapes Go.WideShapes Go.ChangeAt Go.RowKit
theorem gTab : Tryz.prog.globalNamed "internal/strconv.uint64pow10" = some 4 := by kernel_rfl
theorem tTab : (Tryz.prog.globals[4]?).map (·.type) = some 253 := by kernel_rfl
theorem cU64 : Tryz.prog.cellsOf 146 = 1 := by kernel_rfl
theorem cTab : Tryz.prog.cellsOf 253 = 20 := by kernel_rfl
end Go.Proofs.YteodjglbpfmikaaGreatDoor
