/-
  WALKS OF circalaw01: is, fails, gives, lives. (Printed by wip/gen/law1.py.)
-/
import Derived.Test.YtnibmofbalgobaaDoorIntsD
namespace Go.Proofs.YtnibmofbalgobaaDoor
open Go.RowKit
instance decOk (l : List UInt8) : Decidable (pOk l) := by unfold pOk Dg.isD; infer_instance
theorem iparse_ok (s : ByteArray) (n : Int) (w : World) (hs : s.size ≤ 1000) (hp : pOk s.data.toList) (hv : pVal s.data.toList = n) (hi : I64 n) (hE : EnvI w) :
    Calls Tryd.prog 36 #[.string s] w fun e w' => e = .returned (.tuple #[.int .i64 n, .int .i64 0]) ∧ Dn w w' := by
  subst hv
  refine (iparse s w hs hE).mono ?_
  rintro e w' ⟨hd, ⟨_, _, h⟩ | ⟨_, h, _⟩ | ⟨h, _⟩⟩
  · exact ⟨h, hd⟩
  · exact absurd hi h
  · exact absurd hp h
theorem iparse_over (s : ByteArray) (w : World) (hs : s.size ≤ 1000) (hp : pOk s.data.toList) (hi : ¬ I64 (pVal s.data.toList)) (hE : EnvI w) :
    Calls Tryd.prog 36 #[.string s] w fun e w' => e = .returned (.tuple #[.int .i64 0, .int .i64 15]) ∧ Dn w w' := by
  refine (iparse s w hs hE).mono ?_
  rintro e w' ⟨hd, ⟨_, h, _⟩ | ⟨_, _, h⟩ | ⟨h, _⟩⟩
  · exact absurd h hi
  · exact ⟨h, hd⟩
  · exact absurd hp h
theorem iparse_bad (s : ByteArray) (w : World) (hs : s.size ≤ 1000) (hp : ¬ pOk s.data.toList) (hE : EnvI w) :
    Calls Tryd.prog 36 #[.string s] w fun e w' => e = .returned (.tuple #[.int .i64 0, .int .i64 5]) ∧ Dn w w' := by
  refine (iparse s w hs hE).mono ?_
  rintro e w' ⟨hd, ⟨h, _⟩ | ⟨h, _⟩ | ⟨_, h⟩⟩
  · exact absurd h hp
  · exact absurd h hp
  · exact ⟨h, hd⟩
theorem rInt_no (v : Value) (x : Int) (w : World) (hx : IsN w v x) (hl : (Dg.dl x.natAbs).length ≤ 1000) (h : ¬ I64 x) :
    Calls Tryd.prog 89 #[v] w fun e w' => e = .returned (.tuple #[.int .i64 0, .bool false]) ∧ Dn w w' := by
  unfold I64 at h
  by_cases h1 : x < -9223372036854775808
  · exact rInt_low v x w hx hl h1
  · exact rInt_high v x w hx hl (by omega)
set_option maxHeartbeats 1000000 in
theorem lis_fit (v : Value) (x : Int) (w : World) (hx : IsN w v x) (hl : (Dg.dl x.natAbs).length ≤ 1000) (h : I64 x) :
    Calls Tryd.prog 23 #[.int .i64 x, .int .i64 0, v] w fun e w' => e = .returned (.bool true) ∧ Dn w w' := by
  obtain ⟨b, p, n, cap, rfl⟩ := hx.shape
  have HX := Lib.hid hx
  have HL := Lib.hid hl
  have HI := Lib.hid h
  clear hx hl h
  go_enter Tryd.func23, Tryd.ntmps23
  go_wp2_with fail
  refine (rInt_yes _ x _ (HX.out.dn ((Dn.refl _).alloc _)) HL.out HI.out).mono ?_
  rintro e w2 ⟨rfl, q2⟩
  go_wp2_with fail
  go_ret
  exact ⟨rfl, ((Dn.refl _).alloc _).trans q2⟩
set_option maxHeartbeats 1000000 in
theorem lis_over (v : Value) (x : Int) (w : World) (hx : IsN w v x) (hl : (Dg.dl x.natAbs).length ≤ 1000) (h : ¬ I64 x) :
    Calls Tryd.prog 23 #[.int .i64 0, .int .i64 15, v] w fun e w' => e = .returned (.bool true) ∧ Dn w w' := by
  obtain ⟨b, p, n, cap, rfl⟩ := hx.shape
  have HX := Lib.hid hx
  have HL := Lib.hid hl
  have HI := Lib.hid h
  clear hx hl h
  go_enter Tryd.func23, Tryd.ntmps23
  go_wp2_with fail
  refine (rInt_no _ x _ (HX.out.dn ((Dn.refl _).alloc _)) HL.out HI.out).mono ?_
  rintro e w2 ⟨rfl, q2⟩
  go_wp2_with fail
  go_ret
  exact ⟨rfl, ((Dn.refl _).alloc _).trans q2⟩
theorem lfails (r : Int) (w : World) :
    Calls Tryd.prog 31 #[.int .i64 0, .int .i64 r, .int .i64 r] w fun e w' => e = .returned (.bool true) ∧ w = w' := by
  go_enter Tryd.func31, Tryd.ntmps31
  go_wp2_with fail
  go_ret
  exact ⟨retb (by simp), rfl⟩
theorem lgives (n : Int) (w : World) :
    Calls Tryd.prog 27 #[.int .i64 n, .int .i64 0, .int .i64 n] w fun e w' => e = .returned (.bool true) ∧ w = w' := by
  go_enter Tryd.func27, Tryd.ntmps27
  go_wp2_with fail
  go_ret
  exact ⟨retb (by simp), rfl⟩
theorem idiv_at (a b q : Int) (w : World) (hq : fd a b = q) (ha : I64 a) (hb : I64 b) (h0 : b ≠ 0) (hm : ¬ (a = -9223372036854775808 ∧ b = -1)) :
    Calls Tryd.prog 29 #[.int .i64 a, .int .i64 b] w fun e w' => e = .returned (.tuple #[.int .i64 q, .int .i64 0]) ∧ w = w' := by
  subst hq; exact idiv_yes a b w ha hb h0 hm
theorem imod_at (a b q : Int) (w : World) (hq : fm a b = q) (ha : I64 a) (hb : I64 b) (h0 : b ≠ 0) :
    Calls Tryd.prog 30 #[.int .i64 a, .int .i64 b] w fun e w' => e = .returned (.tuple #[.int .i64 q, .int .i64 0]) ∧ w = w' := by
  subst hq; exact imod_yes a b w ha hb h0
theorem igcd_yes (a b : Int) (w : World) (ha : I64 a) (hb : I64 b) (h : Nat.gcd a.natAbs b.natAbs ≤ 9223372036854775807) :
    Calls Tryd.prog 34 #[.int .i64 a, .int .i64 b] w fun e w' => e = .returned (.tuple #[.int .i64 (Nat.gcd a.natAbs b.natAbs : Int), .int .i64 0]) ∧ Up w w' :=
  igcd_gen a b _ _ _ w ha hb rfl fun W => isigned_pos _ W (by omega) (by omega)
theorem igcd_over (a b : Int) (w : World) (ha : I64 a) (hb : I64 b) (h : 9223372036854775807 < Nat.gcd a.natAbs b.natAbs) :
    Calls Tryd.prog 34 #[.int .i64 a, .int .i64 b] w fun e w' => e = .returned (.tuple #[.int .i64 0, .int .i64 15]) ∧ Up w w' :=
  igcd_gen a b _ _ _ w ha hb rfl fun W => isigned_no _ false W (Or.inr ⟨rfl, by omega⟩)
theorem igcd_at (a b : Int) (g : Nat) (w : World) (ha : I64 a) (hb : I64 b) (h : Nat.gcd a.natAbs b.natAbs = g) (hg : g ≤ 9223372036854775807) :
    Calls Tryd.prog 34 #[.int .i64 a, .int .i64 b] w fun e w' => e = .returned (.tuple #[.int .i64 (g : Int), .int .i64 0]) ∧ Up w w' := by
  subst h; exact igcd_yes a b w ha hb hg
theorem ipow_18 (w : World) :
    Calls Tryd.prog 33 #[.int .i64 18] w fun e w' => e = .returned (.tuple #[.int .i64 1000000000000000000, .int .i64 0]) ∧ w = w' := ipow_yes 18 w (by decide)
set_option maxHeartbeats 8000000 in
set_option maxRecDepth 100000 in
theorem lives1 (w : World) (hE : EnvI w) :
    Calls Tryd.prog 28 #[] w fun e w' => e = .returned (.bool true) ∧ Dn w w' := by
  go_enter Tryd.func28, Tryd.ntmps28
  go_wp2_with fail
  refine (add_over 9223372036854775807 1 _ (by decide) (by decide) (by decide)).mono ?_
  rintro e w1 ⟨rfl, qw1⟩
  have uw1 := qw1.dn
  clear qw1
  go_wp2_with fail
  refine (isub_over (-9223372036854775808) 1 _ (by decide) (by decide) (by decide)).mono ?_
  rintro e w2 ⟨rfl, rfl⟩
  go_wp2_with fail
  refine (imul_over 4294967296 2147483648 _ (by decide) (by decide) (by decide)).mono ?_
  rintro e w3 ⟨rfl, qw3⟩
  have uw3 := uw1.trans qw3.dn
  clear qw3 uw1
  go_wp2_with fail
  refine (lfails 15 _).mono ?_
  rintro e w4 ⟨rfl, rfl⟩
  go_wp2_with fail
  refine (lfails 15 _).mono ?_
  rintro e w5 ⟨rfl, rfl⟩
  go_wp2_with fail
  refine (lfails 15 _).mono ?_
  rintro e w6 ⟨rfl, rfl⟩
  go_wp2_with fail
  refine (idiv_at (-7) 2 (-4) _ (by decide) (by decide) (by decide) (by decide) (by decide)).mono ?_
  rintro e w7 ⟨rfl, rfl⟩
  go_wp2_with fail
  refine (imod_at (-7) 2 1 _ (by decide) (by decide) (by decide) (by decide)).mono ?_
  rintro e w8 ⟨rfl, rfl⟩
  go_wp2_with fail
  refine (idiv_at 7 (-2) (-4) _ (by decide) (by decide) (by decide) (by decide) (by decide)).mono ?_
  rintro e w9 ⟨rfl, rfl⟩
  go_wp2_with fail
  refine (imod_at 7 (-2) (-1) _ (by decide) (by decide) (by decide) (by decide)).mono ?_
  rintro e w10 ⟨rfl, rfl⟩
  go_wp2_with fail
  refine (lgives (-4) _).mono ?_
  rintro e w11 ⟨rfl, rfl⟩
  go_wp2_with fail
  refine (lgives 1 _).mono ?_
  rintro e w12 ⟨rfl, rfl⟩
  go_wp2_with fail
  refine (lgives (-4) _).mono ?_
  rintro e w13 ⟨rfl, rfl⟩
  go_wp2_with fail
  refine (lgives (-1) _).mono ?_
  rintro e w14 ⟨rfl, rfl⟩
  go_wp2_with fail
  refine (idiv_zero 1 _).mono ?_
  rintro e w15 ⟨rfl, rfl⟩
  go_wp2_with fail
  refine (imod_at (-9223372036854775808) (-1) 0 _ (by decide) (by decide) (by decide) (by decide)).mono ?_
  rintro e w16 ⟨rfl, rfl⟩
  go_wp2_with fail
  refine (ipow_18 _).mono ?_
  rintro e w17 ⟨rfl, rfl⟩
  go_wp2_with fail
  refine (ipow_over 19 _ (by decide)).mono ?_
  rintro e w18 ⟨rfl, rfl⟩
  go_wp2_with fail
  refine (lfails 1 _).mono ?_
  rintro e w19 ⟨rfl, rfl⟩
  go_wp2_with fail
  refine (lgives 0 _).mono ?_
  rintro e w20 ⟨rfl, rfl⟩
  go_wp2_with fail
  refine (lgives 1000000000000000000 _).mono ?_
  rintro e w21 ⟨rfl, rfl⟩
  go_wp2_with fail
  refine (lfails 15 _).mono ?_
  rintro e w22 ⟨rfl, rfl⟩
  go_wp2_with fail
  refine (igcd_at (-12) 18 6 _ (by decide) (by decide) (by decide +kernel) (by decide)).mono ?_
  rintro e w23 ⟨rfl, qw23⟩
  have uw23 := uw3.trans qw23.dn
  clear qw23 uw3
  go_wp2_with fail
  refine (igcd_at 0 0 0 _ (by decide) (by decide) (by decide +kernel) (by decide)).mono ?_
  rintro e w24 ⟨rfl, qw24⟩
  have uw24 := uw23.trans qw24.dn
  clear qw24 uw23
  go_wp2_with fail
  refine (iparse_ok ⟨#[45, 57, 50, 50, 51, 51, 55, 50, 48, 51, 54, 56, 53, 52, 55, 55, 53, 56, 48, 56]⟩ (-9223372036854775808) _ (by decide) (by decide +kernel) (by decide +kernel) (by decide) (hE.dn uw24)).mono ?_
  rintro e w25 ⟨rfl, qw25⟩
  have uw25 := uw24.trans qw25
  clear qw25 uw24
  go_wp2_with fail
  refine (iparse_over ⟨#[57, 50, 50, 51, 51, 55, 50, 48, 51, 54, 56, 53, 52, 55, 55, 53, 56, 48, 56]⟩ _ (by decide) (by decide +kernel) (by decide +kernel) (hE.dn uw25)).mono ?_
  rintro e w26 ⟨rfl, qw26⟩
  have uw26 := uw25.trans qw26
  clear qw26 uw25
  go_wp2_with fail
  refine (iparse_bad ⟨#[45, 48]⟩ _ (by decide) (by decide +kernel) (hE.dn uw26)).mono ?_
  rintro e w27 ⟨rfl, qw27⟩
  have uw27 := uw26.trans qw27
  clear qw27 uw26
  go_wp2_with fail
  refine (iparse_bad ⟨#[48, 48, 55]⟩ _ (by decide) (by decide +kernel) (hE.dn uw27)).mono ?_
  rintro e w28 ⟨rfl, qw28⟩
  have uw28 := uw27.trans qw28
  clear qw28 uw27
  go_wp2_with fail
  refine (lgives 6 _).mono ?_
  rintro e w29 ⟨rfl, rfl⟩
  go_wp2_with fail
  refine (lgives 0 _).mono ?_
  rintro e w30 ⟨rfl, rfl⟩
  go_wp2_with fail
  refine (lgives (-9223372036854775808) _).mono ?_
  rintro e w31 ⟨rfl, rfl⟩
  go_wp2_with fail
  refine (lfails 15 _).mono ?_
  rintro e w32 ⟨rfl, rfl⟩
  go_wp2_with fail
  refine (lfails 5 _).mono ?_
  rintro e w33 ⟨rfl, rfl⟩
  go_wp2_with fail
  refine (lfails 5 _).mono ?_
  rintro e w34 ⟨rfl, rfl⟩
  go_wp2_with fail
  go_ret
  exact ⟨rfl, uw28⟩
end Go.Proofs.YtnibmofbalgobaaDoor
