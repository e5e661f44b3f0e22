/-
  WALKS OF circalaw01: IntsKnown returns true. (Printed by wip/gen/law1f.py.)
-/
import Derived.Test.YtnibmofbalgobaaDoorLawOneB
import Derived.Test.YtnibmofbalgobaaDoorLawOneC
import Derived.Test.YtnibmofbalgobaaDoorLawOneE
namespace Go.Proofs.YtnibmofbalgobaaDoor
open Go.RowKit
def intsL : List Int := [(-9223372036854775808), (-9223372036854775807), (-4294967296), (-10), (-1), 0, 1, 2, 10, 2147483648, 4294967296, 9223372036854775806, 9223372036854775807]
theorem intsL_bd : ∀ (j : Nat) (x : Int), intsL[j]? = some x → I64 x := by
  intro j x h
  have hm : x ∈ intsL := List.mem_of_getElem? h
  have ha : intsL.all (fun x => decide (I64 x)) = true := by decide +kernel
  exact of_decide_eq_true (List.all_eq_true.1 ha x hm)
theorem intsL_cells (w : World) (t : TypeId) : ∀ (j : Nat) (x : Int), intsL[j]? = some x → (w.alloc (.cells #[.int .i64 (-9223372036854775808), .int .i64 (-9223372036854775807), .int .i64 (-4294967296), .int .i64 (-10), .int .i64 (-1), .int .i64 0, .int .i64 1, .int .i64 2, .int .i64 10, .int .i64 2147483648, .int .i64 4294967296, .int .i64 9223372036854775806, .int .i64 9223372036854775807] t)).cell? ⟨w.heap.size, j, none⟩ = some (.int .i64 x) := by
  intro j x h
  unfold intsL at h
  match j, h with
  | 0, h => simp at h; subst h; simp [go_sem]
  | 1, h => simp at h; subst h; simp [go_sem]
  | 2, h => simp at h; subst h; simp [go_sem]
  | 3, h => simp at h; subst h; simp [go_sem]
  | 4, h => simp at h; subst h; simp [go_sem]
  | 5, h => simp at h; subst h; simp [go_sem]
  | 6, h => simp at h; subst h; simp [go_sem]
  | 7, h => simp at h; subst h; simp [go_sem]
  | 8, h => simp at h; subst h; simp [go_sem]
  | 9, h => simp at h; subst h; simp [go_sem]
  | 10, h => simp at h; subst h; simp [go_sem]
  | 11, h => simp at h; subst h; simp [go_sem]
  | 12, h => simp at h; subst h; simp [go_sem]
  | n + 13, h => simp at h
theorem intsL_get (k : Nat) (h : k < 13) : ∃ x, intsL[k]? = some x ∧ I64 x := by
  refine ⟨intsL[k]'(by simp [intsL]; omega), by simp, ?_⟩
  exact intsL_bd k _ (by simp)
theorem kd3 {W w1 w2 : World} {a0 a1 a2 : Addr} {v0 v1 v2 : Value} (k : Dn w1 w2) (h : Dn W w1 ∧ EnvI w1 ∧ w1.cell? a0 = some v0 ∧ w1.cell? a1 = some v1 ∧ w1.cell? a2 = some v2) :
    Dn W w2 ∧ EnvI w2 ∧ w2.cell? a0 = some v0 ∧ w2.cell? a1 = some v1 ∧ w2.cell? a2 = some v2 := by
  obtain ⟨h1, h2, c0, c1, c2⟩ := h
  exact ⟨h1.trans k, h2.dn k, k.cell c0, k.cell c1, k.cell c2⟩
set_option maxHeartbeats 8000000 in
set_option maxRecDepth 100000 in
theorem intsKnown_true (w : World) (hE : EnvI w) :
    Calls Tryd.prog 8 #[] w fun e w' => e = .returned (.bool true) ∧ Dn w w' := by
  obtain ⟨W1, hW1⟩ : ∃ W1, W1 = w.alloc (.cells #[.int .i64 (-9223372036854775808), .int .i64 (-9223372036854775807), .int .i64 (-4294967296), .int .i64 (-10), .int .i64 (-1), .int .i64 0, .int .i64 1, .int .i64 2, .int .i64 10, .int .i64 2147483648, .int .i64 4294967296, .int .i64 9223372036854775806, .int .i64 9223372036854775807] 2) := ⟨_, rfl⟩
  have u1 : Dn w W1 := by rw [hW1]; exact ((Up.refl _).alloc _).dn
  have hc : ∀ (j : Nat) (x : Int), intsL[j]? = some x → W1.cell? ⟨w.heap.size, j, none⟩ = some (.int .i64 x) := by rw [hW1]; exact intsL_cells w _
  have HC := Lib.hid hc
  have HW := Lib.hid hW1
  clear hW1 hc
  go_enter Tryd.func8, Tryd.ntmps8
  go_wp2_with fail
  rw [← HW.out]
  clear HW
  go_loopw [2] (fun i wr => ∃ k : Nat, k ≤ 13 ∧ i = .int .i64 k ∧ Dn W1 wr) (fun i _ => 13 - (intOf i).toNat)
  case atStart => exact ⟨0, by omega, rfl, Dn.refl _⟩
  case round =>
    obtain ⟨k, hk, rfl, hu⟩ := hrel
    obtain ⟨wo, rfl⟩ : ∃ wo : World, wo = wr := ⟨_, rfl⟩
    by_cases hlt : k < 13
    · have t1 : decide ((k : Int) < 13) = true := by simp; omega
      obtain ⟨x, hx, hxb⟩ := intsL_get k hlt
      have hcx := hu.cell (HC.out k x hx)
      clear hx
      go_wp2_with fail
      go_loopw [3] (fun cv wr => ∃ c : Nat, c ≤ 13 ∧ cv = .int .i64 c ∧ Dn wo wr) (fun cv _ => 13 - (intOf cv).toNat)
      case atStart => exact ⟨0, by omega, rfl, Dn.refl _⟩
      case round =>
        obtain ⟨c, hcc, rfl, hr⟩ := hrel
        by_cases hlc : c < 13
        · have t2 : decide ((c : Int) < 13) = true := by simp; omega
          obtain ⟨y, hy, hyb⟩ := intsL_get c hlc
          have hcy := hr.cell (hu.cell (HC.out c y hy))
          replace hcx := hr.cell hcx
          obtain ⟨j, hj⟩ : ∃ j, j = (k + c) % 13 := ⟨_, rfl⟩
          have hjl : j < 13 := by omega
          obtain ⟨v, hv, hvb⟩ := intsL_get j hjl
          have hcv := hr.cell (hu.cell (HC.out j v hv))
          have e1 : IntKind.i64.wrap ((k : Int) + c) = (k : Int) + c := IntWalk.i64_in _ ⟨by omega, by omega⟩
          have e2 : ((k : Int) + c).tmod 13 = (j : Int) := by rw [hj, Int.tmod_eq_emod_of_nonneg (by omega)]; omega
          have g1 : (0 : Int) ≤ k := by omega
          have g2 : (k : Int) < 13 := by omega
          have g3 : (0 : Int) ≤ c := by omega
          have g4 : (c : Int) < 13 := by omega
          have g5 : (0 : Int) ≤ j := by omega
          have g6 : (j : Int) < 13 := by omega
          have hS := kd3 (W := wr) (Dn.refl _) ⟨Dn.refl _, hE.dn (u1.trans (hu.trans hr)), hcx, hcy, hcv⟩
          have hkb : I64 (k : Int) := ⟨by omega, by omega⟩
          clear hy hv hj hcy hcv
          go_wp2_with fail
          go_region_held3 (fun w' => Dn wr w' ∧ EnvI w' ∧ w'.cell? ⟨w.heap.size, k, none⟩ = some (.int .i64 x) ∧ w'.cell? ⟨w.heap.size, c, none⟩ = some (.int .i64 y) ∧ w'.cell? ⟨w.heap.size, j, none⟩ = some (.int .i64 v))
            (first | exact kd3 ((Dn.refl _).drew) hS | exact kd3 ‹Dn _ _› ‹_›)
            (first
              | (go_at_call 3; refine (intsSums_true _ _ _ hxb hyb (‹Dn wr _ ∧ EnvI _ ∧ _› : _ ∧ _).2.1).mono ?_; rintro e wa ⟨rfl, qa⟩)
              | (go_at_call 4; refine (intsDivs_true _ _ _ _ hxb hyb hvb (‹Dn wr _ ∧ EnvI _ ∧ _› : _ ∧ _).2.1).mono ?_; rintro e wa ⟨rfl, qa⟩)
              | (go_at_call 5; refine (intsGcd_true _ _ _ _ hxb hyb hkb (‹Dn wr _ ∧ EnvI _ ∧ _› : _ ∧ _).2.1).mono ?_; rintro e wa ⟨rfl, qa⟩))
          have hf : Dn wr _ := (‹Dn wr _ ∧ EnvI _ ∧ _› : _ ∧ _).1
          have r2 := hr.trans hf
          clear hf hr hS e1 e2 hcx
          go_wp2_with fail
          go_roundw
          case rel => exact ⟨c + 1, by omega, by simp, r2⟩
          case measure => simp [intOf]; omega
        · obtain rfl : c = 13 := by omega
          have hcx2 := hr.cell hcx
          have r2 := hu.trans hr
          clear hu hr hcx
          have g1 : (0 : Int) ≤ k := by omega
          have g2 : (k : Int) < 13 := by omega
          go_wp2_with fail
          refine (intsText_true _ _ hxb (hE.dn (u1.trans r2))).mono ?_
          rintro e w2 ⟨rfl, q2⟩
          have r3 := r2.trans q2
          clear r2 q2 hcx2
          go_wp2_with fail
          go_roundw
          case rel => exact ⟨k + 1, by omega, by simp, r3⟩
          case measure => simp [intOf]; omega
    · obtain rfl : k = 13 := by omega
      have r1 := u1.trans hu
      clear u1 hu
      go_wp2_with fail
      refine (intsParse_true ⟨#[]⟩ _ (by decide) (hE.dn r1)).mono ?_
      rintro e v1 ⟨rfl, qv1⟩
      have uv1 := r1.trans qv1
      clear qv1 r1
      go_wp2_with fail
      refine (intsParse_true ⟨#[45]⟩ _ (by decide) (hE.dn uv1)).mono ?_
      rintro e v2 ⟨rfl, qv2⟩
      have uv2 := uv1.trans qv2
      clear qv2 uv1
      go_wp2_with fail
      refine (intsParse_true ⟨#[45, 45, 49]⟩ _ (by decide) (hE.dn uv2)).mono ?_
      rintro e v3 ⟨rfl, qv3⟩
      have uv3 := uv2.trans qv3
      clear qv3 uv2
      go_wp2_with fail
      refine (intsParse_true ⟨#[43, 49]⟩ _ (by decide) (hE.dn uv3)).mono ?_
      rintro e v4 ⟨rfl, qv4⟩
      have uv4 := uv3.trans qv4
      clear qv4 uv3
      go_wp2_with fail
      refine (intsParse_true ⟨#[57, 50, 50, 51, 51, 55, 50, 48, 51, 54, 56, 53, 52, 55, 55, 53, 56, 48, 55]⟩ _ (by decide) (hE.dn uv4)).mono ?_
      rintro e v5 ⟨rfl, qv5⟩
      have uv5 := uv4.trans qv5
      clear qv5 uv4
      go_wp2_with fail
      refine (intsParse_true ⟨#[45, 57, 50, 50, 51, 51, 55, 50, 48, 51, 54, 56, 53, 52, 55, 55, 53, 56, 48, 57]⟩ _ (by decide) (hE.dn uv5)).mono ?_
      rintro e v6 ⟨rfl, qv6⟩
      have uv6 := uv5.trans qv6
      clear qv6 uv5
      go_wp2_with fail
      refine (intsParse_true ⟨#[49, 48, 48, 48, 48, 48, 48, 48, 48, 48, 48, 48, 48, 48, 48, 48, 48, 48, 48, 48, 48]⟩ _ (by decide) (hE.dn uv6)).mono ?_
      rintro e v7 ⟨rfl, qv7⟩
      have uv7 := uv6.trans qv7
      clear qv7 uv6
      go_wp2_with fail
      refine (intsParse_true ⟨#[48, 48]⟩ _ (by decide) (hE.dn uv7)).mono ?_
      rintro e v8 ⟨rfl, qv8⟩
      have uv8 := uv7.trans qv8
      clear qv8 uv7
      go_wp2_with fail
      refine (intsParse_true ⟨#[48]⟩ _ (by decide) (hE.dn uv8)).mono ?_
      rintro e v9 ⟨rfl, qv9⟩
      have uv9 := uv8.trans qv9
      clear qv9 uv8
      go_wp2_with fail
      refine (intsParse_true ⟨#[49, 32]⟩ _ (by decide) (hE.dn uv9)).mono ?_
      rintro e v10 ⟨rfl, qv10⟩
      have uv10 := uv9.trans qv10
      clear qv10 uv9
      go_wp2_with fail
      refine (lives1 _ (hE.dn uv10)).mono ?_
      rintro e v11 ⟨rfl, qv11⟩
      have uv11 := uv10.trans qv11
      clear qv11 uv10
      go_wp2_with fail
      go_ret
      exact ⟨rfl, uv11⟩
end Go.Proofs.YtnibmofbalgobaaDoor
