/-
  WALKS OF circaref07: Of.
-/
import Derived.Test.YtnaoadmffnbalaaDoorRefSevenB
import Derived.Test.YtnaoadmffnbalaaDoorSeaPlain
namespace Go.Proofs.YtnaoadmffnbalaaDoor
open Go.RowKit
/-- Does the run of the year have the day? -/
def HasZ (z d c : Int) : Prop := IsSY z c ∧ sLo z c ≤ d ∧ d ≤ sHi z c
set_option maxHeartbeats 2000000 in
theorem rOf7_gen (d c : Int) (w : World) (hd : I64 d) (h : IsC c) (hy : IsY (Cal.yr d)) (n : Int) (v : Value) (hn : (n = 2 ∧ v = .tuple #[.int .i64 0, .bool false]) ∨ (0 ≤ n ∧ n < 2 ∧ HasZ (Cal.yr d - 1 + n) d c ∧ v = .tuple #[.int .i64 (Cal.yr d - 1 + n), .bool true]))
    (hno : ∀ k, 0 ≤ k → k < n → ¬ HasZ (Cal.yr d - 1 + k) d c) :
    Calls Tryd.prog 57 #[.int .i64 d, .int .i64 c] w fun e w' => e = .returned v ∧ Up w w' := by
  have H0 := Lib.hid (rOf_yes d w hd hy)
  have HN := Lib.hid hn
  have HNO := Lib.hid hno
  have n2 : 0 ≤ n ∧ n ≤ 2 := by rcases hn with ⟨rfl, _⟩ | ⟨a, b, _⟩ <;> omega
  clear hn hno
  obtain ⟨y1, y2⟩ := hy
  generalize Cal.yr d = y at *
  go_enter Tryd.func57, Tryd.ntmps57
  go_wp2_with fail
  refine H0.out.mono ?_
  rintro e w1 ⟨rfl, rfl⟩
  go_wp2_with fail
  go_loopw [8] (fun i wr => ∃ k : Int, 0 ≤ k ∧ k ≤ n ∧ i = .int .i64 (y - 1 + k) ∧ Up w wr) (fun i _ => (y + 1 - intOf i).toNat)
  case atStart => exact ⟨0, by omega, by omega, by simp, Up.refl _⟩
  case round =>
    obtain ⟨k, k1, k2, rfl, hu⟩ := hrel
    by_cases hkn : k < n
    · have c1 : decide (y - 1 + k ≤ y) = true := by simp; omega
      have hf := HNO.out k k1 hkn
      by_cases hs : IsSY (y - 1 + k) c
      · have hq : ¬ (sLo (y - 1 + k) c ≤ d ∧ d ≤ sHi (y - 1 + k) c) := fun q => hf ⟨hs, q⟩
        by_cases hl : sLo (y - 1 + k) c ≤ d
        · have c2 : decide (sLo (y - 1 + k) c ≤ d) = true := by simp; exact hl
          have c3 : decide (d ≤ sHi (y - 1 + k) c) = false := by simp; omega
          clear hq hf
          go_wp2_with fail
          refine (rRun7_yes _ _ _ h hs).mono ?_
          rintro e w2 ⟨rfl, q⟩
          have hu2 := hu.trans q
          clear q
          unfold runV
          go_wp2_with fail
          go_roundw
          case rel => exact ⟨k + 1, by omega, by omega, by congr 1; omega, by first | exact hu2.alloc _ | trivial⟩
          case measure => simp [intOf]; omega
        · have c2 : decide (sLo (y - 1 + k) c ≤ d) = false := by simp; omega
          clear hq hf
          go_wp2_with fail
          refine (rRun7_yes _ _ _ h hs).mono ?_
          rintro e w2 ⟨rfl, q⟩
          have hu2 := hu.trans q
          clear q
          unfold runV
          go_wp2_with fail
          go_roundw
          case rel => exact ⟨k + 1, by omega, by omega, by congr 1; omega, by first | exact hu2.alloc _ | trivial⟩
          case measure => simp [intOf]; omega
      · clear hf
        go_wp2_with fail
        refine (rRun7_bad _ _ _ h hs).mono ?_
        rintro e w2 ⟨rfl, q⟩
        have hu2 := hu.trans q
        clear q
        unfold runV
        go_wp2_with fail
        go_roundw
        case rel => exact ⟨k + 1, by omega, by omega, by congr 1; omega, by first | exact hu2.alloc _ | trivial⟩
        case measure => simp [intOf]; omega
    · obtain rfl : k = n := by omega
      rcases HN.out with ⟨hk, hv⟩ | ⟨a, b, ⟨hs, hl, hh⟩, hv⟩
      · have c1 : decide (y - 1 + k ≤ y) = false := by simp; omega
        clear hk
        have HV := Lib.hid hv
        clear hv
        go_wp2_with fail
        go_ret2
        exact ⟨by rw [HV.out]; rfl, hu⟩
      · have c1 : decide (y - 1 + k ≤ y) = true := by simp; omega
        have c2 : decide (sLo (y - 1 + k) c ≤ d) = true := by simp; exact hl
        have c3 : decide (d ≤ sHi (y - 1 + k) c) = true := by simp; exact hh
        have HV := Lib.hid hv
        clear hv
        go_wp2_with fail
        refine (rRun7_yes _ _ _ h hs).mono ?_
        rintro e w2 ⟨rfl, q⟩
        have hu2 := hu.trans q
        clear q
        unfold runV
        go_wp2_with fail
        go_ret2
        exact ⟨by rw [HV.out]; rfl, hu2.alloc _⟩
theorem rOf7_yes (d c : Int) (w : World) (hd : I64 d) (h : IsC c) (hy : IsY (Cal.yr d)) (ho : IsOf d c) :
    Calls Tryd.prog 57 #[.int .i64 d, .int .i64 c] w fun e w' => e = .returned (.tuple #[.int .i64 (ofY d c), .bool true]) ∧ Up w w' := by
  by_cases hl : mo d < fromS c
  · refine rOf7_gen d c w hd h hy 0 _ (Or.inr ⟨by omega, by omega, ?_, ?_⟩) (by intro k _ _; omega)
    · rw [show Cal.yr d - 1 + 0 = Cal.yr d - 1 by omega]
      exact (in_last d c h).2 ⟨hl, ho⟩
    · rw [show Cal.yr d - 1 + 0 = Cal.yr d - 1 by omega, ofY, if_pos hl]
  · refine rOf7_gen d c w hd h hy 1 _ (Or.inr ⟨by omega, by omega, ?_, ?_⟩) ?_
    · rw [show Cal.yr d - 1 + 1 = Cal.yr d by omega]
      exact (in_this d c h).2 ⟨hl, ho⟩
    · rw [show Cal.yr d - 1 + 1 = Cal.yr d by omega, ofY, if_neg hl]
    · intro k _ _ hk
      rw [show Cal.yr d - 1 + k = Cal.yr d - 1 by omega] at hk
      exact hl ((in_last d c h).1 hk).1
theorem rOf7_no (d c : Int) (w : World) (hd : I64 d) (h : IsC c) (hy : IsY (Cal.yr d)) (ho : ¬ IsOf d c) :
    Calls Tryd.prog 57 #[.int .i64 d, .int .i64 c] w fun e w' => e = .returned (.tuple #[.int .i64 0, .bool false]) ∧ Up w w' := by
  refine rOf7_gen d c w hd h hy 2 _ (Or.inl ⟨rfl, rfl⟩) ?_
  intro k h1 h2 hk
  by_cases hz : k = 0
  · rw [show Cal.yr d - 1 + k = Cal.yr d - 1 by omega] at hk
    exact ho ((in_last d c h).1 hk).2
  · rw [show Cal.yr d - 1 + k = Cal.yr d by omega] at hk
    exact ho ((in_this d c h).1 hk).2
end Go.Proofs.YtnaoadmffnbalaaDoor
