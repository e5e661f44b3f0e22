/-
  WALKS OF years.Check, before, start, Leap, Len, Start, End.
-/
import Derived.Test.YtopbbcbpanfigaaGreatDoorIntsA
import Derived.Test.YtopbbcbpanfigaaGreatDoorCal
namespace Go.Proofs.YtopbbcbpanfigaaGreatDoor
open Go.RowKit

/-- What the package variable years.steps holds. -/
def Steps (w : World) : Prop := ∃ b off cap : Nat, w.cell? ⟨1, 0, none⟩ = some (.slice (some ⟨b, off, none⟩) 3 cap) ∧
  w.cell? ⟨b, off, none⟩ = some (.int .i64 4) ∧ w.cell? ⟨b, off + 1, none⟩ = some (.int .i64 1) ∧
  w.cell? ⟨b, off + 2, none⟩ = some (.int .i64 100) ∧ w.cell? ⟨b, off + 3, none⟩ = some (.int .i64 (-1)) ∧
  w.cell? ⟨b, off + 4, none⟩ = some (.int .i64 400) ∧ w.cell? ⟨b, off + 5, none⟩ = some (.int .i64 1)

theorem Steps.below {w w' : World} (h : Steps w) (hb : Below w.heap.size w w') : Steps w' := by
  obtain ⟨b, off, cap, h0, h1, h2, h3, h4, h5, h6⟩ := h
  exact ⟨b, off, cap, cell_below hb h0, cell_below hb h1, cell_below hb h2, cell_below hb h3, cell_below hb h4, cell_below hb h5, cell_below hb h6⟩

theorem Steps.up {w w' : World} (h : Steps w) (hb : Up w w') : Steps w' := h.below hb.below

def YrB (y : Int) : Prop := -20000000000000000 ≤ y ∧ y ≤ 20000000000000000

set_option maxHeartbeats 1000000 in
theorem before_any (y : Int) (w : World) (hy : YrB y) (hE : Steps w) :
    Calls Tryz.prog 80 #[.int .i64 y] w fun e w' => e = .returned (.int .i64 (Cal.bf y)) ∧ Up w w' := by
  obtain ⟨b, off, cap, h0, h1, h2, h3, h4, h5, h6⟩ := hE
  obtain ⟨hy1, hy2⟩ := hy
  have hb0 := World.block_lt_of_cell? _ _ h1
  have hb1 : b < w.heap.size := hb0
  have hb2 : b < w.heap.size + 1 := by omega
  have hb3 : b < w.heap.size + 1 + 1 := by omega
  clear hb0
  go_enter Tryz.func80, Tryz.ntmps80
  go_wp2_with fail
  refine wp_loop_rounds 4 ?_
  rw [rounds_succ]
  go_wp2_with fail
  refine (div_pos _ _ _ (by unfold I64; omega) (by omega) (by omega)).mono ?_
  rintro e w1 ⟨rfl, rfl⟩
  go_wp2_with fail
  rw [rounds_succ]
  go_wp2_with fail
  refine (div_pos _ _ _ (by unfold I64; omega) (by omega) (by omega)).mono ?_
  rintro e w1 ⟨rfl, rfl⟩
  go_wp2_with fail
  rw [rounds_succ]
  go_wp2_with fail
  refine (div_pos _ _ _ (by unfold I64; omega) (by omega) (by omega)).mono ?_
  rintro e w1 ⟨rfl, rfl⟩
  go_wp2_with fail
  rw [rounds_succ]
  go_wp2_with fail
  go_ret
  refine ⟨ret1_i ?_, ?_⟩
  · unfold Cal.bf; omega
  · exact (((Up.refl _).alloc _).alloc _).alloc _

theorem bf_bd (y : Int) (hy : YrB y) : -10000000000000000 ≤ Cal.bf y ∧ Cal.bf y ≤ 10000000000000000 := by
  obtain ⟨h1, h2⟩ := hy
  unfold Cal.bf; omega

set_option maxHeartbeats 400000 in
theorem start_any (y : Int) (w : World) (hy : YrB y) (hE : Steps w) :
    Calls Tryz.prog 65 #[.int .i64 y] w fun e w' => e = .returned (.int .i64 (Cal.sy y)) ∧ Up w w' := by
  have hb := bf_bd y hy
  have HY := hy
  obtain ⟨hy1, hy2⟩ := hy
  go_enter Tryz.func65, Tryz.ntmps65
  go_wp2_with (go_at_call 80; refine (before_any _ _ HY hE).mono ?_; rintro e w1 ⟨rfl, hu⟩)
  go_ret
  exact ⟨rfl, hu⟩

def IsY (y : Int) : Prop := -10000000000000000 ≤ y ∧ y ≤ 10000000000000000
instance (y : Int) : Decidable (IsY y) := by unfold IsY; infer_instance
theorem IsY.b {y : Int} (h : IsY y) : YrB y := by obtain ⟨_, _⟩ := h; exact ⟨by omega, by omega⟩
theorem IsY.b1 {y : Int} (h : IsY y) : YrB (y + 1) := by obtain ⟨_, _⟩ := h; exact ⟨by omega, by omega⟩

theorem check_yes (y : Int) (w : World) (hy : IsY y) :
    Calls Tryz.prog 64 #[.int .i64 y] w fun e w' => e = .returned (.int .i64 0) ∧ w = w' := by
  obtain ⟨hy1, hy2⟩ := hy
  have c1 : decide (y < -10000000000000000) = false := by simp; omega
  have c2 : decide (10000000000000000 < y) = false := by simp; omega
  go_enter Tryz.func64, Tryz.ntmps64
  go_wp2_with fail
  go_ret
  exact ⟨rfl, rfl⟩
theorem check_no (y : Int) (w : World) (hy : ¬ IsY y) :
    Calls Tryz.prog 64 #[.int .i64 y] w fun e w' => e = .returned (.int .i64 6) ∧ w = w' := by
  unfold IsY at hy
  by_cases h : y < -10000000000000000
  · have c1 : decide (y < -10000000000000000) = true := by simp; omega
    go_enter Tryz.func64, Tryz.ntmps64
    go_wp2_with fail
    go_ret
    exact ⟨rfl, rfl⟩
  · have c1 : decide (y < -10000000000000000) = false := by simp; omega
    have c2 : decide (10000000000000000 < y) = true := by simp; omega
    go_enter Tryz.func64, Tryz.ntmps64
    go_wp2_with fail
    go_ret
    exact ⟨rfl, rfl⟩

theorem ret2_b {l : IntKind} {a b : Bool} {c d : Int} (h : a = b) (h' : c = d) : Ending.returned (.tuple #[.bool a, .int l c]) = .returned (.tuple #[.bool b, .int l d]) := by rw [h, h']
theorem bf_lp (y : Int) : decide (Cal.bf y < Cal.bf (y + 1)) = Cal.lp y := by
  rw [Cal.bf_succ]; unfold Cal.lpN
  cases Cal.lp y
  · simp
  · simp; omega

set_option maxHeartbeats 400000 in
theorem leap_yes (y : Int) (w : World) (hy : IsY y) (hE : Steps w) :
    Calls Tryz.prog 79 #[.int .i64 y] w fun e w' => e = .returned (.tuple #[.bool (Cal.lp y), .int .i64 0]) ∧ Up w w' := by
  have HY := hy
  obtain ⟨hy1, hy2⟩ := hy
  go_enter Tryz.func79, Tryz.ntmps79
  go_wp2_with (go_at_call 64; refine (check_yes _ _ HY).mono ?_; rintro e w1 ⟨rfl, rfl⟩)
  refine (before_any _ _ HY.b1 hE).mono ?_
  rintro e w1 ⟨rfl, hu⟩
  go_wp2_with fail
  refine (before_any _ _ HY.b (hE.up hu)).mono ?_
  rintro e w2 ⟨rfl, hu2⟩
  go_wp2_with fail
  go_ret2
  exact ⟨ret2_b (bf_lp y) rfl, hu.trans hu2⟩
theorem leap_no (y : Int) (w : World) (hy : ¬ IsY y) :
    Calls Tryz.prog 79 #[.int .i64 y] w fun e w' => e = .returned (.tuple #[.bool false, .int .i64 6]) ∧ w = w' := by
  go_enter Tryz.func79, Tryz.ntmps79
  go_wp2_with (go_at_call 64; refine (check_no _ _ hy).mono ?_; rintro e w1 ⟨rfl, rfl⟩)
  go_ret2
  exact ⟨rfl, rfl⟩

theorem sy_bd (y : Int) (hy : YrB y) : -7400000000000000000 ≤ Cal.sy y ∧ Cal.sy y ≤ 7400000000000000000 := by
  obtain ⟨h1, h2⟩ := hy
  unfold Cal.sy Cal.bf; omega
theorem sy_bdY (y : Int) (hy : IsY y) : -3652425000000000000 ≤ Cal.sy y ∧ Cal.sy y ≤ 3652425000000000000 ∧ Cal.sy (y + 1) ≤ 3652425000000000366 := by
  obtain ⟨h1, h2⟩ := hy
  unfold Cal.sy Cal.bf; omega

set_option maxHeartbeats 400000 in
theorem len_yes (y : Int) (w : World) (hy : IsY y) (hE : Steps w) :
    Calls Tryz.prog 41 #[.int .i64 y] w fun e w' => e = .returned (.tuple #[.int .i64 (Cal.len y), .int .i64 0]) ∧ Up w w' := by
  have HY := hy
  have hs := sy_bdY y hy
  have ho := Cal.sy_mono y (y + 1) (by omega)
  obtain ⟨hy1, hy2⟩ := hy
  go_enter Tryz.func41, Tryz.ntmps41
  go_wp2_with (go_at_call 64; refine (check_yes _ _ HY).mono ?_; rintro e w1 ⟨rfl, rfl⟩)
  refine (start_any _ _ HY.b1 hE).mono ?_
  rintro e w1 ⟨rfl, hu⟩
  go_wp2_with fail
  refine (start_any _ _ HY.b (hE.up hu)).mono ?_
  rintro e w2 ⟨rfl, hu2⟩
  go_wp2_with fail
  go_ret2
  exact ⟨ret2_i (by rw [Cal.sy_succ]; omega) rfl, hu.trans hu2⟩
theorem len_no (y : Int) (w : World) (hy : ¬ IsY y) :
    Calls Tryz.prog 41 #[.int .i64 y] w fun e w' => e = .returned (.tuple #[.int .i64 0, .int .i64 6]) ∧ w = w' := by
  go_enter Tryz.func41, Tryz.ntmps41
  go_wp2_with (go_at_call 64; refine (check_no _ _ hy).mono ?_; rintro e w1 ⟨rfl, rfl⟩)
  go_ret2
  exact ⟨rfl, rfl⟩

set_option maxHeartbeats 400000 in
theorem ystart_yes (y : Int) (w : World) (hy : IsY y) (hE : Steps w) :
    Calls Tryz.prog 37 #[.int .i64 y] w fun e w' => e = .returned (.tuple #[.int .i64 (Cal.sy y), .int .i64 0]) ∧ Up w w' := by
  go_enter Tryz.func37, Tryz.ntmps37
  go_wp2_with (first | (go_at_call 64; refine (check_yes _ _ hy).mono ?_; rintro e w1 ⟨rfl, rfl⟩) | (go_at_call 65; refine (start_any _ _ hy.b hE).mono ?_; rintro e w1 ⟨rfl, hu⟩))
  go_ret2
  exact ⟨rfl, hu⟩
theorem ystart_no (y : Int) (w : World) (hy : ¬ IsY y) :
    Calls Tryz.prog 37 #[.int .i64 y] w fun e w' => e = .returned (.tuple #[.int .i64 0, .int .i64 6]) ∧ w = w' := by
  go_enter Tryz.func37, Tryz.ntmps37
  go_wp2_with (go_at_call 64; refine (check_no _ _ hy).mono ?_; rintro e w1 ⟨rfl, rfl⟩)
  go_ret2
  exact ⟨rfl, rfl⟩

theorem max0 (a b : Int) (h : b ≤ a) : max 0 (b - a) = 0 := by omega
/-- years.Leaps between years. -/
def leapsN (a b : Int) : Int := if a ≤ b then Cal.bf (b + 1) - Cal.bf a else 0
end Go.Proofs.YtopbbcbpanfigaaGreatDoor
