/- Walks and laws that the claim's theorem leans on: part 2. -/
import Derived.Test.YteodjglbpfmikaaGreatDoorZAx1
import Derived.Test.YteodjglbpfmikaaGreatDoorShSearch
import Derived.Lib.ItoaLen
import Derived.IntWalk
namespace Go.Proofs.YteodjglbpfmikaaGreatDoor
set_option maxHeartbeats 1000000
open Go.RowKit
def Steps (w : World) : Prop := ∃ b off cap : Nat, w.cell? ⟨3, 0, none⟩ = some (.slice (some ⟨b, off, none⟩) 3 cap) ∧
 w.cell? ⟨b, off, none⟩ = some (.int .i64 4) ∧ w.cell? ⟨b, off + 1, none⟩ = some (.int .i64 1) ∧
 w.cell? ⟨b, off + 2, none⟩ = some (.int .i64 100) ∧ w.cell? ⟨b, off + 3, none⟩ = some (.int .i64 (-1)) ∧
 w.cell? ⟨b, off + 4, none⟩ = some (.int .i64 400) ∧ w.cell? ⟨b, off + 5, none⟩ = some (.int .i64 1)
theorem Steps.below {w w' : World} (h : Steps w) (hb : Below w.heap.size w w') : Steps w' := by
 obtain ⟨b, off, cap, h0, h1, h2, h3, h4, h5, h6⟩ := h
 exact ⟨b, off, cap, cell_below hb h0, cell_below hb h1, cell_below hb h2, cell_below hb h3, cell_below hb h4, cell_below hb h5, cell_below hb h6⟩
theorem Steps.up {w w' : World} (h : Steps w) (hb : Up w w') : Steps w' := h.below hb.below
def YrB (y : Int) : Prop := -20000000000000000 ≤ y ∧ y ≤ 20000000000000000
theorem before_any (y : Int) (w : World) (hy : YrB y) (hE : Steps w) :
   Calls Tryz.prog 116 #[.int .i64 y] w fun e w' => e = .returned (.int .i64 (Cal.bf y)) ∧ Up w w' := by
 obtain ⟨b, off, cap, h0, h1, h2, h3, h4, h5, h6⟩ := hE
 obtain ⟨hy1, hy2⟩ := hy
 have hb0 := World.block_lt_of_cell? _ _ h1
 have hb1 : b < w.heap.size := hb0
 have hb2 : b < w.heap.size + 1 := by omega
 have hb3 : b < w.heap.size + 1 + 1 := by omega
 clear hb0
 go_enter Tryz.func116, Tryz.ntmps116
 go_wp2_with fail
 refine wp_loop_rounds 4 ?_
 rw [rounds_succ]
 go_wp2_with fail
 refine (div_pos _ _ _ (by unfold I64; omega) (by omega) (by omega)).mono ?_
 rintro e w1 ⟨rfl, rfl⟩
 go_wp2_with fail
 rw [rounds_succ]
 go_wp2_with fail
 refine (div_pos _ _ _ (by unfold I64; omega) (by omega) (by omega)).mono ?_
 rintro e w1 ⟨rfl, rfl⟩
 go_wp2_with fail
 rw [rounds_succ]
 go_wp2_with fail
 refine (div_pos _ _ _ (by unfold I64; omega) (by omega) (by omega)).mono ?_
 rintro e w1 ⟨rfl, rfl⟩
 go_wp2_with fail
 rw [rounds_succ]
 go_wp2_with fail
 go_ret
 refine ⟨ret1_i ?_, ?_⟩
 · unfold Cal.bf; omega
 · exact (((Up.refl _).alloc _).alloc _).alloc _
theorem bf_bd (y : Int) (hy : YrB y) : -10000000000000000 ≤ Cal.bf y ∧ Cal.bf y ≤ 10000000000000000 := by
 obtain ⟨h1, h2⟩ := hy
 unfold Cal.bf; omega
theorem start_any (y : Int) (w : World) (hy : YrB y) (hE : Steps w) :
  Calls Tryz.prog 63 #[.int .i64 y] w fun e w' => e = .returned (.int .i64 (Cal.sy y)) ∧ Up w w' := by
 have hb := bf_bd y hy
 have HY := hy
 obtain ⟨hy1, hy2⟩ := hy
 go_enter Tryz.func63, Tryz.ntmps63
 go_wp2_with (go_at_call 116; refine (before_any _ _ HY hE).mono ?_; rintro e w1 ⟨rfl, hu⟩)
 go_ret
 exact ⟨rfl, hu⟩
def IsY (y : Int) : Prop := -10000000000000000 ≤ y ∧ y ≤ 10000000000000000
instance (y : Int) : Decidable (IsY y) := by unfold IsY; infer_instance
theorem IsY.b {y : Int} (h : IsY y) : YrB y := by obtain ⟨_, _⟩ := h; exact ⟨by omega, by omega⟩
theorem IsY.b1 {y : Int} (h : IsY y) : YrB (y + 1) := by obtain ⟨_, _⟩ := h; exact ⟨by omega, by omega⟩
theorem check_yes (y : Int) (w : World) (hy : IsY y) :
  Calls Tryz.prog 18 #[.int .i64 y] w fun e w' => e = .returned (.int .i64 0) ∧ w = w' := by
 obtain ⟨hy1, hy2⟩ := hy
 have c1 : decide (y < -10000000000000000) = false := by simp; omega
 have c2 : decide (10000000000000000 < y) = false := by simp; omega
 go_enter Tryz.func18, Tryz.ntmps18
 go_wp2_with fail
 go_ret
 exact ⟨rfl, rfl⟩
theorem check_no (y : Int) (w : World) (hy : ¬ IsY y) :
   Calls Tryz.prog 18 #[.int .i64 y] w fun e w' => e = .returned (.int .i64 6) ∧ w = w' := by
 unfold IsY at hy
 by_cases h : y < -10000000000000000
 · have c1 : decide (y < -10000000000000000) = true := by simp; omega
   go_enter Tryz.func18, Tryz.ntmps18
   go_wp2_with fail
   go_ret
   exact ⟨rfl, rfl⟩
 · have c1 : decide (y < -10000000000000000) = false := by simp; omega
   have c2 : decide (10000000000000000 < y) = true := by simp; omega
   go_enter Tryz.func18, Tryz.ntmps18
   go_wp2_with fail
   go_ret
   exact ⟨rfl, rfl⟩
theorem ret2_b {l : IntKind} {a b : Bool} {c d : Int} (h : a = b) (h' : c = d) : Ending.returned (.tuple #[.bool a, .int l c]) = .returned (.tuple #[.bool b, .int l d]) := by rw [h, h']
theorem bf_lp (y : Int) : decide (Cal.bf y < Cal.bf (y + 1)) = Cal.lp y := by
 rw [Cal.bf_succ]; unfold Cal.lpN
 cases Cal.lp y
 · simp
 · simp; omega
theorem leap_yes (y : Int) (w : World) (hy : IsY y) (hE : Steps w) :
  Calls Tryz.prog 114 #[.int .i64 y] w fun e w' => e = .returned (.tuple #[.bool (Cal.lp y), .int .i64 0]) ∧ Up w w' := by
 have HY := hy
 obtain ⟨hy1, hy2⟩ := hy
 go_enter Tryz.func114, Tryz.ntmps114
 go_wp2_with (go_at_call 18; refine (check_yes _ _ HY).mono ?_; rintro e w1 ⟨rfl, rfl⟩)
 refine (before_any _ _ HY.b1 hE).mono ?_
 rintro e w1 ⟨rfl, hu⟩
 go_wp2_with fail
 refine (before_any _ _ HY.b (hE.up hu)).mono ?_
 rintro e w2 ⟨rfl, hu2⟩
 go_wp2_with fail
 go_ret2
 exact ⟨ret2_b (bf_lp y) rfl, hu.trans hu2⟩
theorem sy_bd (y : Int) (hy : YrB y) : -7400000000000000000 ≤ Cal.sy y ∧ Cal.sy y ≤ 7400000000000000000 := by
 obtain ⟨h1, h2⟩ := hy
 unfold Cal.sy Cal.bf; omega
theorem sy_bdY (y : Int) (hy : IsY y) : -3652425000000000000 ≤ Cal.sy y ∧ Cal.sy y ≤ 3652425000000000000 ∧ Cal.sy (y + 1) ≤ 3652425000000000366 := by
 obtain ⟨h1, h2⟩ := hy
 unfold Cal.sy Cal.bf; omega
theorem ystart_yes (y : Int) (w : World) (hy : IsY y) (hE : Steps w) :
  Calls Tryz.prog 57 #[.int .i64 y] w fun e w' => e = .returned (.tuple #[.int .i64 (Cal.sy y), .int .i64 0]) ∧ Up w w' := by
 go_enter Tryz.func57, Tryz.ntmps57
 go_wp2_with (first | (go_at_call 18; refine (check_yes _ _ hy).mono ?_; rintro e w1 ⟨rfl, rfl⟩) | (go_at_call 63; refine (start_any _ _ hy.b hE).mono ?_; rintro e w1 ⟨rfl, hu⟩))
 go_ret2
 exact ⟨rfl, hu⟩
theorem yend_yes (y : Int) (w : World) (hy : IsY y) (hE : Steps w) :
  Calls Tryz.prog 58 #[.int .i64 y] w fun e w' => e = .returned (.tuple #[.int .i64 (Cal.sy (y + 1) - 1), .int .i64 0]) ∧ Up w w' := by
 have HY := hy
 have hs := sy_bd (y + 1) hy.b1
 obtain ⟨hy1, hy2⟩ := hy
 go_enter Tryz.func58, Tryz.ntmps58
 go_wp2_with (first | (go_at_call 18; refine (check_yes _ _ HY).mono ?_; rintro e w1 ⟨rfl, rfl⟩) | (go_at_call 63; refine (start_any _ _ HY.b1 hE).mono ?_; rintro e w1 ⟨rfl, hu⟩))
 go_ret2
 exact ⟨rfl, hu⟩
def KU (w : World) (a : Addr) (v : Value) (w' : World) : Prop := Up w w' ∧ w'.cell? a = some v
theorem KU.step {w w1 w2 : World} {a : Addr} {v : Value} (h : KU w a v w1) (k : Up w1 w2) : KU w a v w2 := ⟨h.1.trans k, k.cell h.2⟩
theorem leap_is (y : Int) (b : Bool) (w : World) (hb : Cal.lp y = b) (hy : IsY y) (hE : Steps w) :
  Calls Tryz.prog 114 #[.int .i64 y] w fun e w' => e = .returned (.tuple #[.bool b, .int .i64 0]) ∧ Up w w' := by
 rw [← hb]; exact leap_yes y w hy hE
theorem sm_succ (y m : Int) (h1 : 1 ≤ m) (h2 : m ≤ 12) : Cal.sm y (m + 1) = Cal.sm y m + Cal.mlen y m := by
 unfold Cal.sm; rw [Cal.cum_succ y m h1 h2]; omega
def mo (d : Int) : Int := 1 + (((List.range 12).countP (fun i : Nat => decide (i < 11 ∧ Cal.sm (Cal.yr d) ((i : Int) + 2) ≤ d)) : Nat) : Int)
set_option maxHeartbeats 1000000
def lensL : List Int := [31, 28, 31, 30, 31, 30, 31, 31, 30, 31, 30, 31]
structure EnvM (w : World) : Prop where
 st : Steps w
 ln : ∀ i : Nat, i < 12 → w.cell? ⟨1, i, none⟩ = some (.int .i64 (lensL.getD i 0))
theorem EnvM.up {w w' : World} (h : EnvM w) (hb : Up w w') : EnvM w' := ⟨h.st.up hb, fun i hi => hb.cell (h.ln i hi)⟩
theorem EnvM.below {w w' : World} (h : EnvM w) (hb : Below w.heap.size w w') : EnvM w' := ⟨h.st.below hb, fun i hi => cell_below hb (h.ln i hi)⟩
def IsM (y m : Int) : Prop := IsY y ∧ 1 ≤ m ∧ m ≤ 12
instance (y m : Int) : Decidable (IsM y m) := by unfold IsM; infer_instance
def BadM (y m e : Int) : Prop := (¬ IsY y ∧ e = 6) ∨ (IsY y ∧ ¬ (1 ≤ m ∧ m ≤ 12) ∧ e = 7)
theorem mcheck_yes (y m : Int) (w : World) (h : IsM y m) :
  Calls Tryz.prog 59 #[.int .i64 y, .int .i64 m] w fun e w' => e = .returned (.int .i64 0) ∧ w = w' := by
 obtain ⟨hy, h1, h2⟩ := h
 have c1 : decide (m < 1) = false := by simp; omega
 have c2 : decide (12 < m) = false := by simp; omega
 go_enter Tryz.func59, Tryz.ntmps59
 go_wp2_with fail
 refine (check_yes _ _ hy).mono ?_
 rintro e w1 ⟨rfl, rfl⟩
 go_wp2_with fail
 go_ret
 exact ⟨rfl, rfl⟩
theorem mcheck_no (y m er : Int) (w : World) (h : BadM y m er) :
   Calls Tryz.prog 59 #[.int .i64 y, .int .i64 m] w fun e w' => e = .returned (.int .i64 er) ∧ w = w' := by
 rcases h with ⟨hy, rfl⟩ | ⟨hy, hm, rfl⟩
 · go_enter Tryz.func59, Tryz.ntmps59
   go_wp2_with fail
   refine (check_no _ _ hy).mono ?_
   rintro e w1 ⟨rfl, rfl⟩
   go_wp2_with fail
   go_ret
   exact ⟨rfl, rfl⟩
 · by_cases h1 : m < 1
   · have c1 : decide (m < 1) = true := by simp; omega
     go_enter Tryz.func59, Tryz.ntmps59
     go_wp2_with fail
     refine (check_yes _ _ hy).mono ?_
     rintro e w1 ⟨rfl, rfl⟩
     go_wp2_with fail
     go_ret
     exact ⟨rfl, rfl⟩
   · have c1 : decide (m < 1) = false := by simp; omega
     have c2 : decide (12 < m) = true := by simp; omega
     go_enter Tryz.func59, Tryz.ntmps59
     go_wp2_with fail
     refine (check_yes _ _ hy).mono ?_
     rintro e w1 ⟨rfl, rfl⟩
     go_wp2_with fail
     go_ret
     exact ⟨rfl, rfl⟩
theorem mlen_other (y m : Int) (h1 : 1 ≤ m) (h2 : m ≤ 12) (h : m ≠ 2) : lensL.getD (m - 1).toNat 0 = Cal.mlen y m := by
 have hm : m = 1 ∨ m = 3 ∨ m = 4 ∨ m = 5 ∨ m = 6 ∨ m = 7 ∨ m = 8 ∨ m = 9 ∨ m = 10 ∨ m = 11 ∨ m = 12 := by omega
 rcases hm with rfl | rfl | rfl | rfl | rfl | rfl | rfl | rfl | rfl | rfl | rfl <;> simp [Cal.mlen, lensL]
theorem length_yes (y m : Int) (w : World) (h : IsM y m) (hE : EnvM w) :
   Calls Tryz.prog 60 #[.int .i64 y, .int .i64 m] w fun e w' => e = .returned (.int .i64 (Cal.mlen y m)) ∧ Up w w' := by
 obtain ⟨hy, h1, h2⟩ := h
 by_cases hm : m = 2
 · subst hm
   cases hl : Cal.lp y
   · have e : Cal.mlen y 2 = 28 := by simp [Cal.mlen, Cal.lpN, hl]
     rw [e]
     go_enter Tryz.func60, Tryz.ntmps60
     go_wp2_with fail
     refine (leap_is y false _ hl hy hE.st).mono ?_
     rintro e w1 ⟨rfl, qw1⟩
     have uw1 := qw1
     clear qw1
     have c := (hE.up uw1).ln 1 (by decide)
     simp only [lensL, List.getD, List.getElem?_cons_succ, List.getElem?_cons_zero, Option.getD_some] at c
     go_wp2_with fail
     go_ret
     exact ⟨rfl, uw1⟩
   · have e : Cal.mlen y 2 = 29 := by simp [Cal.mlen, Cal.lpN, hl]
     rw [e]
     go_enter Tryz.func60, Tryz.ntmps60
     go_wp2_with fail
     refine (leap_is y true _ hl hy hE.st).mono ?_
     rintro e w1 ⟨rfl, qw1⟩
     have uw1 := qw1
     clear qw1
     go_wp2_with fail
     go_ret
     exact ⟨rfl, uw1⟩
 · have e := mlen_other y m h1 h2 hm
   have hm2 : (m == 2) = false := by rw [beq_eq_false_iff_ne]; exact hm
   obtain ⟨k, hk⟩ : ∃ k : Nat, (k : Int) = m - 1 := ⟨(m - 1).toNat, by omega⟩
   obtain rfl : m = k + 1 := by omega
   have hk2 : k < 12 := by omega
   rw [show ((k : Int) + 1 - 1).toNat = k by omega] at e
   have HE := Lib.hid e
   clear e hk hm
   cases hl : Cal.lp y
   all_goals
     have HL := Lib.hid hl
     clear hl
     go_enter Tryz.func60, Tryz.ntmps60
     go_wp2_with fail
     refine (leap_is y _ _ HL.out hy hE.st).mono ?_
     rintro e w1 ⟨rfl, u1⟩
     have c := (hE.up u1).ln k hk2
     go_wp2_with fail
     go_ret
     exact ⟨ret1_i HE.out, u1⟩
theorem mlen_yes (y m : Int) (w : World) (h : IsM y m) (hE : EnvM w) :
  Calls Tryz.prog 125 #[.int .i64 y, .int .i64 m] w fun e w' => e = .returned (.tuple #[.int .i64 (Cal.mlen y m), .int .i64 0]) ∧ Up w w' := by
 go_enter Tryz.func125, Tryz.ntmps125
 go_wp2_with fail
 refine (mcheck_yes _ _ _ h).mono ?_
 rintro e w1 ⟨rfl, rfl⟩
 go_wp2_with fail
 refine (length_yes _ _ _ h hE).mono ?_
 rintro e w2 ⟨rfl, qw2⟩
 have uw2 := qw2
 clear qw2
 go_wp2_with fail
 go_ret2
 exact ⟨rfl, uw2⟩
theorem mlen_no (y m er : Int) (w : World) (h : BadM y m er) :
  Calls Tryz.prog 125 #[.int .i64 y, .int .i64 m] w fun e w' => e = .returned (.tuple #[.int .i64 0, .int .i64 er]) ∧ w = w' := by
 have hb := h
 rcases h with ⟨_, rfl⟩ | ⟨_, _, rfl⟩
 all_goals
  go_enter Tryz.func125, Tryz.ntmps125
  go_wp2_with fail
  refine (mcheck_no _ _ _ _ hb).mono ?_
  rintro e w1 ⟨rfl, rfl⟩
  go_wp2_with fail
  go_ret2
  exact ⟨rfl, rfl⟩
theorem mstart_yes (y m : Int) (w : World) (h : IsM y m) (hE : EnvM w) :
  Calls Tryz.prog 19 #[.int .i64 y, .int .i64 m] w fun e w' => e = .returned (.tuple #[.int .i64 (Cal.sm y m), .int .i64 0]) ∧ Up w w' := by
 have HM := h
 obtain ⟨hy, h1, h2⟩ := h
 have hs := sy_bdY y hy
 have HY := Lib.hid hy
 obtain ⟨y1, y2⟩ := hy
 go_enter Tryz.func19, Tryz.ntmps19
 go_wp2_with fail
 refine (mcheck_yes _ _ _ HM).mono ?_
 rintro e w1 ⟨rfl, rfl⟩
 go_wp2_with fail
 refine (ystart_yes _ _ HY.out hE.st).mono ?_
 rintro e w2 ⟨rfl, qw2⟩
 have uw2 := qw2
 clear qw2
 go_wp2_with fail
 go_loopw [7, 23] (fun d i wr => ∃ k : Int, 0 ≤ k ∧ k ≤ m - 1 ∧ i = .int .i64 k ∧ d = .int .i64 (Cal.sm y (k + 1)) ∧ Up w wr) (fun _ i _ => (m - 1 - intOf i).toNat)
 case atStart => exact ⟨0, by omega, by omega, rfl, by simp [Cal.sm, Cal.cum_one], uw2⟩
 case round =>
  obtain ⟨k, k1, k2, rfl, rfl, hu⟩ := hrel
  have hc := Cal.cum_bd y (k + 1) (by omega) (by omega)
  have hcs : Cal.sm y (k + 1) = Cal.sy y + Cal.cum y (k + 1) := rfl
  have hsb : -3652425000000000000 ≤ Cal.sm y (k + 1) ∧ Cal.sm y (k + 1) ≤ 3652425000000000366 := by omega
  have hml := Cal.mlen_bd y (k + 1)
  clear hcs hc
  by_cases hlt : k < m - 1
  · have hn := sm_succ y (k + 1) (by omega) (by omega)
    have HN := Lib.hid hn
    have HM1 : IsM y (k + 1) := ⟨HY.out, by omega, by omega⟩
    clear hn
    go_wp2_with fail
    refine (length_yes _ _ _ HM1 (hE.up hu)).mono ?_
    rintro e w3 ⟨rfl, q⟩
    go_wp2_with fail
    go_roundw
    case rel => exact ⟨k + 1, by omega, by omega, rfl, by rw [HN.out], hu.trans q⟩
    case measure => simp [intOf]; omega
  · obtain rfl : k = m - 1 := by omega
    go_wp2_with fail
    go_ret2
    exact ⟨by simp, hu⟩
theorem sm_bd (y m : Int) (h : IsM y m) : -3652425000000000000 ≤ Cal.sm y m ∧ Cal.sm y m ≤ 3652425000000000366 ∧ Cal.sm y (m + 1) ≤ 3652425000000000366 := by
 obtain ⟨hy, h1, h2⟩ := h
 have hs := sy_bdY y hy
 have hc := Cal.cum_mono y 1 m (by omega) (by omega) (by omega)
 have hd := Cal.cum_mono y (m + 1) 13 (by omega) (by omega) (by omega)
 have he := Cal.cum_mono y m (m + 1) (by omega) (by omega) (by omega)
 have h13 := Cal.cum_13 y
 have hn := Cal.sy_succ y
 rw [Cal.cum_one] at hc
 unfold Cal.sm
 omega
theorem mend_yes (y m : Int) (w : World) (h : IsM y m) (hE : EnvM w) :
  Calls Tryz.prog 20 #[.int .i64 y, .int .i64 m] w fun e w' => e = .returned (.tuple #[.int .i64 (Cal.sm y (m + 1) - 1), .int .i64 0]) ∧ Up w w' := by
 have hb := sm_bd y m h
 have hl := Cal.mlen_bd y m
 have hn := sm_succ y m h.2.1 h.2.2
 have HN := Lib.hid hn
 clear hn
 go_enter Tryz.func20, Tryz.ntmps20
 go_wp2_with fail
 refine (mstart_yes _ _ _ h hE).mono ?_
 rintro e w1 ⟨rfl, qw1⟩
 have uw1 := qw1
 clear qw1
 go_wp2_with fail
 refine (length_yes _ _ _ h (hE.up uw1)).mono ?_
 rintro e w2 ⟨rfl, qw2⟩
 have uw2 := uw1.trans qw2
 clear qw2 uw1
 go_wp2_with fail
 go_ret2
 exact ⟨ret2_i (by rw [HN.out]) rfl, uw2⟩
def mi (y m : Int) : Int := 12 * y + (m - 1)
theorem madd_yes (y m k : Int) (w : World) (h : IsM y m) (hk : I64 k) (hz : IsY ((mi y m + k) / 12)) (_hE : EnvM w) :
  Calls Tryz.prog 62 #[.int .i64 y, .int .i64 m, .int .i64 k] w fun e w' => e = .returned (.tuple #[.int .i64 ((mi y m + k) / 12), .int .i64 ((mi y m + k) % 12 + 1), .int .i64 0]) ∧ Up w w' := by
 have HM := h
 obtain ⟨⟨y1, y2⟩, h1, h2⟩ := h
 have hi : 12 * y + (m - 1) = mi y m := rfl
 have hi2 : -120000000000000000 ≤ mi y m ∧ mi y m ≤ 120000000000000011 := by omega
 have HK := hk
 obtain ⟨k1, k2⟩ := hk
 have HZ := Lib.hid hz
 obtain ⟨z1, z2⟩ := hz
 have ht : I64 (mi y m + k) := ⟨by omega, by omega⟩
 have hmi : I64 (mi y m) := ⟨by omega, by omega⟩
 have HI := Lib.hid hi
 clear hi
 go_enter Tryz.func62, Tryz.ntmps62
 go_wp2_with fail
 refine (mcheck_yes _ _ _ HM).mono ?_
 rintro e w1 ⟨rfl, rfl⟩
 go_wp2_with fail
 rw [HI.out]
 go_wp2_with fail
 refine (add_fits _ _ _ hmi HK ht).mono ?_
 rintro e w2 ⟨rfl, qw2⟩
 have uw2 := qw2
 clear qw2
 go_wp2_with fail
 refine (div_pos _ _ _ ht (by omega) (by omega)).mono ?_
 rintro e w3 ⟨rfl, rfl⟩
 go_wp2_with fail
 refine (mod_pos _ _ _ ht (by omega) (by omega)).mono ?_
 rintro e w4 ⟨rfl, rfl⟩
 go_wp2_with fail
 refine (check_yes _ _ HZ.out).mono ?_
 rintro e w5 ⟨rfl, rfl⟩
 go_wp2_with fail
 go_ret3
 exact ⟨rfl, uw2⟩
set_option maxHeartbeats 2000000
set_option maxRecDepth 100000
set_option linter.unusedVariables false
set_option linter.unusedSimpArgs false
structure EnvC (w : World) : Prop where
 i : EnvI w
 m : EnvM w
 ml : ∃ n, w.cell? ⟨5, 0, none⟩ = some (.int .i64 n)
theorem EnvC.dn {w w' : World} (h : EnvC w) (k : Dn w w') : EnvC w' := by
 obtain ⟨n, hn⟩ := h.ml
 exact ⟨h.i.dn k, h.m.below k.below, n, k.cell hn⟩
def cErr (y m d : Int) : Int := if ¬ IsY y then 6 else if ¬ (1 ≤ m ∧ m ≤ 12) then 7 else if ¬ (1 ≤ d ∧ d ≤ Cal.mlen y m) then 8 else 0
theorem cErr_ok {y m d : Int} (h : cErr y m d = 0) : IsM y m ∧ 1 ≤ d ∧ d ≤ Cal.mlen y m := by
 unfold cErr at h
 split at h
 · omega
 · split at h
   · omega
   · split at h
     · omega
     · rename_i h1 h2 h3
       exact ⟨⟨Decidable.not_not.1 h1, Decidable.not_not.1 h2⟩, Decidable.not_not.1 h3⟩
theorem preAx28x1 (w : World) (y m d : Int) : ∃ W1, W1 = w.alloc (.cells #[.int .i64 y, .int .i64 m, .int .i64 d] 64) ∧ (Dn w W1) ∧ (W1.cell? ⟨w.heap.size, 0, none⟩ = some (.int .i64 y)) ∧ (W1.cell? ⟨w.heap.size, 1, none⟩ = some (.int .i64 m)) ∧ (W1.cell? ⟨w.heap.size, 2, none⟩ = some (.int .i64 d)) ∧ (w.heap.size < W1.heap.size) := by
  obtain ⟨W1, hW1⟩ : ∃ W1, W1 = w.alloc (.cells #[.int .i64 y, .int .i64 m, .int .i64 d] 64) := ⟨_, rfl⟩
  exact ⟨W1, hW1, (by rw [hW1]; exact (Dn.refl _).alloc _), (by rw [hW1]; simp [go_sem]), (by rw [hW1]; simp [go_sem]), (by rw [hW1]; simp [go_sem]), (by rw [hW1]; simp <;> omega)⟩
theorem cvChk_y (y m d : Int) (h : ¬ IsY y) (w : World) (hE : EnvC w) :
  Calls Tryz.prog 81 #[.agg #[.int .i64 y, .int .i64 m, .int .i64 d]] w fun ro w' => ro = .returned (.int .i64 6) ∧ Dn w w' := by
 have H := Lib.hid h
 clear h
 go_enter Tryz.func81, Tryz.ntmps81
 go_wp2_with fail
 obtain ⟨W1, hW1, uW1, c2, c3, c4, l5⟩ := preAx28x1 w y m d
 rw [← hW1]
 clear hW1
 refine (mlen_no y m 6 _ (Or.inl ⟨H.out, rfl⟩)).mono ?_
 rintro e w1 ⟨rfl, rfl⟩
 go_wp2_with fail
 go_ret
 exact ⟨rfl, uW1⟩
theorem cvChk_m (y m d : Int) (h : IsY y) (h2 : ¬ (1 ≤ m ∧ m ≤ 12)) (w : World) (hE : EnvC w) :
  Calls Tryz.prog 81 #[.agg #[.int .i64 y, .int .i64 m, .int .i64 d]] w fun ro w' => ro = .returned (.int .i64 7) ∧ Dn w w' := by
 have H := Lib.hid h
 have H2 := Lib.hid h2
 clear h h2
 go_enter Tryz.func81, Tryz.ntmps81
 go_wp2_with fail
 obtain ⟨W1, hW1, uW1, c2, c3, c4, l5⟩ := preAx28x1 w y m d
 rw [← hW1]
 clear hW1
 refine (mlen_no y m 7 _ (Or.inr ⟨H.out, H2.out, rfl⟩)).mono ?_
 rintro e w1 ⟨rfl, rfl⟩
 go_wp2_with fail
 go_ret
 exact ⟨rfl, uW1⟩
theorem cvChk_d1 (y m d : Int) (h : IsM y m) (h2 : d < 1) (w : World) (hE : EnvC w) :
  Calls Tryz.prog 81 #[.agg #[.int .i64 y, .int .i64 m, .int .i64 d]] w fun ro w' => ro = .returned (.int .i64 8) ∧ Dn w w' := by
 have H := Lib.hid h
 have c1 : decide (d < 1) = true := by simpa using h2
 clear h h2
 go_enter Tryz.func81, Tryz.ntmps81
 go_wp2_with fail
 obtain ⟨W1, hW1, uW1, c2, c3, c4, l5⟩ := preAx28x1 w y m d
 rw [← hW1]
 clear hW1
 refine (mlen_yes y m _ H.out (hE.dn uW1).m).mono ?_
 rintro e w1 ⟨rfl, qw1⟩
 replace qw1 := qw1.dn
 have l6 := nlt l5 qw1.size
 obtain ⟨c7, c8, c9⟩ := mv3 qw1.cell c2 c3 c4
 clear l5 c2 c3 c4
 have uw1 := uW1.trans qw1
 clear qw1 uW1
 go_wp2_with fail
 go_ret
 exact ⟨rfl, uw1⟩
theorem cvChk_d2 (y m d : Int) (h : IsM y m) (h2 : ¬ d < 1) (h3 : Cal.mlen y m < d) (w : World) (hE : EnvC w) :
  Calls Tryz.prog 81 #[.agg #[.int .i64 y, .int .i64 m, .int .i64 d]] w fun ro w' => ro = .returned (.int .i64 8) ∧ Dn w w' := by
 have H := Lib.hid h
 have c1 : decide (d < 1) = false := by simpa using h2
 have c2 : decide (Cal.mlen y m < d) = true := by simpa using h3
 clear h h2 h3
 go_enter Tryz.func81, Tryz.ntmps81
 go_wp2_with fail
 obtain ⟨W1, hW1, uW1, c2, c3, c4, l5⟩ := preAx28x1 w y m d
 rw [← hW1]
 clear hW1
 refine (mlen_yes y m _ H.out (hE.dn uW1).m).mono ?_
 rintro e w1 ⟨rfl, qw1⟩
 replace qw1 := qw1.dn
 have l6 := nlt l5 qw1.size
 obtain ⟨c7, c8, c9⟩ := mv3 qw1.cell c2 c3 c4
 clear l5 c2 c3 c4
 have uw1 := uW1.trans qw1
 clear qw1 uW1
 go_wp2_with fail
 go_ret
 exact ⟨rfl, uw1⟩
theorem cvChk_ok (y m d : Int) (h : IsM y m) (h2 : ¬ d < 1) (h3 : ¬ Cal.mlen y m < d) (w : World) (hE : EnvC w) :
  Calls Tryz.prog 81 #[.agg #[.int .i64 y, .int .i64 m, .int .i64 d]] w fun ro w' => ro = .returned (.int .i64 0) ∧ Dn w w' := by
 have H := Lib.hid h
 have c1 : decide (d < 1) = false := by simpa using h2
 have c2 : decide (Cal.mlen y m < d) = false := by simpa using h3
 clear h h2 h3
 go_enter Tryz.func81, Tryz.ntmps81
 go_wp2_with fail
 obtain ⟨W1, hW1, uW1, c2, c3, c4, l5⟩ := preAx28x1 w y m d
 rw [← hW1]
 clear hW1
 refine (mlen_yes y m _ H.out (hE.dn uW1).m).mono ?_
 rintro e w1 ⟨rfl, qw1⟩
 replace qw1 := qw1.dn
 have l6 := nlt l5 qw1.size
 obtain ⟨c7, c8, c9⟩ := mv3 qw1.cell c2 c3 c4
 clear l5 c2 c3 c4
 have uw1 := uW1.trans qw1
 clear qw1 uW1
 go_wp2_with fail
 go_ret
 exact ⟨rfl, uw1⟩
theorem cvChk (y m d e : Int) (w : World) (hE : EnvC w) (he : cErr y m d = e) :
   Calls Tryz.prog 81 #[.agg #[.int .i64 y, .int .i64 m, .int .i64 d]] w fun ro w' => ro = .returned (.int .i64 e) ∧ Dn w w' := by
 subst he
 unfold cErr
 by_cases h1 : IsY y
 · rw [if_neg (fun h => h h1)]
   by_cases h2 : 1 ≤ m ∧ m ≤ 12
   · rw [if_neg (fun h => h h2)]
     by_cases h3 : d < 1
     · rw [if_pos (by omega)]; exact cvChk_d1 y m d ⟨h1, h2⟩ h3 w hE
     · by_cases h4 : Cal.mlen y m < d
       · rw [if_pos (by omega)]; exact cvChk_d2 y m d ⟨h1, h2⟩ h3 h4 w hE
       · rw [if_neg (by omega)]; exact cvChk_ok y m d ⟨h1, h2⟩ h3 h4 w hE
   · rw [if_pos h2]; exact cvChk_m y m d h1 h2 w hE
 · rw [if_pos h1]; exact cvChk_y y m d h1 w hE
theorem cvDay_ok (y m d : Int) (he : cErr y m d = 0) (w : World) (hE : EnvC w) :
  Calls Tryz.prog 42 #[.agg #[.int .i64 y, .int .i64 m, .int .i64 d]] w fun ro w' => ro = .returned (.tuple #[.int .i64 (Cal.sm y m + d - 1), .int .i64 0]) ∧ Dn w w' := by
 obtain ⟨hm, d1, d2⟩ := cErr_ok he
 have hb := sm_bd y m hm
 have hl := Cal.mlen_bd y m
 have H := Lib.hid he
 have HM := Lib.hid hm
 clear he hm
 go_enter Tryz.func42, Tryz.ntmps42
 go_wp2_with fail
 obtain ⟨W1, hW1, uW1, c2, c3, c4, l5⟩ := preAx28x1 w y m d
 rw [← hW1]
 clear hW1
 refine (cvChk y m d 0 _ (hE.dn uW1) H.out).mono ?_
 rintro e w1 ⟨rfl, qw1⟩
 have l6 := nlt l5 qw1.size
 obtain ⟨c7, c8, c9⟩ := mv3 qw1.cell c2 c3 c4
 clear l5 c2 c3 c4
 have uw1 := uW1.trans qw1
 clear qw1 uW1
 go_wp2_with fail
 refine (mstart_yes y m _ HM.out (hE.dn uw1).m).mono ?_
 rintro e w2 ⟨rfl, qw2⟩
 replace qw2 := qw2.dn
 have l10 := nlt l6 qw2.size
 obtain ⟨c11, c12, c13⟩ := mv3 qw2.cell c7 c8 c9
 clear l6 c7 c8 c9
 have uw2 := uw1.trans qw2
 clear qw2 uw1
 go_wp2_with fail
 go_ret2
 exact ⟨rfl, uw2⟩
set_option maxHeartbeats 1000000
def spansL : List Int := [3, 3, 6, 3, 9, 3, 12, 3, 3, 3, 6, 3, 9, 3, 12, 3, 9, 3, 12, 3, 3, 3, 6, 3, 1, 3, 4, 3, 7, 3, 10, 3, 1, 4, 5, 4, 9, 4, 1, 6, 7, 6]
def fromS (c : Int) : Int := spansL.getD (2 * (c - 21)).toNat 0
def manyS (c : Int) : Int := spansL.getD (2 * (c - 21) + 1).toNat 0
structure EnvS (w : World) : Prop where
 mo : EnvM w
 sp : ∀ i : Nat, i < 42 → w.cell? ⟨2, i, none⟩ = some (.int .i64 (spansL.getD i 0))
theorem EnvS.up {w w' : World} (h : EnvS w) (hb : Up w w') : EnvS w' := ⟨h.mo.up hb, fun i hi => hb.cell (h.sp i hi)⟩
theorem EnvS.below {w w' : World} (h : EnvS w) (hb : Below w.heap.size w w') : EnvS w' := ⟨h.mo.below hb, fun i hi => cell_below hb (h.sp i hi)⟩
def IsC (c : Int) : Prop := 21 ≤ c ∧ c ≤ 41
instance (c : Int) : Decidable (IsC c) := by unfold IsC; infer_instance
theorem scheck_yes (c : Int) (w : World) (h : IsC c) :
  Calls Tryz.prog 115 #[.int .i64 c] w fun e w' => e = .returned (.int .i64 0) ∧ w = w' := by
 obtain ⟨h1, h2⟩ := h
 have c1 : decide (c < 21) = false := by simp; omega
 have c2 : decide (42 ≤ c) = false := by simp; omega
 go_enter Tryz.func115, Tryz.ntmps115
 go_wp2_with fail
 go_ret
 exact ⟨rfl, rfl⟩
theorem smonths_yes (c : Int) (w : World) (h : IsC c) (hE : EnvS w) :
  Calls Tryz.prog 61 #[.int .i64 c] w fun e w' => e = .returned (.tuple #[.int .i64 (fromS c), .int .i64 (manyS c), .int .i64 0]) ∧ Up w w' := by
 have HC := h
 obtain ⟨k, hk⟩ : ∃ k : Nat, (k : Int) = c - 21 := ⟨(c - 21).toNat, by have := h.1; omega⟩
 obtain rfl : c = k + 21 := by omega
 have hk2 : k < 21 := by have := h.2; omega
 have c0 := hE.sp (k * 2) (by omega)
 have c1 := hE.sp (k * 2 + 1) (by omega)
 have e0 : fromS (k + 21) = spansL.getD (k * 2) 0 := by unfold fromS; congr 1; omega
 have e1 : manyS (k + 21) = spansL.getD (k * 2 + 1) 0 := by unfold manyS; congr 1; omega
 rw [← e0] at c0
 rw [← e1] at c1
 have E0 := Lib.hid e0
 have E1 := Lib.hid e1
 clear e0 e1 hk h
 generalize fromS (k + 21) = a at *
 generalize manyS (k + 21) = b at *
 go_enter Tryz.func61, Tryz.ntmps61
 go_wp2_with fail
 refine (scheck_yes _ _ HC).mono ?_
 rintro e w1 ⟨rfl, rfl⟩
 go_wp2_with fail
 go_quiet (fail)
 go_wp2_with fail
 go_ret3
 exact ⟨rfl, ((Up.refl _).alloc _).drewN _⟩
def runV (a b : Int) : Value := .agg #[.int .i8 0, .int .i64 a, .int .i8 0, .int .i64 b]
theorem Up.frozen {w w' : World} {a : Addr} (hb : Up w w') (ha : a.block < w.heap.size) : w'.frozen? a = w.frozen? a := hb.below.frozen ha
structure RunAt (n : Nat) (w' : World) : Prop where
 c0 : w'.cell? ⟨n, 0, none⟩ = some (.int .i8 0)
 c1 : w'.cell? ⟨n, 1, none⟩ = some (.int .i64 0)
 c2 : w'.cell? ⟨n, 2, none⟩ = some (.int .i8 0)
 c3 : w'.cell? ⟨n, 3, none⟩ = some (.int .i64 0)
 f : ∀ i, w'.frozen? ⟨n, i, none⟩ = false
 s : n < w'.heap.size
theorem RunAt.up {n : Nat} {w w' : World} (h : RunAt n w) (k : Up w w') : RunAt n w' :=
 ⟨k.cell h.c0, k.cell h.c1, k.cell h.c2, k.cell h.c3, fun i => (k.frozen (a := ⟨n, i, none⟩) h.s).trans (h.f i), Nat.lt_of_lt_of_le h.s k.size⟩
theorem RunAt.new (w : World) (t : TypeId) : RunAt w.heap.size (w.alloc (.cells #[.int .i8 0, .int .i64 0, .int .i8 0, .int .i64 0] t)) :=
 ⟨by simp, by simp, by simp, by simp, fun i => by simp [go_sem], by simp⟩
def setRun (w : World) (n : Nat) (a b c d : Value) : World := (((w.setCell ⟨n, 0, none⟩ a).setCell ⟨n, 1, none⟩ b).setCell ⟨n, 2, none⟩ c).setCell ⟨n, 3, none⟩ d
theorem setRun_cells {n : Nat} {w : World} (h : RunAt n w) (a b c d : Value) : (setRun w n a b c d).cell? ⟨n, 0, none⟩ = some a ∧ (setRun w n a b c d).cell? ⟨n, 1, none⟩ = some b ∧ (setRun w n a b c d).cell? ⟨n, 2, none⟩ = some c ∧ (setRun w n a b c d).cell? ⟨n, 3, none⟩ = some d := by
 obtain ⟨c0, c1, c2, c3, _, _⟩ := h
 have o : ∀ (w : World) (i j : Nat) (v : Value), i ≠ j → (w.setCell ⟨n, i, none⟩ v).cell? ⟨n, j, none⟩ = w.cell? ⟨n, j, none⟩ := fun w i j v hij => World.cell?_setCell_other _ _ _ _ (fun h => hij (congrArg Addr.off h))
 unfold setRun
 refine ⟨?_, ?_, ?_, ?_⟩
 · rw [o _ _ _ _ (by decide), o _ _ _ _ (by decide), o _ _ _ _ (by decide)]
   exact World.cell?_setCell_same _ _ _ c0
 · rw [o _ _ _ _ (by decide), o _ _ _ _ (by decide)]
   exact World.cell?_setCell_same _ _ _ (u := .int .i64 0) (by rw [o _ _ _ _ (by decide)]; exact c1)
 · rw [o _ _ _ _ (by decide)]
   exact World.cell?_setCell_same _ _ _ (u := .int .i8 0) (by rw [o _ _ _ _ (by decide), o _ _ _ _ (by decide)]; exact c2)
 · exact World.cell?_setCell_same _ _ _ (u := .int .i64 0) (by rw [o _ _ _ _ (by decide), o _ _ _ _ (by decide), o _ _ _ _ (by decide)]; exact c3)
theorem setRun_up {w0 w : World} {n : Nat} (h : Up w0 w) (hn : w0.heap.size ≤ n) (a b c d : Value) : Up w0 (setRun w n a b c d) :=
 (((h.setCell (p := ⟨n, 0, none⟩) hn a).setCell (p := ⟨n, 1, none⟩) hn b).setCell (p := ⟨n, 2, none⟩) hn c).setCell (p := ⟨n, 3, none⟩) hn d
theorem code_bd (c : Int) (h : IsC c) : 1 ≤ fromS c ∧ fromS c ≤ 12 ∧ 3 ≤ manyS c ∧ manyS c ≤ 6 := by
 obtain ⟨h1, h2⟩ := h
 have : c = 21 ∨ c = 22 ∨ c = 23 ∨ c = 24 ∨ c = 25 ∨ c = 26 ∨ c = 27 ∨ c = 28 ∨ c = 29 ∨ c = 30 ∨ c = 31 ∨ c = 32 ∨ c = 33 ∨ c = 34 ∨ c = 35 ∨ c = 36 ∨ c = 37 ∨ c = 38 ∨ c = 39 ∨ c = 40 ∨ c = 41 := by omega
 rcases this with rfl | rfl | rfl | rfl | rfl | rfl | rfl | rfl | rfl | rfl | rfl | rfl | rfl | rfl | rfl | rfl | rfl | rfl | rfl | rfl | rfl <;> decide
def lastS (y c : Int) : Int := mi y (fromS c) + (manyS c - 1)
def IsSY (y c : Int) : Prop := IsY y ∧ IsY (lastS y c / 12)
instance (y c : Int) : Decidable (IsSY y c) := by unfold IsSY; infer_instance
def sLo (y c : Int) : Int := Cal.sm y (fromS c)
def sHi (y c : Int) : Int := Cal.sm (lastS y c / 12) (lastS y c % 12 + 1 + 1) - 1
theorem srun_yes (y c : Int) (w : World) (h : IsC c) (hs : IsSY y c) (hE : EnvS w) :
  Calls Tryz.prog 22 #[.int .i64 y, .int .i64 c] w fun e w' => e = .returned (.tuple #[runV (sLo y c) (sHi y c), .int .i64 0]) ∧ Up w w' := by
 have hr := RunAt.new w 30
 have u0 : Up w (w.alloc (.cells #[.int .i8 0, .int .i64 0, .int .i8 0, .int .i64 0] 30)) := (Up.refl _).alloc _
 obtain ⟨b1, b2, b3, b4⟩ := code_bd c h
 obtain ⟨hy, hz⟩ := hs
 have HM : IsM y (fromS c) := ⟨hy, b1, b2⟩
 have HL : IsM (lastS y c / 12) (lastS y c % 12 + 1) := ⟨hz, by omega, by omega⟩
 go_enter Tryz.func22, Tryz.ntmps22
 go_wp2_with fail
 refine (smonths_yes _ _ h (hE.up u0)).mono ?_
 rintro e w1 ⟨rfl, q1⟩
 have r1 := hr.up q1
 have u1 := u0.trans q1
 clear q1 u0 hr
 go_wp2_with fail
 refine (mstart_yes _ _ _ HM (hE.up u1).mo).mono ?_
 rintro e w2 ⟨rfl, q2⟩
 have r2 := r1.up q2
 have u2 := u1.trans q2
 clear q2 u1 r1
 go_wp2_with fail
 refine (madd_yes _ _ _ _ HM ⟨by omega, by omega⟩ hz (hE.up u2).mo).mono ?_
 rintro e w3 ⟨rfl, q3⟩
 have r1 := r2.up q3
 have u3 := u2.trans q3
 clear q3 u2 r2
 go_wp2_with fail
 refine (mend_yes _ _ _ HL (hE.up u3).mo).mono ?_
 rintro e w4 ⟨rfl, q4⟩
 have r2 := r1.up q4
 have u4 := u3.trans q4
 clear q4 u3 r1
 have r1 := r2
 clear r2
 have HR := r1
 obtain ⟨r0, r1, r2, r3, rf, rs⟩ := r1
 have f0 := rf 0
 have f1 := rf 1
 have f2 := rf 2
 have f3 := rf 3
 clear rf
 go_wp2_with fail
 obtain ⟨z0, z1, z2, z3⟩ := setRun_cells HR (.int .i8 0) (.int .i64 (sLo y c)) (.int .i8 0) (.int .i64 (sHi y c))
 exact bodyPost_ret (w := setRun w4 w.heap.size (.int .i8 0) (.int .i64 (sLo y c)) (.int .i8 0) (.int .i64 (sHi y c))) (v := .tuple #[runV (sLo y c) (sHi y c), .int .i64 0]) (by simp [results, Tryz.results22, go_sem, runV, z0, z1, z2, z3]) rfl ⟨rfl, setRun_up u4 (Nat.le_refl _) _ _ _ _⟩
instance decOk (l : List UInt8) : Decidable (pOk l) := by unfold pOk Dg.isD; infer_instance
theorem size_itoa (n : Int) (h : I64 n) : (⟨(Lib.itoa n).toArray⟩ : ByteArray).size ≤ 1000 := by
 have := Lib.itoa_length_le n h.1 h.2
 simp [ByteArray.size]; omega
def Fits (z s e : Int) : Prop := (I64 z ∧ s = z ∧ e = 0) ∨ (¬ I64 z ∧ s = 0 ∧ e = 15)
theorem Fits.i64 {z s e : Int} (h : Fits z s e) : I64 s := by
 rcases h with ⟨h, rfl, _⟩ | ⟨_, rfl, _⟩
 · exact h
 · decide
def Len (z : Int) : Prop := (Dg.dl z.natAbs).length ≤ 1000
theorem Len.of {z : Int} (h : z.natAbs ≤ 85070591730234615865843651857942052864) : Len z := by
 unfold Len
 refine Nat.le_trans (Dg.dl_len (k := 39) ?_) (by decide)
 have e : Dg.p10 39 = 1000000000000000000000000000000000000000 := by decide +kernel
 rw [e]; omega
theorem add_any (a b z s e : Int) (w : World) (ha : I64 a) (hb : I64 b) (hz : a + b = z) (hf : Fits z s e) :
   Calls Tryz.prog 41 #[.int .i64 a, .int .i64 b] w fun r w' => r = .returned (.tuple #[.int .i64 s, .int .i64 e]) ∧ Up w w' := by
 subst hz
 rcases hf with ⟨h, rfl, rfl⟩ | ⟨h, rfl, rfl⟩
 · exact add_fits a b w ha hb h
 · exact add_over a b w ha hb h
set_option maxHeartbeats 400000
def c3 (a b : Int) : Int := if a < b then -1 else if b < a then 1 else 0
def eC (i d j f : Int) : Int := if c3 i j ≠ 0 then c3 i j else c3 d f
def eOk (i d : Int) : Prop := i = 0 ∨ (i = 1 ∨ i = -1) ∧ d = 0
instance decEOk (i d : Int) : Decidable (eOk i d) := by unfold eOk; infer_instance
def eErr (i d : Int) : Int := if eOk i d then 0 else 5
theorem c3_lt {a b : Int} (h : a < b) : c3 a b = -1 := by unfold c3; rw [if_pos h]
theorem c3_gt {a b : Int} (h : b < a) : c3 a b = 1 := by unfold c3; rw [if_neg (by omega), if_pos h]
theorem c3_eq (a : Int) : c3 a a = 0 := by unfold c3; simp
theorem isNaN8 (a : Int) (w : World) : Calls Tryz.prog 112 #[.int .i8 a] w fun e w' => e = .returned (.bool false) ∧ w = w' := by
 go_enter Tryz.func112, Tryz.ntmps112
 go_wp2_with fail
 go_ret
 exact ⟨retb (by simp), rfl⟩
theorem isNaN64 (a : Int) (w : World) : Calls Tryz.prog 113 #[.int .i64 a] w fun e w' => e = .returned (.bool false) ∧ w = w' := by
 go_enter Tryz.func113, Tryz.ntmps113
 go_wp2_with fail
 go_ret
 exact ⟨retb (by simp), rfl⟩
theorem cmp8 (a b : Int) (w : World) : Calls Tryz.prog 55 #[.int .i8 a, .int .i8 b] w fun e w' => e = .returned (.int .i64 (c3 a b)) ∧ w = w' := by
 rcases Int.lt_trichotomy a b with h | h | h
 · have d1 : decide (a < b) = true := by simpa using h
   have HC := Lib.hid (c3_lt h)
   go_enter Tryz.func55, Tryz.ntmps55
   go_wp2_with fail
   refine (isNaN8 a _).mono ?_
   rintro e w1 ⟨rfl, rfl⟩
   go_wp2_with fail
   refine (isNaN8 b _).mono ?_
   rintro e w2 ⟨rfl, rfl⟩
   go_wp2_with fail
   go_ret
   exact ⟨ret1_i HC.out.symm, rfl⟩
 · subst h
   have HC := Lib.hid (c3_eq a)
   have d1 : decide (a < a) = false := by simp
   go_enter Tryz.func55, Tryz.ntmps55
   go_wp2_with fail
   refine (isNaN8 a _).mono ?_
   rintro e w1 ⟨rfl, rfl⟩
   go_wp2_with fail
   refine (isNaN8 a _).mono ?_
   rintro e w2 ⟨rfl, rfl⟩
   go_wp2_with fail
   go_ret
   exact ⟨ret1_i HC.out.symm, rfl⟩
 · have d1 : decide (a < b) = false := by simp; omega
   have d2 : decide (b < a) = true := by simpa using h
   have HC := Lib.hid (c3_gt h)
   go_enter Tryz.func55, Tryz.ntmps55
   go_wp2_with fail
   refine (isNaN8 a _).mono ?_
   rintro e w1 ⟨rfl, rfl⟩
   go_wp2_with fail
   refine (isNaN8 b _).mono ?_
   rintro e w2 ⟨rfl, rfl⟩
   go_wp2_with fail
   go_ret
   exact ⟨ret1_i HC.out.symm, rfl⟩
theorem cmp64 (a b : Int) (w : World) : Calls Tryz.prog 56 #[.int .i64 a, .int .i64 b] w fun e w' => e = .returned (.int .i64 (c3 a b)) ∧ w = w' := by
 rcases Int.lt_trichotomy a b with h | h | h
 · have d1 : decide (a < b) = true := by simpa using h
   have HC := Lib.hid (c3_lt h)
   go_enter Tryz.func56, Tryz.ntmps56
   go_wp2_with fail
   refine (isNaN64 a _).mono ?_
   rintro e w1 ⟨rfl, rfl⟩
   go_wp2_with fail
   refine (isNaN64 b _).mono ?_
   rintro e w2 ⟨rfl, rfl⟩
   go_wp2_with fail
   go_ret
   exact ⟨ret1_i HC.out.symm, rfl⟩
 · subst h
   have HC := Lib.hid (c3_eq a)
   have d1 : decide (a < a) = false := by simp
   go_enter Tryz.func56, Tryz.ntmps56
   go_wp2_with fail
   refine (isNaN64 a _).mono ?_
   rintro e w1 ⟨rfl, rfl⟩
   go_wp2_with fail
   refine (isNaN64 a _).mono ?_
   rintro e w2 ⟨rfl, rfl⟩
   go_wp2_with fail
   go_ret
   exact ⟨ret1_i HC.out.symm, rfl⟩
 · have d1 : decide (a < b) = false := by simp; omega
   have d2 : decide (b < a) = true := by simpa using h
   have HC := Lib.hid (c3_gt h)
   go_enter Tryz.func56, Tryz.ntmps56
   go_wp2_with fail
   refine (isNaN64 a _).mono ?_
   rintro e w1 ⟨rfl, rfl⟩
   go_wp2_with fail
   refine (isNaN64 b _).mono ?_
   rintro e w2 ⟨rfl, rfl⟩
   go_wp2_with fail
   go_ret
   exact ⟨ret1_i HC.out.symm, rfl⟩
def or2 (x y : Int) : Int := if x ≠ 0 then x else y
theorem cmpOr (B : Nat) (x y : Int) (w : World) (h0 : w.cell? ⟨B, 0, none⟩ = some (.int .i64 x)) (h1 : w.cell? ⟨B, 1, none⟩ = some (.int .i64 y)) :
  Calls Tryz.prog 54 #[.slice (some ⟨B, 0, none⟩) 2 2] w fun e w' => e = .returned (.int .i64 (or2 x y)) ∧ w = w' := by
 go_enter Tryz.func54, Tryz.ntmps54
 go_wp2_with fail
 go_loop [8] (fun kv => ∃ k : Int, 0 ≤ k ∧ k ≤ 2 ∧ kv = .int .i64 k ∧ (1 ≤ k → x = 0) ∧ (2 ≤ k → y = 0)) (fun kv => (2 - intOf kv).toNat)
 case atStart => exact ⟨0, by omega, by omega, rfl, by omega, by omega⟩
 case round =>
  obtain ⟨k, k0, k2, rfl, hx, hy⟩ := hrel
  have hk : k = 0 ∨ k = 1 ∨ k = 2 := by omega
  clear k0 k2
  rcases hk with rfl | rfl | rfl
  · clear hx hy
    by_cases hx : x = 0
    · subst hx
      go_wp2_with fail
      go_round
      case rel => exact ⟨1, by omega, by omega, rfl, by intros; trivial, by omega⟩
      case measure => simp [intOf]
    · have d : (x != 0) = true := by simpa using hx
      have HC := Lib.hid (show or2 x y = x by unfold or2; rw [if_pos hx])
      go_wp2_with fail
      go_ret
      exact ⟨ret1_i HC.out.symm, rfl⟩
  · obtain rfl := hx (by omega)
    clear hx hy
    by_cases hy : y = 0
    · subst hy
      go_wp2_with fail
      go_round
      case rel => exact ⟨2, by omega, by omega, rfl, by intros; trivial, by intros; trivial⟩
      case measure => simp [intOf]
    · have d : (y != 0) = true := by simpa using hy
      have HC := Lib.hid (show or2 0 y = y by unfold or2; rw [if_neg (by simp)])
      go_wp2_with fail
      go_ret
      exact ⟨ret1_i HC.out.symm, rfl⟩
  · obtain rfl := hx (by omega)
    obtain rfl := hy (by omega)
    clear hx hy
    have HC := Lib.hid (show or2 0 0 = 0 by decide)
    go_wp2_with fail
    go_ret
    exact ⟨ret1_i HC.out.symm, rfl⟩
set_option maxHeartbeats 1000000
theorem eErr_ok {i d : Int} (h : eOk i d) : eErr i d = 0 := by unfold eErr; rw [if_pos h]
theorem eErr_bad {i d : Int} (h : ¬ eOk i d) : eErr i d = 5 := by unfold eErr; rw [if_neg h]
theorem eChk (i d : Int) (w : World) : Calls Tryz.prog 91 #[.agg #[.int .i8 i, .int .i64 d]] w fun e w' => e = .returned (.int .i64 (eErr i d)) ∧ Up w w' := by
 by_cases h0 : i = 0
 · subst h0
   have HE := Lib.hid (eErr_ok (i := 0) (d := d) (Or.inl rfl))
   go_enter Tryz.func91, Tryz.ntmps91
   go_wp2_with fail
   go_ret
   exact ⟨ret1_i HE.out.symm, (Up.refl _).alloc _⟩
 · have c0 : (i == 0) = false := by simpa using h0
   by_cases h1 : i = 1
   · subst h1
     by_cases hd : d = 0
     · subst hd
       have HE := Lib.hid (eErr_ok (i := 1) (d := 0) (Or.inr ⟨Or.inl rfl, rfl⟩))
       go_enter Tryz.func91, Tryz.ntmps91
       go_wp2_with fail
       go_ret
       exact ⟨ret1_i HE.out.symm, (Up.refl _).alloc _⟩
     · have c1 : (d == 0) = false := by simpa using hd
       have HE := Lib.hid (eErr_bad (i := 1) (d := d) (by unfold eOk; omega))
       go_enter Tryz.func91, Tryz.ntmps91
       go_wp2_with fail
       go_ret
       exact ⟨ret1_i HE.out.symm, (Up.refl _).alloc _⟩
   · have c1 : (i == 1) = false := by simpa using h1
     by_cases h2 : i = -1
     · subst h2
       by_cases hd : d = 0
       · subst hd
         have HE := Lib.hid (eErr_ok (i := -1) (d := 0) (Or.inr ⟨Or.inr rfl, rfl⟩))
         go_enter Tryz.func91, Tryz.ntmps91
         go_wp2_with fail
         go_ret
         exact ⟨ret1_i HE.out.symm, (Up.refl _).alloc _⟩
       · have c2 : (d == 0) = false := by simpa using hd
         have HE := Lib.hid (eErr_bad (i := -1) (d := d) (by unfold eOk; omega))
         go_enter Tryz.func91, Tryz.ntmps91
         go_wp2_with fail
         go_ret
         exact ⟨ret1_i HE.out.symm, (Up.refl _).alloc _⟩
     · have c2 : (i == -1) = false := by simpa using h2
       have HE := Lib.hid (eErr_bad (i := i) (d := d) (by unfold eOk; omega))
       go_enter Tryz.func91, Tryz.ntmps91
       go_wp2_with fail
       go_ret
       exact ⟨ret1_i HE.out.symm, (Up.refl _).alloc _⟩
theorem eOf (d : Int) (w : World) : Calls Tryz.prog 16 #[.int .i64 d] w fun e w' => e = .returned (.agg #[.int .i8 0, .int .i64 d]) ∧ Up w w' := by
 go_enter Tryz.func16, Tryz.ntmps16
 go_wp2_with fail
 exact bodyPost_ret (v := .agg #[.int .i8 0, .int .i64 d]) (by simp [results, Tryz.results16, go_sem]) rfl ⟨rfl, (Up.refl _).alloc _⟩
theorem kE2 {W w1 w2 : World} {a0 a1 a2 a3 : Addr} {v0 v1 v2 v3 : Value} (k : Up w1 w2) (h : Up W w1 ∧ w1.cell? a0 = some v0 ∧ w1.cell? a1 = some v1 ∧ w1.cell? a2 = some v2 ∧ w1.cell? a3 = some v3) :
  Up W w2 ∧ w2.cell? a0 = some v0 ∧ w2.cell? a1 = some v1 ∧ w2.cell? a2 = some v2 ∧ w2.cell? a3 = some v3 := by
 obtain ⟨h1, c0, c1, c2, c3⟩ := h
 exact ⟨h1.trans k, k.cell c0, k.cell c1, k.cell c2, k.cell c3⟩
theorem eCmp (i d j f : Int) (w : World) : Calls Tryz.prog 15 #[.agg #[.int .i8 i, .int .i64 d], .agg #[.int .i8 j, .int .i64 f]] w fun e w' => e = .returned (.int .i64 (eC i d j f)) ∧ Up w w' := by
  obtain ⟨W, hW⟩ : ∃ W, W = (w.alloc (.cells #[.int .i8 i, .int .i64 d] 28)).alloc (.cells #[.int .i8 j, .int .i64 f] 28) := ⟨_, rfl⟩
  have u : Up w W := by rw [hW]; exact ((Up.refl _).alloc _).alloc _
  have c0 : W.cell? ⟨w.heap.size, 0, none⟩ = some (.int .i8 i) := by rw [hW]; simp [go_sem]
  have c1 : W.cell? ⟨w.heap.size, 1, none⟩ = some (.int .i64 d) := by rw [hW]; simp [go_sem]
  have c2 : W.cell? ⟨w.heap.size + 1, 0, none⟩ = some (.int .i8 j) := by rw [hW]; simp [go_sem]
  have c3' : W.cell? ⟨w.heap.size + 1, 1, none⟩ = some (.int .i64 f) := by rw [hW]; simp [go_sem]
  have hS := kE2 (W := W) (Up.refl W) ⟨Up.refl _, c0, c1, c2, c3'⟩
  have HW := Lib.hid hW
  have HC := Lib.hid (show or2 (c3 i j) (c3 d f) = eC i d j f from rfl)
  clear hW c0 c1 c2 c3'
  go_enter Tryz.func15, Tryz.ntmps15
  go_wp2_with fail
  rw [← HW.out]
  clear HW
  go_region_held3 (fun w' => Up W w' ∧ w'.cell? ⟨w.heap.size, 0, none⟩ = some (.int .i8 i) ∧ w'.cell? ⟨w.heap.size, 1, none⟩ = some (.int .i64 d) ∧ w'.cell? ⟨w.heap.size + 1, 0, none⟩ = some (.int .i8 j) ∧ w'.cell? ⟨w.heap.size + 1, 1, none⟩ = some (.int .i64 f))
    (first | exact kE2 ((Up.refl _).drew) hS | exact kE2 (((Up.refl _).alloc _).drew) hS | assumption)
    (first
      | (go_at_call 55; refine (cmp8 _ _ _).mono ?_; rintro e wa ⟨rfl, rfl⟩)
      | (go_at_call 56; refine (cmp64 _ _ _).mono ?_; rintro e wa ⟨rfl, rfl⟩)
      | (go_at_call 54; refine (cmpOr _ (c3 i j) (c3 d f) _ ?_ ?_).mono ?_; (simp [go_sem]); (simp [go_sem]); rintro e wa ⟨rfl, rfl⟩))
  all_goals
    clear hS
    go_wp2_with fail
    go_ret
    exact ⟨ret1_i HC.out, u.trans (((Up.refl _).alloc _).drew)⟩
def key (i d : Int) : Int := 36893488147419103232 * i + d
theorem eC_key {i d j f : Int} (hd : I64 d) (hf : I64 f) : eC i d j f = c3 (key i d) (key j f) := by
 unfold I64 at *
 unfold eC c3 key
 repeat' split
 all_goals omega
theorem eC_le {i d j f : Int} (hd : I64 d) (hf : I64 f) : eC i d j f ≤ 0 ↔ key i d ≤ key j f := by
 rw [eC_key hd hf]; unfold c3; repeat' split
 all_goals omega
theorem eC_lt {i d j f : Int} (hd : I64 d) (hf : I64 f) : eC i d j f < 0 ↔ key i d < key j f := by
 rw [eC_key hd hf]; unfold c3; repeat' split
 all_goals omega
theorem eC_gt {i d j f : Int} (hd : I64 d) (hf : I64 f) : 0 < eC i d j f ↔ key j f < key i d := by
 rw [eC_key hd hf]; unfold c3; repeat' split
 all_goals omega
def rnErr (a b c d : Int) : Int := if ¬ (eOk a b ∧ eOk c d) then 5 else if 0 < a ∨ c < 0 then 4 else if 0 < eC a b c d then 12 else 0
def RnOk (a b c d : Int) : Prop := eOk a b ∧ eOk c d ∧ a ≤ 0 ∧ 0 ≤ c ∧ key a b ≤ key c d
instance decRnOk (a b c d : Int) : Decidable (RnOk a b c d) := by unfold RnOk; infer_instance
theorem rnErr_ok {a b c d : Int} (hb : I64 b) (hd : I64 d) : rnErr a b c d = 0 ↔ RnOk a b c d := by
 have h := eC_gt (i := a) (j := c) hb hd
 unfold rnErr RnOk
 by_cases h1 : eOk a b ∧ eOk c d
 · rw [if_neg (by simpa using h1)]
   by_cases h2 : 0 < a ∨ c < 0
   · rw [if_pos h2]; constructor
     · intro h; cases h
     · rintro ⟨_, _, _, _, _⟩; omega
   · rw [if_neg h2]
     by_cases h3 : 0 < eC a b c d
     · rw [if_pos h3]; constructor
       · intro h; cases h
       · rintro ⟨_, _, _, _, _⟩; omega
     · rw [if_neg h3]; simp only [true_iff]; exact ⟨h1.1, h1.2, by omega, by omega, by omega⟩
 · rw [if_pos h1]; constructor
   · intro h; cases h
   · rintro ⟨h2, h3, _⟩; exact absurd ⟨h2, h3⟩ h1
def mnI (i d j f : Int) : Int := if eC j f i d < 0 then j else i
def mnD (i d j f : Int) : Int := if eC j f i d < 0 then f else d
def mxI (i d j f : Int) : Int := if 0 < eC j f i d then j else i
def mxD (i d j f : Int) : Int := if 0 < eC j f i d then f else d
theorem mn_i64 {i d j f : Int} (hd : I64 d) (hf : I64 f) : I64 (mnD i d j f) := by unfold mnD; split <;> assumption
theorem mx_i64 {i d j f : Int} (hd : I64 d) (hf : I64 f) : I64 (mxD i d j f) := by unfold mxD; split <;> assumption
theorem mn_key {i d j f : Int} (hd : I64 d) (hf : I64 f) : key (mnI i d j f) (mnD i d j f) = min (key i d) (key j f) := by
 have h := eC_lt (i := j) (j := i) hf hd
 unfold mnI mnD
 by_cases hc : eC j f i d < 0
 · rw [if_pos hc, if_pos hc]; omega
 · rw [if_neg hc, if_neg hc]; omega
theorem mx_key {i d j f : Int} (hd : I64 d) (hf : I64 f) : key (mxI i d j f) (mxD i d j f) = max (key i d) (key j f) := by
 have h := eC_gt (i := j) (j := i) hf hd
 unfold mxI mxD
 by_cases hc : 0 < eC j f i d
 · rw [if_pos hc, if_pos hc]; omega
 · rw [if_neg hc, if_neg hc]; omega
def Wi (a b c d e f g h : Int) : Prop := RnOk a b c d ∧ RnOk e f g h ∧ key e f ≤ key a b ∧ key c d ≤ key g h
def Tch (a b c d e f g h : Int) : Prop := RnOk a b c d ∧ RnOk e f g h ∧ key e f ≤ key c d + 1 ∧ key a b ≤ key g h + 1
def Meet (a b c d e f g h : Int) : Prop := RnOk a b c d ∧ RnOk e f g h ∧ key e f ≤ key c d ∧ key a b ≤ key g h
instance decWi (a b c d e f g h : Int) : Decidable (Wi a b c d e f g h) := by unfold Wi; infer_instance
instance decTch (a b c d e f g h : Int) : Decidable (Tch a b c d e f g h) := by unfold Tch; infer_instance
instance decMeet (a b c d e f g h : Int) : Decidable (Meet a b c d e f g h) := by unfold Meet; infer_instance
theorem mn_ok {i d j f : Int} (h : eOk i d) (k : eOk j f) : eOk (mnI i d j f) (mnD i d j f) := by unfold mnI mnD; split <;> assumption
theorem mx_ok {i d j f : Int} (h : eOk i d) (k : eOk j f) : eOk (mxI i d j f) (mxD i d j f) := by unfold mxI mxD; split <;> assumption
theorem common_ok {a b c d e f g h : Int} (hb : I64 b) (hd : I64 d) (hf : I64 f) (hh : I64 h) (h1 : RnOk a b c d) (h2 : RnOk e f g h) :
   RnOk (mxI a b e f) (mxD a b e f) (mnI c d g h) (mnD c d g h) ↔ Meet a b c d e f g h := by
 have k1 := mx_key (i := a) (j := e) hb hf
 have k2 := mn_key (i := c) (j := g) hd hh
 unfold Meet
 constructor
 · rintro ⟨_, _, _, _, hk⟩
   rw [k1, k2] at hk
   have := h1.2.2.2.2
   have := h2.2.2.2.2
   exact ⟨h1, h2, by omega, by omega⟩
 · rintro ⟨_, _, _, _⟩
   refine ⟨mx_ok h1.1 h2.1, mn_ok h1.2.1 h2.2.1, ?_, ?_, ?_⟩
   · have := h1.2.2.1; have := h2.2.2.1; unfold mxI; split <;> assumption
   · have := h1.2.2.2.1; have := h2.2.2.2.1; unfold mnI; split <;> assumption
   · rw [k1, k2]
     have := h1.2.2.2.2
     have := h2.2.2.2.2
     omega
end Go.Proofs.YteodjglbpfmikaaGreatDoor
