/-
  WALKS OF years.Leaps AND years.Of (sort.Search by the shelf's contract).
-/
import Derived.Test.YtopbbcbpanfigaaGreatDoorYearsA
import Derived.Test.YtopbbcbpanfigaaGreatDoorShSearch
namespace Go.Proofs.YtopbbcbpanfigaaGreatDoor
open Go.RowKit

/-- What a region of a function that only reads and calls keeps. -/
def KU (w : World) (a : Addr) (v : Value) (w' : World) : Prop := Up w w' ∧ w'.cell? a = some v
theorem KU.start {w : World} {a : Addr} {v : Value} (h : w.cell? a = some v) : KU w a v w.drew := ⟨(Up.refl _).drew, h⟩
theorem KU.step {w w1 w2 : World} {a : Addr} {v : Value} (h : KU w a v w1) (k : Up w1 w2) : KU w a v w2 := ⟨h.1.trans k, k.cell h.2⟩
/-- The closure that sort.Search is handed: does the year i of a cycle end behind the day r? -/
theorem of_closure (i : Nat) (hi : i < 400) (bx : Nat) (r : Int) (w : World) (hE : Steps w) (hr : w.cell? ⟨bx, 0, none⟩ = some (.int .i64 r)) :
    Calls Tryz.prog 83 #[.int .i64 i, .pointer (some ⟨bx, 0, none⟩)] w fun e w' => e = .returned (.bool (decide (r < Cal.sy (i + 1)))) ∧ Up w w' := by
  have hy : YrB ((i : Int) + 1) := ⟨by omega, by omega⟩
  have hi1 : IntKind.i64.wrap ((i : Int) + 1) = (i : Int) + 1 := IntWalk.i64_in _ (by omega)
  go_enter Tryz.func83, Tryz.ntmps83
  go_wp2_with fail
  go_region_held3 (fun w' => Up w w' ∧ w'.cell? ⟨bx, 0, none⟩ = some (.int .i64 r)) (first | exact KU.start hr | exact KU.step ‹_› ‹_›)
    (first | (go_at_call 65; refine (start_any _ _ hy (hE.up ?_)).mono ?_; (simp [*]); rintro e w' ⟨rfl, hu⟩))
  go_wp2
  go_ret
  exact ⟨rfl, (‹Up w _ ∧ _› : _ ∧ _).1⟩

theorem search_cnt (d : Int) (w : World) (bx : Nat) (hE : Steps w) (hr : w.cell? ⟨bx, 0, none⟩ = some (.int .i64 d)) :
    Calls Tryz.prog 82 #[.int .i64 400, .func (.func 83) #[] #[.pointer (some ⟨bx, 0, none⟩)]] w fun e w' => e = .returned (.int .i64 (Cal.cnt d)) ∧ Up w w' := by
  have eg : ∀ args w, (callFunc 83 args).run Tryz.prog w = .ok (.enter 83 args) w := Go.Proofs.enters_of Tryz.func83 (by kernel_rfl) rfl
  have hS := Any.sort_Search Tryz.search 83 #[.pointer (some ⟨bx, 0, none⟩)] 400 (fun i => decide (d < Cal.sy (i + 1))) w eg (by decide)
    (fun m os i hi => (of_closure i hi bx d _ (hE.up (Up.of_grow _ _)) ((Up.of_grow _ _).cell hr)).mono fun _ _ ⟨he, hu⟩ => ⟨he, hu.grow⟩)
    (fun a b hab hb h => by
      have := Cal.sy_mono ((a : Int) + 1) ((b : Int) + 1) (by omega)
      simp at h ⊢; omega)
  refine hS.mono ?_
  rintro e w' ⟨he, q, os, rfl⟩
  exact ⟨he, Up.of_grow _ _⟩

theorem cnt_bd (d : Int) : (Cal.cnt (d % 146097) : Int) ≤ 399 := by
  have := (Cal.cnt_spec (d % 146097) (by omega) (by omega)).1
  omega
theorem yr_eq (d : Int) : 400 * (d / 146097) + (Cal.cnt (d % 146097) : Int) = Cal.yr d := rfl

set_option maxHeartbeats 400000 in
theorem of_yes (d : Int) (w : World) (hd : I64 d) (h : IsY (Cal.yr d)) (hE : Steps w) :
    Calls Tryz.prog 66 #[.int .i64 d] w fun e w' => e = .returned (.tuple #[.int .i64 (Cal.yr d), .int .i64 0]) ∧ Up w w' := by
  have HD := hd
  have hc := cnt_bd d
  have hr : (w.alloc (Obj.cells #[Value.int IntKind.i64 (d % 146097)] 2)).cell? ⟨w.heap.size, 0, none⟩ = some (.int .i64 (d % 146097)) := by simp
  have hu0 : Up w (w.alloc (Obj.cells #[Value.int IntKind.i64 (d % 146097)] 2)) := (Up.refl _).alloc _
  obtain ⟨h1, h2⟩ := hd
  go_enter Tryz.func66, Tryz.ntmps66
  go_wp2_with fail
  refine (div_pos _ _ _ HD (by omega) (by omega)).mono ?_
  rintro e w1 ⟨rfl, rfl⟩
  go_wp2_with fail
  refine (mod_pos _ _ _ HD (by omega) (by omega)).mono ?_
  rintro e w1 ⟨rfl, rfl⟩
  go_wp2_with fail
  refine (search_cnt (d % 146097) _ _ (hE.up hu0) hr).mono ?_
  rintro e w1 ⟨rfl, hu⟩
  go_wp2_with fail
  rw [yr_eq]
  refine (check_yes _ _ h).mono ?_
  rintro e w2 ⟨rfl, rfl⟩
  go_wp2_with fail
  go_ret2
  exact ⟨rfl, hu0.trans hu⟩
set_option maxHeartbeats 400000 in
theorem of_no (d : Int) (w : World) (hd : I64 d) (h : ¬ IsY (Cal.yr d)) (hE : Steps w) :
    Calls Tryz.prog 66 #[.int .i64 d] w fun e w' => e = .returned (.tuple #[.int .i64 0, .int .i64 6]) ∧ Up w w' := by
  have HD := hd
  have hc := cnt_bd d
  have hr : (w.alloc (Obj.cells #[Value.int IntKind.i64 (d % 146097)] 2)).cell? ⟨w.heap.size, 0, none⟩ = some (.int .i64 (d % 146097)) := by simp
  have hu0 : Up w (w.alloc (Obj.cells #[Value.int IntKind.i64 (d % 146097)] 2)) := (Up.refl _).alloc _
  obtain ⟨h1, h2⟩ := hd
  go_enter Tryz.func66, Tryz.ntmps66
  go_wp2_with fail
  refine (div_pos _ _ _ HD (by omega) (by omega)).mono ?_
  rintro e w1 ⟨rfl, rfl⟩
  go_wp2_with fail
  refine (mod_pos _ _ _ HD (by omega) (by omega)).mono ?_
  rintro e w1 ⟨rfl, rfl⟩
  go_wp2_with fail
  refine (search_cnt (d % 146097) _ _ (hE.up hu0) hr).mono ?_
  rintro e w1 ⟨rfl, hu⟩
  go_wp2_with fail
  rw [yr_eq]
  refine (check_no _ _ h).mono ?_
  rintro e w2 ⟨rfl, rfl⟩
  go_wp2_with fail
  go_ret2
  exact ⟨rfl, hu0.trans hu⟩
end Go.Proofs.YtopbbcbpanfigaaGreatDoor
