/-
  CONTRACTS OF ints.Add (its deferred closure changes the named results) AND ints.Sub.
-/
import Derived.Test.YtcdkeiolblifkaaDoorIntsA
import Derived.Defers
namespace Go.Proofs.YtcdkeiolblifkaaDoor
open Go.RowKit

/-- The deferred closure where the sum fits: it changes nothing. -/
theorem addD_same (pn pa pb pe : Addr) (n a b : Int) (x : Bool) (u : FrameMode) (w : World) (cn : w.cell? pn = some (.int .i64 n)) (ca : w.cell? pa = some (.int .i64 a)) (cb : w.cell? pb = some (.int .i64 b))
    (h1 : decide (a < n) = x) (h2 : decide (0 < b) = x) :
    CallsD Tryd.prog 72 #[.pointer (some pn), .pointer (some pa), .pointer (some pb), .pointer (some pe)] u w fun e u' w' => u' = u ∧ (e = .returned (.tuple #[]) ∧ w' = w) := by
  go_enter_d Tryd.func72, Tryd.ntmps72
  cases x
  all_goals
    go_wp2
    go_end0
    exact ⟨rfl, rfl⟩
/-- The deferred closure where the sum does not fit: 0 and ErrOverflow. -/
theorem addD_over (pn pa pb pe : Addr) (n a b : Int) (x : Bool) (u : FrameMode) (w : World) (cn : w.cell? pn = some (.int .i64 n)) (ca : w.cell? pa = some (.int .i64 a)) (cb : w.cell? pb = some (.int .i64 b))
    (ce : w.cell? pe = some (.int .i64 0)) (fn : w.frozen? pn = false) (fe : w.frozen? pe = false) (hne : pe.block ≠ pn.block)
    (h1 : decide (a < n) = x) (h2 : decide (0 < b) = !x) :
    CallsD Tryd.prog 72 #[.pointer (some pn), .pointer (some pa), .pointer (some pb), .pointer (some pe)] u w fun e u' w' => u' = u ∧ (e = .returned (.tuple #[]) ∧ w' = (w.setCell pn (.int .i64 0)).setCell pe (.int .i64 15)) := by
  have ce' : (w.setCell pn (.int .i64 0)).cell? pe = some (.int .i64 0) := by exact (World.cell?_setCell_other (w := w) (a := pn) (b := pe) (v := .int .i64 0) (fun h => hne (by rw [h]))).trans ce
  have fe' : (w.setCell pn (.int .i64 0)).frozen? pe = false := by rw [World.frozen?_setCell]; exact fe
  go_enter_d Tryd.func72, Tryd.ntmps72
  cases x
  all_goals
    go_wp2
    go_end0
    exact ⟨rfl, rfl⟩

/-- The sum as Go has it, and whether that is the sum. -/
theorem add_cmp (a b : Int) (ha : I64 a) (hb : I64 b) :
    (I64 (a + b) → wrap64 (a + b) = a + b ∧ decide (a < a + b) = decide (0 < b)) ∧ (¬ I64 (a + b) → decide (a < wrap64 (a + b)) = !decide (0 < b)) := by
  obtain ⟨a1, a2⟩ := ha
  obtain ⟨b1, b2⟩ := hb
  constructor
  · intro h
    exact ⟨IntWalk.wrap64_in _ h, by rw [decide_eq_decide]; omega⟩
  · intro h
    unfold I64 at h
    by_cases h0 : 0 < b
    · rw [decide_eq_true h0]
      simp only [Bool.not_true, decide_eq_false_iff_not]
      unfold wrap64; omega
    · rw [decide_eq_false h0]
      simp only [Bool.not_false, decide_eq_true_eq]
      unfold wrap64; omega

/-- The world at the door of ints.Add: both arguments and both results in variables of their own. -/
def addW (w : World) (a b n : Int) : World :=
  ((((w.alloc (.cells #[.int .i64 a] 2)).alloc (.cells #[.int .i64 b] 2)).alloc (.cells #[.int .i64 n] 2)).alloc (.cells #[.int .i64 0] 37))
theorem addW_up (w : World) (a b n : Int) : Up w (addW w a b n) := ((((Up.refl _).alloc _).alloc _).alloc _).alloc _
theorem addW_cells (w : World) (a b n : Int) : (addW w a b n).cell? ⟨w.heap.size, 0, none⟩ = some (.int .i64 a) ∧ (addW w a b n).cell? ⟨w.heap.size + 1, 0, none⟩ = some (.int .i64 b) ∧
    (addW w a b n).cell? ⟨w.heap.size + 1 + 1, 0, none⟩ = some (.int .i64 n) ∧ (addW w a b n).cell? ⟨w.heap.size + 1 + 1 + 1, 0, none⟩ = some (.int .i64 0) ∧
    (addW w a b n).frozen? ⟨w.heap.size + 1 + 1, 0, none⟩ = false ∧ (addW w a b n).frozen? ⟨w.heap.size + 1 + 1 + 1, 0, none⟩ = false := by
  refine ⟨?_, ?_, ?_, ?_, ?_, ?_⟩ <;> simp [addW, go_sem]
/-- Behind the door, the sum fits. -/
theorem add_door_fits (w : World) (a b n m : Int) (tmps : Array Value) (h4 : tmps.getD 4 undef = .pointer (some ⟨w.heap.size + 1 + 1, 0, none⟩)) (h5 : tmps.getD 5 undef = .pointer (some ⟨w.heap.size + 1 + 1 + 1, 0, none⟩))
    (hc : decide (a < n) = decide (0 < b)) (hm : n = m) :
    Leaves Tryd.prog Tryd.f54 tmps (fun e w' => e = Ending.returned (.tuple #[.int .i64 m, .int .i64 0]) ∧ Up w w')
      [{ target := Target.fn (Fn.func 72) #[.pointer (some ⟨w.heap.size + 1 + 1, 0, none⟩), .pointer (some ⟨w.heap.size, 0, none⟩), .pointer (some ⟨w.heap.size + 1, 0, none⟩), .pointer (some ⟨w.heap.size + 1 + 1 + 1, 0, none⟩)], args := #[] }]
      .returning (addW w a b n) := by
  obtain ⟨c0, c1, c2, c3, f2, f3⟩ := addW_cells w a b n
  rw [Array.getD_eq_getD_getElem?] at h4 h5
  refine leaves_cons (f := 72) (args := #[.pointer (some ⟨w.heap.size + 1 + 1, 0, none⟩), .pointer (some ⟨w.heap.size, 0, none⟩), .pointer (some ⟨w.heap.size + 1, 0, none⟩), .pointer (some ⟨w.heap.size + 1 + 1 + 1, 0, none⟩)]) (by simp) (by simp [go_sem]) ?_
  refine (addD_same _ _ _ _ n a b _ _ _ c2 c0 c1 hc rfl).mono ?_
  rintro e u' w'' ⟨rfl, rfl, rfl⟩
  subst hm
  simp [Leaves, settle, results, Tryd.results54, go_sem, h4, h5, c2, c3, addW_up]
/-- Behind the door, the sum does not fit. -/
theorem add_door_over (w : World) (a b n : Int) (tmps : Array Value) (h4 : tmps.getD 4 undef = .pointer (some ⟨w.heap.size + 1 + 1, 0, none⟩)) (h5 : tmps.getD 5 undef = .pointer (some ⟨w.heap.size + 1 + 1 + 1, 0, none⟩))
    (hc : decide (a < n) = !decide (0 < b)) :
    Leaves Tryd.prog Tryd.f54 tmps (fun e w' => e = Ending.returned (.tuple #[.int .i64 0, .int .i64 15]) ∧ Up w w')
      [{ target := Target.fn (Fn.func 72) #[.pointer (some ⟨w.heap.size + 1 + 1, 0, none⟩), .pointer (some ⟨w.heap.size, 0, none⟩), .pointer (some ⟨w.heap.size + 1, 0, none⟩), .pointer (some ⟨w.heap.size + 1 + 1 + 1, 0, none⟩)], args := #[] }]
      .returning (addW w a b n) := by
  obtain ⟨c0, c1, c2, c3, f2, f3⟩ := addW_cells w a b n
  rw [Array.getD_eq_getD_getElem?] at h4 h5
  refine leaves_cons (f := 72) (args := #[.pointer (some ⟨w.heap.size + 1 + 1, 0, none⟩), .pointer (some ⟨w.heap.size, 0, none⟩), .pointer (some ⟨w.heap.size + 1, 0, none⟩), .pointer (some ⟨w.heap.size + 1 + 1 + 1, 0, none⟩)]) (by simp) (by simp [go_sem]) ?_
  refine (addD_over _ _ _ _ n a b _ _ _ c2 c0 c1 c3 f2 f3 (by simp) hc (by simp)).mono ?_
  rintro e u' w'' ⟨rfl, rfl, rfl⟩
  have e2 : (((addW w a b n).setCell ⟨w.heap.size + 1 + 1, 0, none⟩ (.int .i64 0)).setCell ⟨w.heap.size + 1 + 1 + 1, 0, none⟩ (.int .i64 15)).cell? ⟨w.heap.size + 1 + 1, 0, none⟩ = some (.int .i64 0) := by
    rw [World.cell?_setCell_other _ _ _ _ (by simp)]
    exact World.cell?_setCell_same _ _ _ c2
  have e3 : (((addW w a b n).setCell ⟨w.heap.size + 1 + 1, 0, none⟩ (.int .i64 0)).setCell ⟨w.heap.size + 1 + 1 + 1, 0, none⟩ (.int .i64 15)).cell? ⟨w.heap.size + 1 + 1 + 1, 0, none⟩ = some (.int .i64 15) := by
    refine World.cell?_setCell_same _ _ _ (u := .int .i64 0) ?_
    rw [World.cell?_setCell_other _ _ _ _ (by simp)]
    exact c3
  have hu : Up w (((addW w a b n).setCell ⟨w.heap.size + 1 + 1, 0, none⟩ (.int .i64 0)).setCell ⟨w.heap.size + 1 + 1 + 1, 0, none⟩ (.int .i64 15)) :=
    ((addW_up w a b n).setCell (by show _ ≤ w.heap.size + 1 + 1; omega) _).setCell (by show _ ≤ w.heap.size + 1 + 1 + 1; omega) _
  simp [Leaves, settle, results, Tryd.results54, go_sem, h4, h5, e2, e3, hu]

set_option maxHeartbeats 1000000 in
theorem add_fits (a b : Int) (w : World) (ha : I64 a) (hb : I64 b) (h : I64 (a + b)) :
    Calls Tryd.prog 54 #[.int .i64 a, .int .i64 b] w fun e w' => e = .returned (.tuple #[.int .i64 (a + b), .int .i64 0]) ∧ Up w w' := by
  have hmf : ∀ (fn : Fn) (first cap : Array Value) (w : World), (Instr.makeFunc fn first cap).run Tryd.prog w = .ok (.func fn first cap) w := fun _ _ _ _ => rfl
  obtain ⟨hw, hc⟩ := (add_cmp a b ha hb).1 h
  by_cases h0 : b = 0
  · subst h0
    clear hw hc
    go_enter_defers Tryd.func54, Tryd.ntmps54
    go_wp2
    exact add_door_fits w a 0 a _ _ rfl rfl (by simp) (by omega)
  · have HW := Lib.hid hw
    have HC := Lib.hid hc
    clear hw hc
    have c1 : (b == 0) = false := by rw [beq_eq_false_iff_ne]; exact h0
    obtain ⟨h1, h2⟩ := h
    go_enter_defers Tryd.func54, Tryd.ntmps54
    go_wp2
    exact add_door_fits w a b (a + b) _ _ rfl rfl HC.out rfl
set_option maxHeartbeats 1000000 in
theorem add_over (a b : Int) (w : World) (ha : I64 a) (hb : I64 b) (h : ¬ I64 (a + b)) :
    Calls Tryd.prog 54 #[.int .i64 a, .int .i64 b] w fun e w' => e = .returned (.tuple #[.int .i64 0, .int .i64 15]) ∧ Up w w' := by
  have hmf : ∀ (fn : Fn) (first cap : Array Value) (w : World), (Instr.makeFunc fn first cap).run Tryd.prog w = .ok (.func fn first cap) w := fun _ _ _ _ => rfl
  have hc := (add_cmp a b ha hb).2 h
  have h0 : b ≠ 0 := by
    rintro rfl
    exact h (by rw [Int.add_zero]; exact ha)
  have c1 : (b == 0) = false := by rw [beq_eq_false_iff_ne]; exact h0
  have HC := Lib.hid hc
  clear hc h
  go_enter_defers Tryd.func54, Tryd.ntmps54
  go_wp2
  exact add_door_over w a b (wrap64 (a + b)) _ rfl rfl HC.out
end Go.Proofs.YtcdkeiolblifkaaDoor
