/-
  WALKS OF circalaw01: IntsDivs returns true. (Printed by wip/gen/law1e.py.)
-/
import Derived.Test.YtnibmofbalgobaaDoorLawOneD
namespace Go.Proofs.YtnibmofbalgobaaDoor
open Go.RowKit
theorem fd_i64 (a b : Int) (ha : I64 a) (hb : b ≠ 0) (hm : ¬ (a = -9223372036854775808 ∧ b = -1)) : I64 (fd a b) := by
  by_cases h1 : b = -1
  · subst h1
    have e1 : a.tmod (-1) = 0 := by rw [Int.tmod_neg]; simp
    have e2 : a.tdiv (-1) = -a := by rw [Int.tdiv_neg]; simp
    unfold fd
    rw [e1, e2, if_neg (by simp)]
    have := ha.1; have := ha.2
    exact ⟨by omega, by omega⟩
  · obtain ⟨h2, h3⟩ := tdiv_in a b ha hb h1
    unfold fd
    split
    · rename_i h; exact h3 h.1
    · exact h2
theorem fm_i64 (a b : Int) (hb : I64 b) (h0 : b ≠ 0) : I64 (fm a b) := by
  have h := fd_fm a b h0
  have := hb.1; have := hb.2
  by_cases hp : 0 < b
  · have := h.p hp; exact ⟨by omega, by omega⟩
  · have := h.n (by omega); exact ⟨by omega, by omega⟩
def DivIs (c b p g : Int) : Prop := ∀ W, Calls Tryd.prog 29 #[.int .i64 c, .int .i64 b] W fun e w' => e = .returned (.tuple #[.int .i64 p, .int .i64 g]) ∧ W = w'
theorem div_ex (c b : Int) (hc : I64 c) (hb : I64 b) (h0 : b ≠ 0) : ∃ p g, DivIs c b p g := by
  by_cases h : c = -9223372036854775808 ∧ b = -1
  · obtain ⟨rfl, rfl⟩ := h
    exact ⟨0, 15, idiv_over⟩
  · exact ⟨_, _, fun W => idiv_yes c b W hc hb h0 h⟩
set_option maxHeartbeats 4000000 in
set_option maxRecDepth 100000 in
theorem idivs_zero (a c : Int) (w : World) (hE : EnvI w) :
    Calls Tryd.prog 4 #[.int .i64 a, .int .i64 0, .int .i64 c] w fun e w' => e = .returned (.bool true) ∧ Dn w w' := by
  go_enter Tryd.func4, Tryd.ntmps4
  go_wp2_with fail
  refine (idiv_zero a _).mono ?_
  rintro e w1 ⟨rfl, rfl⟩
  go_wp2_with fail
  refine (imod_zero a _).mono ?_
  rintro e w2 ⟨rfl, rfl⟩
  go_wp2_with fail
  refine (lfails 1 _).mono ?_
  rintro e w3 ⟨rfl, rfl⟩
  go_wp2_with fail
  refine (lfails 1 _).mono ?_
  rintro e w4 ⟨rfl, rfl⟩
  go_wp2_with fail
  refine (lives1 _ hE).mono ?_
  rintro e w5 ⟨rfl, qw5⟩
  have uw5 := qw5
  clear qw5
  go_wp2_with fail
  go_ret
  exact ⟨rfl, uw5⟩
set_option maxHeartbeats 4000000 in
set_option maxRecDepth 100000 in
theorem idivs_over (c : Int) (w : World) (hE : EnvI w) :
    Calls Tryd.prog 4 #[.int .i64 (-9223372036854775808), .int .i64 (-1), .int .i64 c] w fun e w' => e = .returned (.bool true) ∧ Dn w w' := by
  go_enter Tryd.func4, Tryd.ntmps4
  go_wp2_with fail
  refine (idiv_over _).mono ?_
  rintro e w1 ⟨rfl, rfl⟩
  go_wp2_with fail
  refine (imod_at (-9223372036854775808) (-1) 0 _ (by decide) (by decide) (by decide) (by decide)).mono ?_
  rintro e w2 ⟨rfl, rfl⟩
  go_wp2_with fail
  refine (lfails 15 _).mono ?_
  rintro e w3 ⟨rfl, rfl⟩
  go_wp2_with fail
  refine (lgives 0 _).mono ?_
  rintro e w4 ⟨rfl, rfl⟩
  go_wp2_with fail
  refine (lives1 _ hE).mono ?_
  rintro e w5 ⟨rfl, qw5⟩
  have uw5 := qw5
  clear qw5
  go_wp2_with fail
  go_ret
  exact ⟨rfl, uw5⟩
end Go.Proofs.YtnibmofbalgobaaDoor
