/-
  WALKS OF circa/seasons: Codes. (An append tells nothing of what is drawn: below, 'Below' stands for 'Up'.)
-/
import Derived.Test.YtnaoadmffnbalaaDoorSeaPlain
import Derived.Test.YtnaoadmffnbalaaDoorLawSevenA
import Derived.OwnWalk
namespace Go.Proofs.YtnaoadmffnbalaaDoor
open Go.RowKit
/-- The codes among the first k whose run has the day. -/
def codesL (d : Int) : Nat → List Int
  | 0 => []
  | k + 1 => if IsOf d (21 + (k : Int)) then codesL d k ++ [21 + (k : Int)] else codesL d k
theorem codesL_le (d : Int) (k : Nat) : (codesL d k).length ≤ k := by
  induction k with
  | zero => simp [codesL]
  | succ k ih =>
    unfold codesL
    split
    · simp; exact ih
    · omega
/-- A slice value that holds these numbers and nothing behind them. -/
def ListC (w : World) (v : Value) (l : List Int) : Prop :=
  (v = .slice none 0 0 ∧ l = []) ∨ ∃ g, v = .slice (some ⟨g, 0, none⟩) l.length l.length ∧ ∀ j x, l[j]? = some x → w.cell? ⟨g, j, none⟩ = some (.int .i64 x)
theorem below_grown {b : Nat} {w w1 w2 : World} {row : Option Nat} (h : Below b w w1) (hb : b ≤ w1.heap.size) (hg : w1.grownBy w2 row) (hr : ∀ k, row = some k → b ≤ k) : Below b w w2 :=
  h.trans ⟨hg.os, hg.tape, hg.output, hg.size, fun i hi => hg.block i (by omega) (fun e => by have := hr i e.symm; omega)⟩
theorem info3 : (Tryd.prog.info? 3).map (fun i => (i.zero, i.size, i.bytes)) = some (some (.int .i64 0), 1, 8) := by kernel_rfl
theorem scodes_no (d : Int) (w : World) (hd : I64 d) (hy : ¬ IsY (Cal.yr d)) (hE : EnvS w) :
    Calls Tryd.prog 56 #[.int .i64 d] w fun e w' => e = .returned (.tuple #[.slice none 0 0, .int .i64 6]) ∧ Up w w' := by
  go_enter Tryd.func56, Tryd.ntmps56
  go_wp2_with fail
  refine (mof_no _ _ hd hy hE.mo).mono ?_
  rintro e w1 ⟨rfl, u1⟩
  go_wp2_with fail
  go_ret2
  exact ⟨rfl, u1⟩
set_option maxHeartbeats 2000000 in
theorem scodes_yes (d : Int) (w : World) (hd : I64 d) (hy : IsY (Cal.yr d)) (hE : EnvS w) :
    Calls Tryd.prog 56 #[.int .i64 d] w fun e w' => ∃ v, e = .returned (.tuple #[v, .int .i64 0]) ∧ ListC w' v (codesL d 21) ∧ Below w.heap.size w w' := by
  have HY := Lib.hid hy
  obtain ⟨i0, hi, hz0, hz1, hz2⟩ := info_parts info3
  go_enter Tryd.func56, Tryd.ntmps56
  go_wp2_with fail
  refine (mof_yes _ _ hd HY.out hE.mo).mono ?_
  rintro e w1 ⟨rfl, u1⟩
  go_wp2_with fail
  go_loopw [7, 21] (fun v i wr => ∃ k : Nat, k ≤ 21 ∧ i = .int .i64 k ∧ wr.ownsRow w.heap.size 3 1 v (codesL d k).length ((codesL d k).map (Value.int .i64)) ∧ Below w.heap.size w wr) (fun _ i _ => 21 - (intOf i).toNat)
  case atStart => exact ⟨0, by omega, rfl, World.ownsRow_nil _ _ _ _, u1.below⟩
  case round =>
    obtain ⟨k, hk, rfl, hown, hb⟩ := hrel
    by_cases hlt : k < 21
    · have c1 : decide ((k : Int) < 21) = true := by simp; omega
      have HC : IsC (21 + (k : Int)) := ⟨by omega, by omega⟩
      by_cases ho : IsOf d (21 + (k : Int))
      · have hle := codesL_le d k
        have hs : codesL d (k + 1) = codesL d k ++ [21 + (k : Int)] := by rw [codesL, if_pos ho]
        have HS := Lib.hid hs
        clear hs
        go_wp2_with fail
        refine (sof_yes _ _ _ hd HC HY.out ho (hE.below hb)).mono ?_
        rintro e w2 ⟨rfl, q2⟩
        have hb2 : Below w.heap.size w w2 := hb.trans (q2.below.mono hb.size)
        have hown2 := hown.kept (w' := w2) (row := none) ⟨q2.below.os, q2.below.tape, q2.below.output, q2.size, fun i hi _ => q2.below.block i hi⟩ (by cases hv : Value.ownBlock _ <;> simp)
        clear hown hb q2
        go_wp2_with (at_builtin; refine wpList_append_own _ rfl _ _ 76 rfl w.heap.size 3 i0 (.int .i64 0) 1 8 Tryd.underlying76 hi hz0 hz1 hz2 rfl (by decide) _ _ _ rfl (hown2.alloc _) ⟨w2.heap.size, 0, none⟩ 1 1 [.int .i64 (21 + (k : Int))] rfl rfl ?c1 ?c2 ?c3 ?c4 ?c5 ?_)
        case c1 =>
          intro j u hj
          match j, hj with
          | 0, hj => simp at hj; subst hj; simp [Addr.add]
        case c2 => intro u hu; simp at hu; subst hu; rfl
        case c3 => unfold maxLen; omega
        case c4 => omega
        case c5 => have := hb2.size; simp; omega
        · intro v' w3 hown' hgrow _
          have hb3 := below_grown (hb2.alloc hb2.size _) (by have := hb2.size; simp; omega) hgrow (fun g hg => (hown2.lt g hg).1)
          clear hown2 hb2 hgrow
          go_wp2_with fail
          go_roundw
          case rel => exact ⟨k + 1, by omega, by simp, by rw [HS.out]; simpa using hown', by first | exact hb3 | trivial⟩
          case measure => simp [intOf]; omega
      · have hs : codesL d (k + 1) = codesL d k := by rw [codesL, if_neg ho]
        have HS := Lib.hid hs
        clear hs
        go_wp2_with fail
        refine (sof_no3 _ _ _ hd HC HY.out ho (hE.below hb)).mono ?_
        rintro e w2 ⟨rfl, q2⟩
        have hb2 : Below w.heap.size w w2 := hb.trans (q2.below.mono hb.size)
        have hown2 := hown.kept (w' := w2) (row := none) ⟨q2.below.os, q2.below.tape, q2.below.output, q2.size, fun i hi _ => q2.below.block i hi⟩ (by cases hv : Value.ownBlock _ <;> simp)
        clear hown hb q2
        go_wp2_with fail
        go_roundw
        case rel => exact ⟨k + 1, by omega, by simp, by rw [HS.out]; exact hown2, by first | exact hb2 | trivial⟩
        case measure => simp [intOf]; omega
    · obtain rfl : k = 21 := by omega
      rcases hown.2 with ⟨rfl, hn⟩ | ⟨g, cap, cur, rfl, _, hg, h1, h2, h3, h4⟩
      · have hL0 : codesL d 21 = [] := List.length_eq_zero_iff.1 hn
        clear hown
        go_wp2_with fail
        refine (clip_nil _).mono ?_
        rintro e w2 ⟨rfl, rfl⟩
        go_wp2_with fail
        go_ret2
        exact ⟨_, rfl, Or.inl ⟨rfl, hL0⟩, hb⟩
      · have hcs := hown.cells (g := g) rfl
        clear hown hg h3 h4
        go_wp2_with fail
        refine (clip_at g (codesL d 21).length cap _ h1 h2).mono ?_
        rintro e w2 ⟨rfl, rfl⟩
        go_wp2_with fail
        go_ret2
        refine ⟨_, rfl, Or.inr ⟨g, rfl, fun j x hx => ?_⟩, hb⟩
        have := hcs j (.int .i64 x) (by simp [hx])
        have hadd : (⟨g, 0, none⟩ : Addr).add j = ⟨g, j, none⟩ := by unfold Addr.add; split <;> simp_all
        rwa [hadd] at this
end Go.Proofs.YtnaoadmffnbalaaDoor
