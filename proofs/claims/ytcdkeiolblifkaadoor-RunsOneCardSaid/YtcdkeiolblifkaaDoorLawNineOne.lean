/-
  WALKS OF circalaw09: RunsOne, part joined. (Printed by wip/gen/law9b.py.)
-/
import Derived.Test.YtcdkeiolblifkaaDoorLawNine
import Derived.Test.YtcdkeiolblifkaaDoorRefNineB
import Derived.Test.YtcdkeiolblifkaaDoorLawNineOneA
import Derived.Test.YtcdkeiolblifkaaDoorLawNineOneB
namespace Go.Proofs.YtcdkeiolblifkaaDoor
open Go.RowKit
set_option linter.unusedVariables false
set_option linter.unusedSimpArgs false
theorem lenR_ex (a b c d : Int) (hb : I64 b) (hd : I64 d) : ∃ n e, LenR a b c d n e := by
  by_cases h0 : RnOk a b c d
  · by_cases h1 : a ≠ 0 ∨ c ≠ 0
    · exact ⟨0, 16, Or.inr (Or.inl ⟨h0, h1, rfl, rfl⟩)⟩
    · obtain ⟨s, e, hf⟩ := fits_ex (d - b + 1)
      exact ⟨s, e, Or.inr (Or.inr ⟨h0, by omega, by omega, hf⟩)⟩
  · exact ⟨0, _, Or.inl ⟨h0, rfl, rfl⟩⟩
theorem sft_ex (i d k : Int) (hd : I64 d) : ∃ j f r, Sft i d k j f r ∧ I64 f := by
  by_cases h : i = 0
  · obtain ⟨s, e, hf⟩ := fits_ex (d + k)
    exact ⟨0, s, e, Or.inr ⟨h, rfl, hf⟩, hf.i64⟩
  · exact ⟨i, d, 0, Or.inl ⟨h, rfl, rfl, rfl⟩, hd⟩
theorem rnErr_run {a b c d : Int} (hb : I64 b) (hd : I64 d) (k : Int) {j1 f1 j2 f2 : Int} (h0 : rnErr a b c d = 0) (s1 : Sft a b k j1 f1 0) (s2 : Sft c d k j2 f2 0) (i1 : I64 f1) (i2 : I64 f2) : rnErr j1 f1 j2 f2 = 0 := by
  rw [rnErr_ok hb hd] at h0
  rw [rnErr_ok i1 i2]
  obtain ⟨o1, o2, o3, o4, o5⟩ := h0
  unfold key eOk I64 at *
  unfold RnOk eOk key
  rcases s1 with ⟨n1, rfl, rfl, _⟩ | ⟨rfl, rfl, ⟨_, rfl, _⟩ | ⟨_, _, h⟩⟩ <;> rcases s2 with ⟨n2, rfl, rfl, _⟩ | ⟨rfl, rfl, ⟨_, rfl, _⟩ | ⟨_, _, h'⟩⟩ <;> first | omega | (refine ⟨?_, ?_, ?_, ?_, ?_⟩ <;> omega)
theorem sft_back {i d k j f : Int} (hd : I64 d) (h : Sft i d k j f 0) : Sft j f (-k) i d 0 := by
  rcases h with ⟨h0, rfl, rfl, _⟩ | ⟨rfl, rfl, ⟨_, rfl, _⟩ | ⟨_, _, h⟩⟩
  · exact Or.inl ⟨h0, rfl, rfl, rfl⟩
  · exact Or.inr ⟨rfl, rfl, Or.inl ⟨by rw [show d + k + -k = d by omega]; exact hd, by omega, rfl⟩⟩
  · cases h
theorem runsOne_true (a b c d k z0 z1 : Int) (w : World) (hb : I64 b) (hd : I64 d) (hk : I64 k) (hz0 : I64 z0) (hz1 : I64 z1) (hE : EnvR w) :
    Calls Tryd.prog 6 #[.agg #[.int .i8 a, .int .i64 b, .int .i8 c, .int .i64 d], .int .i64 k, .agg #[.int .i64 z0, .int .i64 z1]] w fun ro w' => ro = .returned (.bool true) ∧ Dn w w' := by
  obtain ⟨n, e, hL⟩ := lenR_ex a b c d hb hd
  have HC := Lib.hid (rfChk a b c d)
  have HL := Lib.hid (fun W => rnLen a b c d n e W hb hd hL)
  have hok := rnErr_ok (a := a) (c := c) hb hd
  by_cases hm : rnErr a b c d = 0
  · have hR := Lib.hid (fun W => rfLen a b c d n e W hb hd (hok.1 hm) hL)
    rw [hm] at HC
    obtain ⟨j1, f1, r1, s1, i1⟩ := sft_ex a b k hb
    obtain ⟨j2, f2, r2, s2, i2⟩ := sft_ex c d k hd
    by_cases h1 : r1 = 0 ∧ r2 = 0
    · obtain ⟨rfl, rfl⟩ := h1
      have hS : ShR a b c d k j1 f1 j2 f2 0 := Or.inr ⟨hm, j1, f1, 0, j2, f2, 0, s1, s2, Or.inr (Or.inr ⟨rfl, rfl, rfl, rfl, rfl, rfl, rfl⟩)⟩
      have HS := Lib.hid (fun W => rnShift a b c d k _ _ _ _ _ W hb hd hk hS)
      have HRS := Lib.hid (fun W => rfShift a b c d k _ _ _ _ _ W hb hd hk hm hS)
      by_cases hmin : k = (-9223372036854775808)
      · by_cases hz : z1 < z0
        · exact one_min1 a b c d k z0 z1 0 n e 0 _ _ _ _ HC HL HS (Lib.hid fun W => rnOf_no z0 z1 W hz) hz hR HRS hmin w hE
        · exact one_min0 a b c d k z0 z1 0 n e 0 _ _ _ _ HC HL HS (Lib.hid fun W => rnOf_yes z0 z1 hz W) (by omega) hR HRS hmin w hE
      · have hB : ShR j1 f1 j2 f2 (-k) a b c d 0 := Or.inr ⟨rnErr_run hb hd k hm s1 s2 i1 i2, a, b, 0, c, d, 0, sft_back hb s1, sft_back hd s2, Or.inr (Or.inr ⟨rfl, rfl, rfl, rfl, rfl, rfl, rfl⟩)⟩
        have HB := Lib.hid (fun W => rnShift j1 f1 j2 f2 (-k) _ _ _ _ _ W i1 i2 (by unfold I64 at *; omega) hB)
        by_cases hz : z1 < z0
        · exact one_back1 a b c d k z0 z1 0 n e 0 _ _ _ _ HC HL HS (Lib.hid fun W => rnOf_no z0 z1 W hz) hz hR HRS hmin hk HB w hE
        · exact one_back0 a b c d k z0 z1 0 n e 0 _ _ _ _ HC HL HS (Lib.hid fun W => rnOf_yes z0 z1 hz W) (by omega) hR HRS hmin hk HB w hE
    · have hS : ∃ r, r ≠ 0 ∧ ShR a b c d k 0 0 0 0 r := by
        by_cases h2 : r1 = 0
        · exact ⟨r2, by omega, Or.inr ⟨hm, j1, f1, r1, j2, f2, r2, s1, s2, Or.inr (Or.inl ⟨h2, by omega, rfl, rfl, rfl, rfl, rfl⟩)⟩⟩
        · exact ⟨r1, h2, Or.inr ⟨hm, j1, f1, r1, j2, f2, r2, s1, s2, Or.inl ⟨h2, rfl, rfl, rfl, rfl, rfl⟩⟩⟩
      obtain ⟨r, hr, hS⟩ := hS
      have HS := Lib.hid (fun W => rnShift a b c d k _ _ _ _ _ W hb hd hk hS)
      have HRS := Lib.hid (fun W => rfShift a b c d k _ _ _ _ _ W hb hd hk hm hS)
      by_cases hz : z1 < z0
      · exact one_none1 a b c d k z0 z1 0 n e r 0 0 0 0 HC HL HS (Lib.hid fun W => rnOf_no z0 z1 W hz) hz hR HRS (Lib.hid hr) w hE
      · exact one_none0 a b c d k z0 z1 0 n e r 0 0 0 0 HC HL HS (Lib.hid fun W => rnOf_yes z0 z1 hz W) (by omega) hR HRS (Lib.hid hr) w hE
  · have hn : n = 0 ∧ e = rnErr a b c d := by
      rcases hL with ⟨_, h1, h2⟩ | ⟨h1, _⟩ | ⟨h1, _⟩
      · exact ⟨h1, h2⟩
      · exact absurd (hok.2 h1) hm
      · exact absurd (hok.2 h1) hm
    obtain ⟨rfl, rfl⟩ := hn
    have HS := Lib.hid (fun W => rnShift a b c d k 0 0 0 0 _ W hb hd hk (Or.inl ⟨hm, rfl, rfl, rfl, rfl, rfl⟩))
    by_cases hz : z1 < z0
    · exact one_bad1 a b c d k z0 z1 _ 0 0 0 0 0 0 0 HC HL HS (Lib.hid fun W => rnOf_no z0 z1 W hz) hz (Lib.hid hm) w hE
    · exact one_bad0 a b c d k z0 z1 _ 0 0 0 0 0 0 0 HC HL HS (Lib.hid fun W => rnOf_yes z0 z1 hz W) (by omega) (Lib.hid hm) w hE
end Go.Proofs.YtcdkeiolblifkaaDoor
