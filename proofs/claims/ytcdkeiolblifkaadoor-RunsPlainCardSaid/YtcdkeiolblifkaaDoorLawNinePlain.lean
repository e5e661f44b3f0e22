/-
  WALKS OF circalaw09: RunsPlain: joined. (Printed by wip/gen/law9q.py.)
-/
import Derived.Test.YtcdkeiolblifkaaDoorLawNine
import Derived.Test.YtcdkeiolblifkaaDoorLawNinePlainW
import Derived.Test.YtcdkeiolblifkaaDoorPlainQ
namespace Go.Proofs.YtcdkeiolblifkaaDoor
open Go.RowKit
set_option linter.unusedVariables false
set_option linter.unusedSimpArgs false
set_option maxHeartbeats 4000000 in
set_option maxRecDepth 100000 in
theorem rOf9_0 (k n lo : Int) (hk : 0 ≤ k ∧ k ≤ 255) (hn : 0 ≤ n ∧ n ≤ 255) (hl : -39 ≤ lo ∧ lo ≤ 39) (h : k % 8 = 0) (w : World) :
    Calls Tryd.prog 8 #[.agg #[.int .u8 k, .int .u8 n, .int .i16 lo]] w fun ro w' => ro = .returned (.agg #[.int .i8 (-1), .int .i64 0, .int .i8 0, .int .i64 (lo + n % 16)]) ∧ Dn w w' := by
  have t0 : (k % 8 == 0) = true := by simp [h]
  have t1 : (k % 8 == 1) = false := by simp [h]
  have t2 : (k % 8 == 2) = false := by simp [h]
  go_enter Tryd.func8, Tryd.ntmps8
  go_wp2_with fail
  exact bodyPost_ret (v := .agg #[.int .i8 (-1), .int .i64 0, .int .i8 0, .int .i64 (lo + n % 16)]) (by simp [results, Tryd.results8, go_sem]) rfl ⟨rfl, (((Dn.refl _).alloc _).alloc _).alloc _⟩
set_option maxHeartbeats 4000000 in
set_option maxRecDepth 100000 in
theorem rOf9_1 (k n lo : Int) (hk : 0 ≤ k ∧ k ≤ 255) (hn : 0 ≤ n ∧ n ≤ 255) (hl : -39 ≤ lo ∧ lo ≤ 39) (h : k % 8 = 1) (w : World) :
    Calls Tryd.prog 8 #[.agg #[.int .u8 k, .int .u8 n, .int .i16 lo]] w fun ro w' => ro = .returned (.agg #[.int .i8 0, .int .i64 lo, .int .i8 1, .int .i64 0]) ∧ Dn w w' := by
  have t0 : (k % 8 == 0) = false := by simp [h]
  have t1 : (k % 8 == 1) = true := by simp [h]
  have t2 : (k % 8 == 2) = false := by simp [h]
  go_enter Tryd.func8, Tryd.ntmps8
  go_wp2_with fail
  exact bodyPost_ret (v := .agg #[.int .i8 0, .int .i64 lo, .int .i8 1, .int .i64 0]) (by simp [results, Tryd.results8, go_sem]) rfl ⟨rfl, (((Dn.refl _).alloc _).alloc _).alloc _⟩
set_option maxHeartbeats 4000000 in
set_option maxRecDepth 100000 in
theorem rOf9_2 (k n lo : Int) (hk : 0 ≤ k ∧ k ≤ 255) (hn : 0 ≤ n ∧ n ≤ 255) (hl : -39 ≤ lo ∧ lo ≤ 39) (h : k % 8 = 2) (w : World) :
    Calls Tryd.prog 8 #[.agg #[.int .u8 k, .int .u8 n, .int .i16 lo]] w fun ro w' => ro = .returned (.agg #[.int .i8 (-1), .int .i64 0, .int .i8 1, .int .i64 0]) ∧ Dn w w' := by
  have t0 : (k % 8 == 0) = false := by simp [h]
  have t1 : (k % 8 == 1) = false := by simp [h]
  have t2 : (k % 8 == 2) = true := by simp [h]
  go_enter Tryd.func8, Tryd.ntmps8
  go_wp2_with fail
  exact bodyPost_ret (v := .agg #[.int .i8 (-1), .int .i64 0, .int .i8 1, .int .i64 0]) (by simp [results, Tryd.results8, go_sem]) rfl ⟨rfl, (((Dn.refl _).alloc _).alloc _).alloc _⟩
set_option maxHeartbeats 4000000 in
set_option maxRecDepth 100000 in
theorem rOf9_x (k n lo : Int) (hk : 0 ≤ k ∧ k ≤ 255) (hn : 0 ≤ n ∧ n ≤ 255) (hl : -39 ≤ lo ∧ lo ≤ 39) (h0 : k % 8 ≠ 0) (h1 : k % 8 ≠ 1) (h2 : k % 8 ≠ 2) (w : World) :
    Calls Tryd.prog 8 #[.agg #[.int .u8 k, .int .u8 n, .int .i16 lo]] w fun ro w' => ro = .returned (.agg #[.int .i8 0, .int .i64 lo, .int .i8 0, .int .i64 (lo + n % 16)]) ∧ Dn w w' := by
  have t0 : (k % 8 == 0) = false := by simp; omega
  have t1 : (k % 8 == 1) = false := by simp; omega
  have t2 : (k % 8 == 2) = false := by simp; omega
  go_enter Tryd.func8, Tryd.ntmps8
  go_wp2_with fail
  exact bodyPost_ret (v := .agg #[.int .i8 0, .int .i64 lo, .int .i8 0, .int .i64 (lo + n % 16)]) (by simp [results, Tryd.results8, go_sem]) rfl ⟨rfl, (((Dn.refl _).alloc _).alloc _).alloc _⟩
theorem rOf9 (k n lo : Int) (hk : 0 ≤ k ∧ k ≤ 255) (hn : 0 ≤ n ∧ n ≤ 255) (hl : -39 ≤ lo ∧ lo ≤ 39) (w : World) :
    Calls Tryd.prog 8 #[.agg #[.int .u8 k, .int .u8 n, .int .i16 lo]] w fun ro w' => ro = .returned (.agg #[.int .i8 (ofA k), .int .i64 (ofB k lo), .int .i8 (ofC k), .int .i64 (ofD k n lo)]) ∧ Dn w w' := by
  unfold ofA ofB ofC ofD
  by_cases h0 : k % 8 = 0
  · rw [if_pos (Or.inl h0), if_pos (Or.inl h0), if_neg (by omega), if_neg (by omega)]; exact rOf9_0 k n lo hk hn hl h0 w
  · by_cases h2 : k % 8 = 2
    · rw [if_pos (Or.inr h2), if_pos (Or.inr h2), if_pos (Or.inr h2), if_pos (Or.inr h2)]; exact rOf9_2 k n lo hk hn hl h2 w
    · rw [if_neg (by omega), if_neg (by omega)]
      by_cases h1 : k % 8 = 1
      · rw [if_pos (Or.inl h1), if_pos (Or.inl h1)]; exact rOf9_1 k n lo hk hn hl h1 w
      · rw [if_neg (by omega), if_neg (by omega)]; exact rOf9_x k n lo hk hn hl h0 h1 h2 w
theorem tmod40 (x : Int) : -39 ≤ x.tmod 40 ∧ x.tmod 40 ≤ 39 := by
  rcases Int.le_total 0 x with h | h
  · rw [Int.tmod_eq_emod_of_nonneg h]; omega
  · have : x.tmod 40 = -((-x).tmod 40) := by rw [Int.neg_tmod]; omega
    rw [this, Int.tmod_eq_emod_of_nonneg (by omega)]; omega
theorem runsPlain_true (k n lo k' n' lo' : Int) (w : World) (hk : 0 ≤ k ∧ k ≤ 255) (hn : 0 ≤ n ∧ n ≤ 255) (hl : -32768 ≤ lo ∧ lo ≤ 32767) (hk' : 0 ≤ k' ∧ k' ≤ 255) (hn' : 0 ≤ n' ∧ n' ≤ 255) (hl' : -32768 ≤ lo' ∧ lo' ≤ 32767) (hE : EnvR w) :
    Calls Tryd.prog 3 #[.agg #[.int .u8 k, .int .u8 n, .int .i16 lo], .agg #[.int .u8 k', .int .u8 n', .int .i16 lo']] w fun ro w' => ro = .returned (.bool true) ∧ Dn w w' := by
  have HO1 := Lib.hid (fun W => rOf9 k n (lo.tmod 40) hk hn (tmod40 lo) W)
  have HO2 := Lib.hid (fun W => rOf9 k' n' (lo'.tmod 40) hk' hn' (tmod40 lo') W)
  have S1 := of_sm k n (lo.tmod 40) (tmod40 lo)
  have S2 := of_sm k' n' (lo'.tmod 40) (tmod40 lo')
  generalize ofA k = a at *
  generalize ofB k (lo.tmod 40) = b at *
  generalize ofC k = c at *
  generalize ofD k n (lo.tmod 40) = d at *
  generalize ofA k' = e at *
  generalize ofB k' (lo'.tmod 40) = f at *
  generalize ofC k' = g at *
  generalize ofD k' n' (lo'.tmod 40) = h at *
  obtain ⟨hb, hd⟩ := S1.i64
  obtain ⟨hf, hh⟩ := S2.i64
  obtain ⟨j0, j1, j2, j3, T, hJ⟩ := jnR_ex a b c d e f g h
  obtain ⟨c0, c1, c2, c3, M, hC⟩ := cmR_ex a b c d e f g h
  have hTT : T = decide (Tch a b c d e f g h) := by
    rcases hJ with ⟨t, rfl, _⟩ | ⟨t, rfl, _⟩
    · exact (decide_eq_true t).symm
    · exact (decide_eq_false t).symm
  have hMM : M = decide (Meet a b c d e f g h) := by
    rcases hC with ⟨t, rfl, _⟩ | ⟨t, rfl, _⟩
    · exact (decide_eq_true t).symm
    · exact (decide_eq_false t).symm
  have hHas : ∀ {a b c d : Int}, Sm a b c d → I64 b → I64 d → ∀ W t, I64 t → Calls Tryd.prog 9 #[.agg #[.int .i8 a, .int .i64 b, .int .i8 c, .int .i64 d], .int .i64 t] W fun o w' => o = .returned (.bool (decide (HasQ a b c d t))) ∧ Dn W w' := by
    intro a b c d hs hb hd W t ht
    have := rnHas a b c d t W hb hd ht
    rw [decide_eq_decide.2 (hs.has ht)] at this
    exact this
  refine pl_walk k n lo k' n' lo' a b c d e f g h j0 j1 j2 j3 c0 c1 c2 c3 (fun t => decide (HasQ a b c d t)) (fun t => decide (HasQ e f g h t)) T M (decide (Wi a b c d e f g h)) hk hn hl hk' hn' hl' HO1 HO2 (Lib.hid (hHas S1 hb hd)) (Lib.hid (hHas S2 hf hh)) (Lib.hid fun W => rnJoin a b c d e f g h _ _ _ _ _ W hb hd hf hh hJ) (Lib.hid fun W => rnCommon a b c d e f g h _ _ _ _ _ W hb hd hf hh hC) (Lib.hid fun W => by rw [hTT]; exact rnTouch a b c d e f g h W hb hd hf hh) (Lib.hid fun W => rnWithin a b c d e f g h W hb hd hf hh) ?_ w hE
  rintro near both out ⟨h1, h2, h3⟩
  unfold PN at h1
  unfold PB at h2
  unfold PO at h3
  simp only [decide_eq_true_eq, decide_eq_false_iff_not] at h1 h2 h3
  rw [← sm_meet S1 S2] at h2
  have kt := sm_tch S1 S2
  rw [← sm_meet S1 S2, ← h1, ← h2] at kt
  have kw := sm_wi S1 S2
  rw [← h3] at kw
  refine ⟨?_, ?_, ?_⟩
  · rw [hTT, decide_eq_decide.2 kt]; cases both <;> cases near <;> rfl
  · rw [hMM, ← decide_eq_decide.2 h2]; cases both <;> rfl
  · rw [decide_eq_decide.2 kw]; cases out <;> rfl
end Go.Proofs.YtcdkeiolblifkaaDoor
