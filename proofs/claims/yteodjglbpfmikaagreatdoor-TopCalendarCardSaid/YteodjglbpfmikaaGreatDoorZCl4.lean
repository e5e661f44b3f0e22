/- Walks and laws that the claim's theorem leans on: part 4. -/
import Derived.Test.YteodjglbpfmikaaGreatDoorZCl1
import Derived.Test.YteodjglbpfmikaaGreatDoorZCl3
import Derived.Defers
import Derived.Recover
namespace Go.Proofs.YteodjglbpfmikaaGreatDoor
set_option maxHeartbeats 2000000
set_option maxRecDepth 100000
open Go.RowKit
set_option linter.unusedVariables false
set_option linter.unusedSimpArgs false
structure EnvC (w : World) : Prop where
 i : EnvI w
 m : EnvM w
 ml : ∃ n, w.cell? ⟨5, 0, none⟩ = some (.int .i64 n)
theorem EnvC.dn {w w' : World} (h : EnvC w) (k : Dn w w') : EnvC w' := by
 obtain ⟨n, hn⟩ := h.ml
 exact ⟨h.i.dn k, h.m.below k.below, n, k.cell hn⟩
def cErr (y m d : Int) : Int := if ¬ IsY y then 6 else if ¬ (1 ≤ m ∧ m ≤ 12) then 7 else if ¬ (1 ≤ d ∧ d ≤ Cal.mlen y m) then 8 else 0
theorem cErr_ok {y m d : Int} (h : cErr y m d = 0) : IsM y m ∧ 1 ≤ d ∧ d ≤ Cal.mlen y m := by
 unfold cErr at h
 split at h
 · omega
 · split at h
   · omega
   · split at h
     · omega
     · rename_i h1 h2 h3
       exact ⟨⟨Decidable.not_not.1 h1, Decidable.not_not.1 h2⟩, Decidable.not_not.1 h3⟩
theorem cErr_of {y m d : Int} (h : IsM y m) (h1 : 1 ≤ d) (h2 : d ≤ Cal.mlen y m) : cErr y m d = 0 := by
 unfold cErr
 rw [if_neg (fun k => k h.1), if_neg (fun k => k h.2), if_neg (fun k => k ⟨h1, h2⟩)]
theorem preCl39x1 (w : World) (y m d : Int) : ∃ W1, W1 = w.alloc (.cells #[.int .i64 y, .int .i64 m, .int .i64 d] 64) ∧ (Dn w W1) ∧ (W1.cell? ⟨w.heap.size, 0, none⟩ = some (.int .i64 y)) ∧ (W1.cell? ⟨w.heap.size, 1, none⟩ = some (.int .i64 m)) ∧ (W1.cell? ⟨w.heap.size, 2, none⟩ = some (.int .i64 d)) ∧ (w.heap.size < W1.heap.size) := by
  obtain ⟨W1, hW1⟩ : ∃ W1, W1 = w.alloc (.cells #[.int .i64 y, .int .i64 m, .int .i64 d] 64) := ⟨_, rfl⟩
  exact ⟨W1, hW1, (by rw [hW1]; exact (Dn.refl _).alloc _), (by rw [hW1]; simp [go_sem]), (by rw [hW1]; simp [go_sem]), (by rw [hW1]; simp [go_sem]), (by rw [hW1]; simp <;> omega)⟩
theorem cvChk_y (y m d : Int) (h : ¬ IsY y) (w : World) (hE : EnvC w) :
  Calls Tryz.prog 81 #[.agg #[.int .i64 y, .int .i64 m, .int .i64 d]] w fun ro w' => ro = .returned (.int .i64 6) ∧ Dn w w' := by
 have H := Lib.hid h
 clear h
 go_enter Tryz.func81, Tryz.ntmps81
 go_wp2_with fail
 obtain ⟨W1, hW1, uW1, c2, c3, c4, l5⟩ := preCl39x1 w y m d
 rw [← hW1]
 clear hW1
 refine (mlen_no y m 6 _ (Or.inl ⟨H.out, rfl⟩)).mono ?_
 rintro e w1 ⟨rfl, rfl⟩
 go_wp2_with fail
 go_ret
 exact ⟨rfl, uW1⟩
theorem cvChk_m (y m d : Int) (h : IsY y) (h2 : ¬ (1 ≤ m ∧ m ≤ 12)) (w : World) (hE : EnvC w) :
  Calls Tryz.prog 81 #[.agg #[.int .i64 y, .int .i64 m, .int .i64 d]] w fun ro w' => ro = .returned (.int .i64 7) ∧ Dn w w' := by
 have H := Lib.hid h
 have H2 := Lib.hid h2
 clear h h2
 go_enter Tryz.func81, Tryz.ntmps81
 go_wp2_with fail
 obtain ⟨W1, hW1, uW1, c2, c3, c4, l5⟩ := preCl39x1 w y m d
 rw [← hW1]
 clear hW1
 refine (mlen_no y m 7 _ (Or.inr ⟨H.out, H2.out, rfl⟩)).mono ?_
 rintro e w1 ⟨rfl, rfl⟩
 go_wp2_with fail
 go_ret
 exact ⟨rfl, uW1⟩
theorem cvChk_d1 (y m d : Int) (h : IsM y m) (h2 : d < 1) (w : World) (hE : EnvC w) :
  Calls Tryz.prog 81 #[.agg #[.int .i64 y, .int .i64 m, .int .i64 d]] w fun ro w' => ro = .returned (.int .i64 8) ∧ Dn w w' := by
 have H := Lib.hid h
 have c1 : decide (d < 1) = true := by simpa using h2
 clear h h2
 go_enter Tryz.func81, Tryz.ntmps81
 go_wp2_with fail
 obtain ⟨W1, hW1, uW1, c2, c3, c4, l5⟩ := preCl39x1 w y m d
 rw [← hW1]
 clear hW1
 refine (mlen_yes y m _ H.out (hE.dn uW1).m).mono ?_
 rintro e w1 ⟨rfl, qw1⟩
 replace qw1 := qw1.dn
 have l6 := nlt l5 qw1.size
 obtain ⟨c7, c8, c9⟩ := mv3 qw1.cell c2 c3 c4
 clear l5 c2 c3 c4
 have uw1 := uW1.trans qw1
 clear qw1 uW1
 go_wp2_with fail
 go_ret
 exact ⟨rfl, uw1⟩
theorem cvChk_d2 (y m d : Int) (h : IsM y m) (h2 : ¬ d < 1) (h3 : Cal.mlen y m < d) (w : World) (hE : EnvC w) :
  Calls Tryz.prog 81 #[.agg #[.int .i64 y, .int .i64 m, .int .i64 d]] w fun ro w' => ro = .returned (.int .i64 8) ∧ Dn w w' := by
 have H := Lib.hid h
 have c1 : decide (d < 1) = false := by simpa using h2
 have c2 : decide (Cal.mlen y m < d) = true := by simpa using h3
 clear h h2 h3
 go_enter Tryz.func81, Tryz.ntmps81
 go_wp2_with fail
 obtain ⟨W1, hW1, uW1, c2, c3, c4, l5⟩ := preCl39x1 w y m d
 rw [← hW1]
 clear hW1
 refine (mlen_yes y m _ H.out (hE.dn uW1).m).mono ?_
 rintro e w1 ⟨rfl, qw1⟩
 replace qw1 := qw1.dn
 have l6 := nlt l5 qw1.size
 obtain ⟨c7, c8, c9⟩ := mv3 qw1.cell c2 c3 c4
 clear l5 c2 c3 c4
 have uw1 := uW1.trans qw1
 clear qw1 uW1
 go_wp2_with fail
 go_ret
 exact ⟨rfl, uw1⟩
theorem cvChk_ok (y m d : Int) (h : IsM y m) (h2 : ¬ d < 1) (h3 : ¬ Cal.mlen y m < d) (w : World) (hE : EnvC w) :
  Calls Tryz.prog 81 #[.agg #[.int .i64 y, .int .i64 m, .int .i64 d]] w fun ro w' => ro = .returned (.int .i64 0) ∧ Dn w w' := by
 have H := Lib.hid h
 have c1 : decide (d < 1) = false := by simpa using h2
 have c2 : decide (Cal.mlen y m < d) = false := by simpa using h3
 clear h h2 h3
 go_enter Tryz.func81, Tryz.ntmps81
 go_wp2_with fail
 obtain ⟨W1, hW1, uW1, c2, c3, c4, l5⟩ := preCl39x1 w y m d
 rw [← hW1]
 clear hW1
 refine (mlen_yes y m _ H.out (hE.dn uW1).m).mono ?_
 rintro e w1 ⟨rfl, qw1⟩
 replace qw1 := qw1.dn
 have l6 := nlt l5 qw1.size
 obtain ⟨c7, c8, c9⟩ := mv3 qw1.cell c2 c3 c4
 clear l5 c2 c3 c4
 have uw1 := uW1.trans qw1
 clear qw1 uW1
 go_wp2_with fail
 go_ret
 exact ⟨rfl, uw1⟩
theorem cvChk (y m d e : Int) (w : World) (hE : EnvC w) (he : cErr y m d = e) :
   Calls Tryz.prog 81 #[.agg #[.int .i64 y, .int .i64 m, .int .i64 d]] w fun ro w' => ro = .returned (.int .i64 e) ∧ Dn w w' := by
 subst he
 unfold cErr
 by_cases h1 : IsY y
 · rw [if_neg (fun h => h h1)]
   by_cases h2 : 1 ≤ m ∧ m ≤ 12
   · rw [if_neg (fun h => h h2)]
     by_cases h3 : d < 1
     · rw [if_pos (by omega)]; exact cvChk_d1 y m d ⟨h1, h2⟩ h3 w hE
     · by_cases h4 : Cal.mlen y m < d
       · rw [if_pos (by omega)]; exact cvChk_d2 y m d ⟨h1, h2⟩ h3 h4 w hE
       · rw [if_neg (by omega)]; exact cvChk_ok y m d ⟨h1, h2⟩ h3 h4 w hE
   · rw [if_pos h2]; exact cvChk_m y m d h1 h2 w hE
 · rw [if_pos h1]; exact cvChk_y y m d h1 w hE
theorem cvDay_ok (y m d : Int) (he : cErr y m d = 0) (w : World) (hE : EnvC w) :
  Calls Tryz.prog 42 #[.agg #[.int .i64 y, .int .i64 m, .int .i64 d]] w fun ro w' => ro = .returned (.tuple #[.int .i64 (Cal.sm y m + d - 1), .int .i64 0]) ∧ Dn w w' := by
 obtain ⟨hm, d1, d2⟩ := cErr_ok he
 have hb := sm_bd y m hm
 have hl := Cal.mlen_bd y m
 have H := Lib.hid he
 have HM := Lib.hid hm
 clear he hm
 go_enter Tryz.func42, Tryz.ntmps42
 go_wp2_with fail
 obtain ⟨W1, hW1, uW1, c2, c3, c4, l5⟩ := preCl39x1 w y m d
 rw [← hW1]
 clear hW1
 refine (cvChk y m d 0 _ (hE.dn uW1) H.out).mono ?_
 rintro e w1 ⟨rfl, qw1⟩
 have l6 := nlt l5 qw1.size
 obtain ⟨c7, c8, c9⟩ := mv3 qw1.cell c2 c3 c4
 clear l5 c2 c3 c4
 have uw1 := uW1.trans qw1
 clear qw1 uW1
 go_wp2_with fail
 refine (mstart_yes y m _ HM.out (hE.dn uw1).m).mono ?_
 rintro e w2 ⟨rfl, qw2⟩
 replace qw2 := qw2.dn
 have l10 := nlt l6 qw2.size
 obtain ⟨c11, c12, c13⟩ := mv3 qw2.cell c7 c8 c9
 clear l6 c7 c8 c9
 have uw2 := uw1.trans qw2
 clear qw2 uw1
 go_wp2_with fail
 go_ret2
 exact ⟨rfl, uw2⟩
theorem preCl39x2 (w : World) : ∃ W1, W1 = w.alloc (.cells #[.int .i64 0, .int .i64 0, .int .i64 0] 64) ∧ (Dn w W1) ∧ (W1.cell? ⟨w.heap.size, 0, none⟩ = some (.int .i64 0)) ∧ (W1.cell? ⟨w.heap.size, 1, none⟩ = some (.int .i64 0)) ∧ (W1.cell? ⟨w.heap.size, 2, none⟩ = some (.int .i64 0)) ∧ (w.heap.size < W1.heap.size) ∧ (W1.frozen? ⟨w.heap.size, 0, none⟩ = false) ∧ (W1.frozen? ⟨w.heap.size, 1, none⟩ = false) ∧ (W1.frozen? ⟨w.heap.size, 2, none⟩ = false) := by
  obtain ⟨W1, hW1⟩ : ∃ W1, W1 = w.alloc (.cells #[.int .i64 0, .int .i64 0, .int .i64 0] 64) := ⟨_, rfl⟩
  exact ⟨W1, hW1, (by rw [hW1]; exact (Dn.refl _).alloc _), (by rw [hW1]; simp [go_sem]), (by rw [hW1]; simp [go_sem]), (by rw [hW1]; simp [go_sem]), (by rw [hW1]; simp <;> omega), (by rw [hW1]; simp [go_sem]), (by rw [hW1]; simp [go_sem]), (by rw [hW1]; simp [go_sem])⟩
theorem cvOf_no (d : Int) (hd : I64 d) (h : ¬ IsY (Cal.yr d)) (w : World) (hE : EnvC w) :
  Calls Tryz.prog 29 #[.int .i64 d] w fun ro w' => ro = .returned (.tuple #[.agg #[.int .i64 0, .int .i64 0, .int .i64 0], .int .i64 6]) ∧ Dn w w' := by
 have HD := Lib.hid hd
 have HY := Lib.hid h
 clear hd h
 go_enter Tryz.func29, Tryz.ntmps29
 go_wp2_with fail
 obtain ⟨W1, hW1, uW1, c2, c3, c4, l5, f6, f7, f8⟩ := preCl39x2 w 
 rw [← hW1]
 clear hW1
 refine (mof_no d _ HD.out HY.out (hE.dn uW1).m).mono ?_
 rintro e w1 ⟨rfl, qw1⟩
 replace qw1 := qw1.dn
 have f9 := (qw1.frozen (a := ⟨w.heap.size, 0, none⟩) l5).trans f6
 have f10 := (qw1.frozen (a := ⟨w.heap.size, 1, none⟩) l5).trans f7
 have f11 := (qw1.frozen (a := ⟨w.heap.size, 2, none⟩) l5).trans f8
 have l12 := nlt l5 qw1.size
 obtain ⟨c13, c14, c15⟩ := mv3 qw1.cell c2 c3 c4
 clear f6 f7 f8 l5 c2 c3 c4
 have uw1 := uW1.trans qw1
 clear qw1 uW1
 go_wp2_with fail
 exact bodyPost_ret (v := .tuple #[.agg #[.int .i64 0, .int .i64 0, .int .i64 0], .int .i64 6]) (by simp [results, Tryz.results29, go_sem, c13, c14, c15, f9, f10, f11] <;> omega) rfl ⟨rfl, (((uw1.setCell (by simp <;> omega) _).setCell (by simp <;> omega) _).setCell (by simp <;> omega) _)⟩
theorem cvOf_yes (d : Int) (hd : I64 d) (h : IsY (Cal.yr d)) (w : World) (hE : EnvC w) :
  Calls Tryz.prog 29 #[.int .i64 d] w fun ro w' => ro = .returned (.tuple #[.agg #[.int .i64 (Cal.yr d), .int .i64 (mo d), .int .i64 (d - Cal.sm (Cal.yr d) (mo d) + 1)], .int .i64 0]) ∧ Dn w w' := by
 obtain ⟨m1, m2, m3, m4⟩ := mo_spec d
 have hM : IsM (Cal.yr d) (mo d) := ⟨h, m1, m2⟩
 have hb := sm_bd _ _ hM
 rw [sm_succ _ _ m1 m2] at m4
 have hl := Cal.mlen_bd (Cal.yr d) (mo d)
 have HD := Lib.hid hd
 have HY := Lib.hid h
 have HM := Lib.hid hM
 clear hd h hM
 go_enter Tryz.func29, Tryz.ntmps29
 go_wp2_with fail
 obtain ⟨W1, hW1, uW1, c2, c3, c4, l5, f6, f7, f8⟩ := preCl39x2 w 
 rw [← hW1]
 clear hW1
 refine (mof_yes d _ HD.out HY.out (hE.dn uW1).m).mono ?_
 rintro e w1 ⟨rfl, qw1⟩
 replace qw1 := qw1.dn
 have f9 := (qw1.frozen (a := ⟨w.heap.size, 0, none⟩) l5).trans f6
 have f10 := (qw1.frozen (a := ⟨w.heap.size, 1, none⟩) l5).trans f7
 have f11 := (qw1.frozen (a := ⟨w.heap.size, 2, none⟩) l5).trans f8
 have a0 := nlt l5 qw1.size
 obtain ⟨a1, a2, a3⟩ := mv3 qw1.cell c2 c3 c4
 clear f6 f7 f8 l5 c2 c3 c4
 have uw1 := uW1.trans qw1
 clear qw1 uW1
 go_wp2_with fail
 refine (mstart_yes (Cal.yr d) (mo d) _ HM.out (hE.dn uw1).m).mono ?_
 rintro e w2 ⟨rfl, qw2⟩
 replace qw2 := qw2.dn
 have f16 := (qw2.frozen (a := ⟨w.heap.size, 0, none⟩) a0).trans f9
 have f17 := (qw2.frozen (a := ⟨w.heap.size, 1, none⟩) a0).trans f10
 have f18 := (qw2.frozen (a := ⟨w.heap.size, 2, none⟩) a0).trans f11
 have a7 := nlt a0 qw2.size
 obtain ⟨a4, a5, a6⟩ := mv3 qw2.cell a1 a2 a3
 clear f9 f10 f11 a0 a1 a2 a3
 have uw2 := uw1.trans qw2
 clear qw2 uw1
 go_wp2_with fail
 exact bodyPost_ret (v := .tuple #[.agg #[.int .i64 (Cal.yr d), .int .i64 (mo d), .int .i64 (d - Cal.sm (Cal.yr d) (mo d) + 1)], .int .i64 0]) (by simp [results, Tryz.results29, go_sem, a4, a5, a6, f16, f17, f18] <;> omega) rfl ⟨rfl, (((uw2.setCell (by simp <;> omega) _).setCell (by simp <;> omega) _).setCell (by simp <;> omega) _)⟩
theorem cvWd (d : Int) (hd : I64 d) (w : World) :
  Calls Tryz.prog 37 #[.int .i64 d] w fun ro w' => ro = .returned (.int .i64 ((d % 7 + 5) % 7)) ∧ Dn w w' := by
 have HD := Lib.hid hd
 clear hd
 have h1 : 0 ≤ d % 7 ∧ d % 7 < 7 := by omega
 go_enter Tryz.func37, Tryz.ntmps37
 go_wp2_with fail
 refine (mod_pos d 7 _ HD.out (by decide) (by decide)).mono ?_
 rintro e w1 ⟨rfl, rfl⟩
 go_wp2_with fail
 go_ret
 exact ⟨rfl, Dn.refl _⟩
def dcm (u : Nat) : List UInt8 := if u = 0 then [48] else rd u
theorem itoa_pos (n : Int) (h : 0 ≤ n) : Lib.itoa n = dcm n.natAbs := by
 unfold dcm
 by_cases h0 : n = 0
 · subst h0; exact itoa_zero
 · rw [itoa_rd n h0, if_neg (by omega), if_neg (by omega)]
theorem itoa_neg (n : Int) (h : n < 0) : Lib.itoa n = 45 :: dcm n.natAbs := by
 unfold dcm
 rw [itoa_rd n (by omega), if_pos h, if_neg (by omega)]
theorem dcm_isD (u : Nat) : ∀ c ∈ dcm u, Dg.isD c := by
 unfold dcm
 split
 · intro c hc; simp at hc; subst hc; unfold Dg.isD; decide
 · exact rd_isD u
theorem dcm_val (u : Nat) : Dg.nvA 0 (dcm u) = u := by
 unfold dcm
 split
 · subst u; decide
 · exact rd_val u
theorem rd_len (u k : Nat) (h : (u : Int) < Dg.p10 k) : (rd u).length ≤ k := by
 unfold rd
 rw [List.length_map, List.length_reverse]
 exact Dg.dl_len h
theorem dcm_len (u k : Nat) (hk : 1 ≤ k) (h : (u : Int) < Dg.p10 k) : (dcm u).length ≤ k := by
 unfold dcm
 split
 · exact hk
 · exact rd_len u k h
theorem dcm_two (u : Nat) (h : u < 100) : (dcm u).length ≤ 2 := dcm_len u 2 (by decide) (by simp only [Dg.p10]; omega)
def padd (k : Nat) (l : List UInt8) : List UInt8 := List.replicate (k - l.length) 48 ++ l
theorem padd_len (k : Nat) (l : List UInt8) : (padd k l).length = max k l.length := by unfold padd; simp; omega
theorem padd_isD (k : Nat) (l : List UInt8) (h : ∀ c ∈ l, Dg.isD c) : ∀ c ∈ padd k l, Dg.isD c := by
 unfold padd
 intro c hc
 rcases List.mem_append.1 hc with hc | hc
 · rw [List.mem_replicate] at hc; obtain ⟨_, rfl⟩ := hc; unfold Dg.isD; decide
 · exact h c hc
theorem nvA_zeros (k : Nat) (l : List UInt8) : Dg.nvA 0 (List.replicate k 48 ++ l) = Dg.nvA 0 l := by
 induction k with
 | zero => rfl
 | succ k ih => rw [List.replicate_succ, List.cons_append, Dg.nvA_cons]; exact ih
theorem padd_val (k : Nat) (l : List UInt8) : Dg.nvA 0 (padd k l) = Dg.nvA 0 l := nvA_zeros _ _
def cT (y m d : Int) : List UInt8 := (if y < 0 then [45] else []) ++ (padd 4 (dcm y.natAbs) ++ 45 :: (padd 2 (dcm m.natAbs) ++ 45 :: padd 2 (dcm d.natAbs)))
def nd (c : UInt8) : Bool := c != 45
def sA (l : List UInt8) : List UInt8 := (dsOf l).takeWhile nd
def rA (l : List UInt8) : List UInt8 := (dsOf l).dropWhile nd
def sB (l : List UInt8) : List UInt8 := ((rA l).drop 1).takeWhile nd
def rB (l : List UInt8) : List UInt8 := ((rA l).drop 1).dropWhile nd
def sC (l : List UInt8) : List UInt8 := ((rB l).drop 1).takeWhile nd
def rC (l : List UInt8) : List UInt8 := ((rB l).drop 1).dropWhile nd
def AllD (l : List UInt8) : Prop := ∀ c ∈ l, Dg.isD c
instance decAllD (l : List UInt8) : Decidable (AllD l) := by unfold AllD Dg.isD; infer_instance
def Part (p : List UInt8) (n : Nat) (more : Bool) : Prop := n ≤ p.length ∧ ¬ (n < p.length ∧ (more = false ∨ p.head? = some 48)) ∧ AllD p
instance decPart (p : List UInt8) (n : Nat) (more : Bool) : Decidable (Part p n more) := by unfold Part; infer_instance
theorem part2 (p : List UInt8) : Part p 2 false ↔ p.length = 2 ∧ AllD p := by unfold Part; constructor <;> intro h <;> refine ⟨?_, ?_⟩ <;> simp_all <;> omega
def yV (l : List UInt8) : Int := sg (isNeg l) (Dg.nvA 0 (sA l))
def mV (l : List UInt8) : Int := Dg.nvA 0 (sB l)
def dV (l : List UInt8) : Int := Dg.nvA 0 (sC l)
structure CF (l : List UInt8) : Prop where
 a : Part (sA l) 4 true
 ra : rA l ≠ []
 b : Part (sB l) 2 false
 rb : rB l ≠ []
 c : Part (sC l) 2 false
 rc : rC l = []
 nz : ¬ (isNeg l = true ∧ Dg.nvA 0 (sA l) = 0)
theorem nd_of_isD {c : UInt8} (h : Dg.isD c) : nd c = true := by
 unfold nd
 unfold Dg.isD at h
 rw [bne_iff_ne]
 rintro rfl
 have : (45 : UInt8).toNat = 45 := rfl
 omega
theorem tw_all {p : UInt8 → Bool} (a r : List UInt8) (h : ∀ c ∈ a, p c = true) (hr : ∀ x, r.head? = some x → p x = false) : (a ++ r).takeWhile p = a ∧ (a ++ r).dropWhile p = r := by
 induction a with
 | nil =>
   cases r with
   | nil => exact ⟨rfl, rfl⟩
   | cons x r => have := hr x rfl; simp [this]
 | cons x a ih =>
   obtain ⟨i1, i2⟩ := ih (fun c hc => h c (by simp [hc]))
   have hx := h x (by simp)
   simp [hx, i1, i2]
theorem tw_split (p : UInt8 → Bool) (l : List UInt8) : l = l.takeWhile p ++ l.dropWhile p := List.takeWhile_append_dropWhile.symm
theorem dw_head (l : List UInt8) (h : l.dropWhile nd ≠ []) : l.dropWhile nd = 45 :: (l.dropWhile nd).drop 1 := by
 induction l with
 | nil => simp at h
 | cons x l ih =>
   by_cases hx : nd x = true
   · simp only [List.dropWhile_cons, hx, if_true] at h ⊢; exact ih h
   · have e : x = 45 := by
      unfold nd at hx
      simpa using hx
     subst e
     simp [List.dropWhile_cons, nd]
theorem ds_sign (l : List UInt8) : l = (if isNeg l = true then [45] else []) ++ dsOf l := by
 unfold dsOf
 cases l with
 | nil => rfl
 | cons x l =>
   by_cases hx : isNeg (x :: l) = true
   · have e : x = 45 := by unfold isNeg at hx; simpa using hx
     subst e
     simp [hx]
   · simp [hx]
theorem CF.eq {l : List UInt8} (h : CF l) : l = (if isNeg l = true then [45] else []) ++ (sA l ++ 45 :: (sB l ++ 45 :: sC l)) := by
 have e1 := ds_sign l
 have e2 : dsOf l = sA l ++ rA l := tw_split nd _
 have e3 : rA l = 45 :: (rA l).drop 1 := dw_head _ h.ra
 have e4 : (rA l).drop 1 = sB l ++ rB l := tw_split nd _
 have e5 : rB l = 45 :: (rB l).drop 1 := dw_head _ h.rb
 have e6 : (rB l).drop 1 = sC l ++ rC l := tw_split nd _
 have e7 : dsOf l = sA l ++ 45 :: (sB l ++ 45 :: sC l) := by
  rw [e2]
  congr 1
  rw [e3]
  congr 1
  rw [e4]
  congr 1
  rw [e5]
  congr 1
  rw [e6, h.rc, List.append_nil]
 rw [← e7]; exact e1
theorem parts_of (neg : Bool) (a b c : List UInt8) (ha : AllD a) (hb : AllD b) (hc : AllD c) (hne : a ≠ []) (l : List UInt8) (hl : l = (if neg = true then [45] else []) ++ (a ++ 45 :: (b ++ 45 :: c))) :
   isNeg l = neg ∧ sA l = a ∧ rA l = 45 :: (b ++ 45 :: c) ∧ sB l = b ∧ rB l = 45 :: c ∧ sC l = c ∧ rC l = [] := by
 have hn : isNeg l = neg := by
   cases neg
   · cases a with
     | nil => exact absurd rfl hne
     | cons x a =>
       have := nd_of_isD (ha x (by simp))
       subst hl
       unfold isNeg nd at *
       simpa using this
   · subst hl; rfl
 have hd : dsOf l = a ++ 45 :: (b ++ 45 :: c) := by
   unfold dsOf
   rw [hn]
   cases neg
   · subst hl; rfl
   · subst hl; rfl
 have h45 : ∀ (r : List UInt8) x, (45 :: r).head? = some x → nd x = false := by
   intro r x hx; simp at hx; subst hx; rfl
 obtain ⟨t1, t2⟩ := tw_all a (45 :: (b ++ 45 :: c)) (fun x hx => nd_of_isD (ha x hx)) (h45 _)
 obtain ⟨t3, t4⟩ := tw_all b (45 :: c) (fun x hx => nd_of_isD (hb x hx)) (h45 _)
 obtain ⟨t5, t6⟩ := tw_all c [] (fun x hx => nd_of_isD (hc x hx)) (fun x hx => by simp at hx)
 rw [List.append_nil] at t5 t6
 have hA : sA l = a := by unfold sA; rw [hd]; exact t1
 have hRA : rA l = 45 :: (b ++ 45 :: c) := by unfold rA; rw [hd]; exact t2
 have hB : sB l = b := by unfold sB; rw [hRA]; exact t3
 have hRB : rB l = 45 :: c := by unfold rB; rw [hRA]; exact t4
 refine ⟨hn, hA, hRA, hB, hRB, ?_, ?_⟩
 · unfold sC; rw [hRB]; exact t5
 · unfold rC; rw [hRB]; exact t6
theorem cf_of (neg : Bool) (a b c : List UInt8) (ha : Part a 4 true) (hb : Part b 2 false) (hc : Part c 2 false) (hz : ¬ (neg = true ∧ Dg.nvA 0 a = 0)) (l : List UInt8) (hl : l = (if neg = true then [45] else []) ++ (a ++ 45 :: (b ++ 45 :: c))) :
   CF l ∧ yV l = sg neg (Dg.nvA 0 a) ∧ mV l = Dg.nvA 0 b ∧ dV l = Dg.nvA 0 c := by
 have hne : a ≠ [] := by intro e; have := ha.1; rw [e] at this; simp at this
 obtain ⟨h1, h2, h3, h4, h5, h6, h7⟩ := parts_of neg a b c ha.2.2 hb.2.2 hc.2.2 hne l hl
 refine ⟨⟨h2 ▸ ha, by rw [h3]; simp, h4 ▸ hb, by rw [h5]; simp, h6 ▸ hc, h7, by rw [h1, h2]; exact hz⟩, ?_, ?_, ?_⟩
 · unfold yV; rw [h1, h2]
 · unfold mV; rw [h4]
 · unfold dV; rw [h6]
theorem part_padd2 (u : Nat) (h : u < 100) : Part (padd 2 (dcm u)) 2 false := by
 have h2 := dcm_two u h
 rw [part2]
 refine ⟨?_, padd_isD _ _ (dcm_isD u)⟩
 rw [padd_len]; omega
theorem part_padd4 (u : Nat) : Part (padd 4 (dcm u)) 4 true := by
 refine ⟨by rw [padd_len]; omega, ?_, padd_isD _ _ (dcm_isD u)⟩
 rintro ⟨h1, h2⟩
 rw [padd_len] at h1
 rcases h2 with h2 | h2
 · cases h2
 · have h3 : 4 - (dcm u).length = 0 := by omega
   unfold padd at h2
   rw [h3] at h2
   by_cases h0 : u = 0
   · subst h0; simp [dcm] at h1
   · obtain ⟨d, d1, d2, hd⟩ := rd_head u h0
     have hn := ch_toNat d ⟨by omega, d2⟩
     simp only [List.replicate_zero, List.nil_append, dcm, if_neg h0, hd, Option.some.injEq] at h2
     have e2 := congrArg UInt8.toNat h2
     have : (48 : UInt8).toNat = 48 := rfl
     omega
theorem cT_form (y m d : Int) (hm : 0 ≤ m ∧ m < 100) (hd : 0 ≤ d ∧ d < 100) : CF (cT y m d) ∧ yV (cT y m d) = y ∧ mV (cT y m d) = m ∧ dV (cT y m d) = d := by
 have h := cf_of (decide (y < 0)) (padd 4 (dcm y.natAbs)) (padd 2 (dcm m.natAbs)) (padd 2 (dcm d.natAbs)) (part_padd4 _) (part_padd2 _ (by omega)) (part_padd2 _ (by omega))
   (by rw [padd_val, dcm_val]; simp only [decide_eq_true_eq]; omega) (cT y m d) (by unfold cT; simp only [decide_eq_true_eq])
 rw [padd_val, dcm_val, padd_val, dcm_val, padd_val, dcm_val] at h
 refine ⟨h.1, h.2.1.trans ?_, h.2.2.1.trans (by omega), h.2.2.2.trans (by omega)⟩
 unfold sg
 by_cases hy : y < 0
 · simp only [hy, decide_true, if_true]; omega
 · simp only [hy, decide_false]; simp; omega
theorem dw48_split (a : List UInt8) : ∃ j, a = List.replicate j 48 ++ a.dropWhile (· == 48) := by
 induction a with
 | nil => exact ⟨0, rfl⟩
 | cons x a ih =>
   by_cases hx : x = 48
   · subst hx
     obtain ⟨j, hj⟩ := ih
     refine ⟨j + 1, ?_⟩
     simp only [List.dropWhile_cons, beq_self_eq_true, if_true, List.replicate_succ, List.cons_append]
     rw [← hj]
   · refine ⟨0, ?_⟩
     have : (x == 48) = false := by simpa using hx
     simp [List.dropWhile_cons, this]
theorem dw48_head (a : List UInt8) : (a.dropWhile (· == 48)).head? ≠ some 48 := by
 induction a with
 | nil => simp
 | cons x a ih =>
   by_cases hx : x = 48
   · subst hx; simpa [List.dropWhile_cons] using ih
   · have : (x == 48) = false := by simpa using hx
     simp [List.dropWhile_cons, this, hx]
theorem neg_of_allD {l : List UInt8} (h : AllD l) : isNeg l = false := by
 cases l with
 | nil => rfl
 | cons x l =>
   have := nd_of_isD (h x (by simp))
   unfold isNeg nd at *
   simpa using this
theorem ds_allD {l : List UInt8} (h : AllD l) : dsOf l = l := (ds_len l).2 (neg_of_allD h)
theorem pOk_of {l : List UInt8} (h : AllD l) (hne : l ≠ []) (h48 : l.head? ≠ some 48) : pOk l ∧ pVal l = Dg.nvA 0 l := by
 have hn := neg_of_allD h
 have hd := ds_allD h
 refine ⟨⟨by rw [hd]; exact hne, by rw [hd]; exact fun hx => h48 hx.1, by rw [hd]; exact h⟩, ?_⟩
 unfold pVal
 rw [hn, hd]
 rfl
theorem nv_len (a : List UInt8) (h : AllD a) : (Dg.nvA 0 a : Int) < Dg.p10 a.length := by
 have e := Dg.nvA_val a h 0
 have h2 := Dg.val_lt (Dg.dv_digs a h)
 simp only [List.length_map, List.length_reverse] at h2
 omega
abbrev bA (l : List UInt8) : ByteArray := ⟨l.toArray⟩
theorem bA_app (a b : List UInt8) : bA a ++ bA b = bA (a ++ b) := by
 apply ByteArray.ext
 simp [bA]
theorem bA_size (l : List UInt8) : (bA l).size = l.length := by simp [bA, ByteArray.size]
abbrev pF (e : Int) : List PanicEntry := [{ v := .iface 119 (.int .i64 e), recovered := false }]
theorem cvMin_ok (B : Nat) (x : List UInt8) (w : World) (hB : w.cell? ⟨B, 0, none⟩ = some (.string (bA (45 :: x)))) (hz : w.frozen? ⟨B, 0, none⟩ = false) :
  Calls Tryz.prog 87 #[.pointer (some ⟨B, 0, none⟩)] w fun e w' => e = .returned (.tuple #[]) ∧ w' = w.setCell ⟨B, 0, none⟩ (.string (bA x)) := by
 have HC := Lib.hid (Tryz.strings_CutPrefix (bA (45 :: x)) ⟨#[45]⟩ w)
 have e1 : Lib.hasPrefix (bA (45 :: x)).data.toList (⟨#[45]⟩ : ByteArray).data.toList = true := by simp [Lib.hasPrefix]
 have e2 : Lib.trimPrefix (bA (45 :: x)).data.toList (⟨#[45]⟩ : ByteArray).data.toList = x := by unfold Lib.trimPrefix; rw [e1]; rfl
 rw [e1, e2] at HC
 clear e1 e2
 go_enter Tryz.func87, Tryz.ntmps87
 go_wp2_with fail
 refine HC.out.mono ?_
 rintro e w1 ⟨rfl, rfl⟩
 go_wp2_with fail
 exact ⟨rfl, .tuple #[], by simp [results, Tryz.results87, go_sem], rfl, rfl⟩
theorem cvMin_bad (B : Nat) (x : List UInt8) (w : World) (hB : w.cell? ⟨B, 0, none⟩ = some (.string (bA x))) (hx : isNeg x = false) :
  Calls Tryz.prog 87 #[.pointer (some ⟨B, 0, none⟩)] w fun e w' => e = .panicked (pF 5) ∧ w' = w := by
 have HC := Lib.hid (Tryz.strings_CutPrefix (bA x) ⟨#[45]⟩ w)
 have e1 : Lib.hasPrefix (bA x).data.toList (⟨#[45]⟩ : ByteArray).data.toList = false := (has_neg x).trans hx
 rw [e1] at HC
 clear e1 hx
 go_enter Tryz.func87, Tryz.ntmps87
 go_wp2_with fail
 refine HC.out.mono ?_
 rintro e w1 ⟨rfl, rfl⟩
 go_wp2_with fail
 exact ⟨rfl, rfl, rfl⟩
theorem neq_nil (e : Int) (w : World) : (binOp BinOp.neq 20 (.iface 119 (.int .i64 e)) .nilIface).run Tryz.prog w = .ok (.bool true) w := by kernel_rfl
theorem ta_run (e : Int) (w : World) : (Instr.typeAssert (.iface 119 (.int .i64 e)) 20 119 false).run Tryz.prog w = .ok (.int .i64 e) w := by kernel_rfl
theorem frm (a b x : Value) : (#[a, b] ++ ((Array.replicate 7 undef).setIfInBounds 1 x).setIfInBounds 0 x) = #[a, b, x, x, undef, undef, undef, undef, undef] := rfl
theorem catch_panicking (p q : Nat) (y m d e0 e : Int) (older : List PanicEntry) (w : World) (h0 : w.cell? ⟨p, 0, none⟩ = some (.int .i64 y)) (h1 : w.cell? ⟨p, 1, none⟩ = some (.int .i64 m)) (h2 : w.cell? ⟨p, 2, none⟩ = some (.int .i64 d)) (h3 : w.cell? ⟨q, 0, none⟩ = some (.int .i64 e0))
  (z0 : w.frozen? ⟨p, 0, none⟩ = false) (z1 : w.frozen? ⟨p, 1, none⟩ = false) (z2 : w.frozen? ⟨p, 2, none⟩ = false) (z3 : w.frozen? ⟨q, 0, none⟩ = false) (hpq : p ≠ q) :
  CallsD Tryz.prog 85 #[.pointer (some ⟨p, 0, none⟩), .pointer (some ⟨q, 0, none⟩)] (.panicking ({ v := .iface 119 (.int .i64 e), recovered := false } :: older)) w fun o u' w' =>
    o = .returned (.tuple #[]) ∧ u' = .panicking ({ v := .iface 119 (.int .i64 e), recovered := true } :: older) ∧
    (w'.cell? ⟨p, 0, none⟩ = some (.int .i64 0) ∧ w'.cell? ⟨p, 1, none⟩ = some (.int .i64 0) ∧ w'.cell? ⟨p, 2, none⟩ = some (.int .i64 0) ∧ w'.cell? ⟨q, 0, none⟩ = some (.int .i64 e)) ∧ ∀ w0 : World, Dn w0 w → w0.heap.size ≤ p → w0.heap.size ≤ q → Dn w0 w' := by
 have hn := neq_nil e
 have ht := ta_run e
 refine callsD_of_wpS Tryz.func85 rfl fun c₀ cs hu => ?_
 apply wpS_seq
 apply wpS_region
 simp [wpOpsS, go_sem, recoverD, hu, Tryz.ntmps85, Exit.thenS]
 refine wpS_of_wp ?_
 rw [frm]
 go_wp2_with fail
 go_region
 all_goals
  refine ⟨rfl, _, rfl, .tuple #[], by simp [results, Tryz.results85], rfl, rfl, ⟨?_, ?_, ?_, ?_⟩, fun w0 k hp hq => ?_⟩
  · simp [go_sem, h0, h1, h2, h3, z0, z1, z2, z3, hpq, Ne.symm hpq]
  · simp [go_sem, h0, h1, h2, h3, z0, z1, z2, z3, hpq, Ne.symm hpq]
  · simp [go_sem, h0, h1, h2, h3, z0, z1, z2, z3, hpq, Ne.symm hpq]
  · simp [go_sem, h0, h1, h2, h3, z0, z1, z2, z3, hpq, Ne.symm hpq]
  · exact ((((k.trans (Dn.refl _).drew).setCell hp _).setCell hp _).setCell hp _).setCell hq _
theorem catch_idle (p q : Addr) (w : World) :
  CallsD Tryz.prog 85 #[.pointer (some p), .pointer (some q)] .returning w fun e u' w' => e = .returned (.tuple #[]) ∧ u' = .returning ∧ w' = w := by
 refine callsD_of_wpS Tryz.func85 rfl fun c₀ cs hu => ?_
 apply wpS_seq
 apply wpS_region
 simp [wpOpsS, go_sem, recoverD, hu, Tryz.ntmps85, Exit.thenS]
 refine wpS_of_wp ?_
 rw [frm]
 go_wp2_with fail
 cases c₀
 simp_all [bodyPostS, results, Tryz.results85]
theorem ib45 (l : List UInt8) : (l.dropWhile nd = [] → Lib.indexByte l 45 = -1 ∧ l.takeWhile nd = l) ∧ (l.dropWhile nd ≠ [] → Lib.indexByte l 45 = (l.takeWhile nd).length) := by
 induction l with
 | nil => exact ⟨fun _ => ⟨rfl, rfl⟩, fun h => absurd rfl h⟩
 | cons x l ih =>
   by_cases hx : x = 45
   · subst hx
     exact ⟨fun h => by simp [nd] at h, fun _ => by simp [Lib.indexByte, nd]⟩
   · have h1 : nd x = true := by simpa [nd] using hx
     have h2 : (x == 45) = false := by simpa using hx
     refine ⟨fun h => ?_, fun h => ?_⟩
     · simp only [List.dropWhile_cons, h1, if_true] at h
       obtain ⟨a, b⟩ := ih.1 h
       exact ⟨by simp [Lib.indexByte, h2, a], by simp [List.takeWhile_cons, h1, b]⟩
     · simp only [List.dropWhile_cons, h1, if_true] at h
       have a := ih.2 h
       simp [Lib.indexByte, h2, a, List.takeWhile_cons, h1]
theorem cut45 (l : List UInt8) : Lib.cut l [45] = (l.takeWhile nd, (l.dropWhile nd).drop 1, !(l.dropWhile nd).isEmpty) := by
 unfold Lib.cut
 rw [Lib.index_one]
 have hl := tw_split nd l
 by_cases h : l.dropWhile nd = []
 · obtain ⟨a, b⟩ := (ib45 l).1 h
   rw [a, h, b]
   rfl
 · have a := (ib45 l).2 h
   rw [a, if_pos (by omega)]
   have e : ((l.takeWhile nd).length : Int).toNat = (l.takeWhile nd).length := by omega
   have hne : (!(l.dropWhile nd).isEmpty) = true := by simp [h]
   rw [e, hne]
   clear a e hne h
   generalize l.takeWhile nd = A at *
   generalize l.dropWhile nd = R at *
   subst hl
   simp [List.drop_append]
theorem repL (c : Nat) : Lib.repeatL [48] c = List.replicate c 48 := by
 induction c with
 | zero => rfl
 | succ c ih => simp [Lib.repeatL, ih, List.replicate_succ]
theorem cvPad (s : ByteArray) (k : Int) (hk : k = 2 ∨ k = 4) (hs : s.size ≤ 1000) (w : World) :
  Calls Tryz.prog 84 #[.string s, .int .i64 k] w fun o w' => o = .returned (.string (bA (padd k.toNat s.data.toList))) ∧ Dn w w' := by
 obtain ⟨c, hc⟩ : ∃ c : Nat, (c : Int) = max 0 (k - s.size) := ⟨(max 0 (k - s.size)).toNat, by omega⟩
 have hc4 : c ≤ 4 := by omega
 have HR := Tryz.strings_Repeat ⟨#[48]⟩ c w (by omega) (by show 1 * c ≤ _; omega)
 rw [show (⟨#[48]⟩ : ByteArray).data.toList = [48] from rfl, repL] at HR
 obtain ⟨R, hR⟩ : ∃ R : ByteArray, R = ⟨(List.replicate c (48 : UInt8)).toArray⟩ := ⟨_, rfl⟩
 rw [← hR] at HR
 have hRs : R.size = c := by rw [hR]; simp [ByteArray.size]
 have HV := Lib.hid (show R ++ s = bA (padd k.toNat s.data.toList) by
  rw [hR, show padd k.toNat s.data.toList = List.replicate c 48 ++ s.data.toList by unfold padd; rw [len_is, show k.toNat - s.size = c by omega]]; exact bA_app _ _)
 have HH := Lib.hid HR
 have z1 : ¬ (9223372036854775807 < R.size + s.size) := by omega
 have z2 := hc.symm
 clear HR hR hc hRs
 go_enter Tryz.func84, Tryz.ntmps84
 go_wp2_with fail
 refine HH.out.mono ?_
 rintro e w1 ⟨rfl, q⟩
 go_wp2_with fail
 go_ret
 exact ⟨by rw [HV.out]; rfl, ⟨q⟩⟩
end Go.Proofs.YteodjglbpfmikaaGreatDoor
