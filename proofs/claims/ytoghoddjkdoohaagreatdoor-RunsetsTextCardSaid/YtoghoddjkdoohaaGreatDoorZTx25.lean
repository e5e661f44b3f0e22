/- Walks and laws that the claim's theorem leans on: part 25. -/
import Derived.Test.YtoghoddjkdoohaaGreatDoorZTx1
import Derived.Test.YtoghoddjkdoohaaGreatDoorZTx10
import Derived.Test.YtoghoddjkdoohaaGreatDoorZTx13
import Derived.Laws.DeepStrings4
import Derived.Lib.CutLaws
import Derived.Lib.IndexBytes
namespace Go.Proofs.YtoghoddjkdoohaaGreatDoor
set_option maxHeartbeats 4000000
set_option maxRecDepth 100000
open Go.RowKit
set_option linter.unusedVariables false
set_option linter.unusedSimpArgs false
structure Stop (s : ByteArray) (N : Nat) : Prop where
 go : ∀ j, j < N → ∃ h : j + 1 < s.size, ¬ (s[j] = 46 ∧ s[j + 1] = 46)
theorem ne46 {s : ByteArray} {k : Nat} (h : k < s.size) (hne : s[k] ≠ 46) : ((s[k].toNat : Int) != 46) = true := by
 rw [bne_iff_ne]; intro e; exact hne (UInt8.toNat_inj.1 (by simpa using (by exact_mod_cast e : s[k].toNat = 46)))
theorem eq46 {s : ByteArray} {k : Nat} (h : k < s.size) (he : s[k] = 46) : ((s[k].toNat : Int) != 46) = false := by
 rw [he]; rfl
theorem occ_dd (s : ByteArray) (i : Nat) (h : i + 1 < s.size) : Lib.occAt s.data.toList [46, 46] i = true ↔ s[i] = 46 ∧ s[i + 1] = 46 := by
 have h1 := Lib.data_getElem? s i (by omega)
 have h2 := Lib.data_getElem? s (i + 1) h
 have hl : s.data.toList.length = s.size := len_is s
 have e : s.data.toList.drop i = s[i] :: s[i + 1] :: s.data.toList.drop (i + 2) := by
  rw [List.drop_eq_getElem_cons (by omega), List.drop_eq_getElem_cons (by omega)]
  rw [List.getElem?_eq_getElem (by omega)] at h1 h2
  rw [Option.some.inj h1, Option.some.inj h2]
 unfold Lib.occAt
 rw [e]
 simp only [List.isPrefixOf, Bool.and_true, Bool.and_eq_true, beq_iff_eq]
 exact ⟨fun ⟨x, y⟩ => ⟨x.symm, y.symm⟩, fun ⟨x, y⟩ => ⟨x.symm, y.symm⟩⟩
theorem occ_short (s : ByteArray) (i : Nat) (h : ¬ i + 1 < s.size) : Lib.occAt s.data.toList [46, 46] i = false := by
 have hl : s.data.toList.length = s.size := len_is s
 unfold Lib.occAt
 have : (s.data.toList.drop i).length ≤ 1 := by rw [List.length_drop]; omega
 match hd : s.data.toList.drop i, this with
 | [], _ => rfl
 | [x], _ => simp [List.isPrefixOf]
 | x :: y :: l, h' => simp at h'
theorem stop_cases (s : ByteArray) : (∃ N, Stop s N ∧ (¬ N + 1 < s.size ∧ N ≤ s.size) ∧ (Lib.cut s.data.toList [46, 46]).2.2 = false) ∨
   (∃ N, Stop s N ∧ (∃ h : N + 1 < s.size, s[N] = 46 ∧ s[N + 1] = 46) ∧ (Lib.cut s.data.toList [46, 46]).2.2 = true ∧ (⟨(Lib.cut s.data.toList [46, 46]).1.toArray⟩ : ByteArray) = s.extract 0 N ∧ (⟨(Lib.cut s.data.toList [46, 46]).2.1.toArray⟩ : ByteArray) = s.extract (N + 2) s.size) := by
 have hl : s.data.toList.length = s.size := len_is s
 rcases Lib.index_spec s.data.toList [46, 46] with ⟨h1, h2⟩ | ⟨i, h1, h2, h3, h4⟩
 · refine Or.inl ⟨s.size - 1, ⟨fun j hj => ⟨by omega, fun hc => ?_⟩⟩, ⟨by omega, by omega⟩, (Lib.cutB_miss s ⟨#[46, 46]⟩ h1).2.2⟩
   have := h2 j (by omega)
   rw [(occ_dd s j (by omega)).2 hc] at this
   cases this
 · have hi : i + 1 < s.size := by
    by_cases hc : i + 1 < s.size
    · exact hc
    · rw [occ_short s i hc] at h3; cases h3
   obtain ⟨c1, c2, c3⟩ := Lib.cutB_hit s ⟨#[46, 46]⟩ i h1
   refine Or.inr ⟨i, ⟨fun j hj => ⟨by omega, fun hc => ?_⟩⟩, ⟨hi, (occ_dd s i hi).1 h3⟩, c3, c1, c2⟩
   have := h4 j hj
   rw [(occ_dd s j (by omega)).2 hc] at this
   cases this
theorem preTx77x1 (w : World) : ∃ W1, W1 = w.alloc (.cells #[.int .i8 0, .int .i64 0, .int .i8 0, .int .i64 0] 45) ∧ (Dn w W1) ∧ (W1.cell? ⟨w.heap.size, 0, none⟩ = some (.int .i8 0)) ∧ (W1.cell? ⟨w.heap.size, 1, none⟩ = some (.int .i64 0)) ∧ (W1.cell? ⟨w.heap.size, 2, none⟩ = some (.int .i8 0)) ∧ (W1.cell? ⟨w.heap.size, 3, none⟩ = some (.int .i64 0)) ∧ (w.heap.size < W1.heap.size) ∧ (W1.frozen? ⟨w.heap.size, 0, none⟩ = false) ∧ (W1.frozen? ⟨w.heap.size, 1, none⟩ = false) ∧ (W1.frozen? ⟨w.heap.size, 2, none⟩ = false) ∧ (W1.frozen? ⟨w.heap.size, 3, none⟩ = false) := by
  obtain ⟨W1, hW1⟩ : ∃ W1, W1 = w.alloc (.cells #[.int .i8 0, .int .i64 0, .int .i8 0, .int .i64 0] 45) := ⟨_, rfl⟩
  exact ⟨W1, hW1, (by rw [hW1]; exact (Dn.refl _).alloc _), (by rw [hW1]; simp [go_sem]), (by rw [hW1]; simp [go_sem]), (by rw [hW1]; simp [go_sem]), (by rw [hW1]; simp [go_sem]), (by rw [hW1]; simp <;> omega), (by rw [hW1]; simp [go_sem]), (by rw [hW1]; simp [go_sem]), (by rw [hW1]; simp [go_sem]), (by rw [hW1]; simp [go_sem])⟩
theorem rfP_0 (s : ByteArray) (N : Nat) (hs : s.size ≤ 1000) (i1 d1 r1 i2 d2 r2 m : Int) (HST : Hid (Stop s N)) (hno : ¬ N + 1 < s.size) (hN : N ≤ s.size) (w : World) :
  Calls Tryz.prog 79 #[.string s] w fun ro w' => ro = .returned (.tuple #[.agg #[.int .i8 0, .int .i64 0, .int .i8 0, .int .i64 0], .int .i64 5]) ∧ Dn w w' := by
 go_enter Tryz.func79, Tryz.ntmps79
 go_wp2_with fail
 obtain ⟨W1, hW1, uW1, c2, c3, c4, c5, l6, f7, f8, f9, f10⟩ := preTx77x1 w 
 rw [← hW1]
 clear hW1
 go_loopw [4] (fun av wr => ∃ (k : Nat) (j : Int), j = (k : Int) ∧ av = .int .i64 j ∧ k ≤ N ∧ wr = W1) (fun av _ => N - (intOf av).toNat)
 case atStart => exact ⟨0, 0, rfl, rfl, Nat.zero_le _, rfl⟩
 case round =>
  obtain ⟨k, j, hj, rfl, hkN, hwr⟩ := hrel
  subst hwr
  obtain rfl : j = (k : Int) := hj
  by_cases hk : k < N
  · obtain ⟨hlt, hnd⟩ := HST.out.go k hk
    obtain ⟨k1, hk1⟩ : ∃ k1 : Nat, k1 = k + 1 := ⟨_, rfl⟩
    have hw : IntKind.i64.wrap ((k : Int) + 1) = (k1 : Int) := by rw [IntWalk.i64_in _ (by omega)]; omega
    have b1 : decide ((k1 : Int) < (s.size : Int)) = true := by simp; omega
    have hks : k < s.size := by omega
    have hks1 : k1 < s.size := by omega
    have hki : (k : Int) < (s.size : Int) := by omega
    have hki1 : (k1 : Int) < (s.size : Int) := by omega
    have FIN : k1 ≤ N ∧ N - k1 < N - k := by omega
    have FIN' := Lib.hid FIN
    have HK1 := Lib.hid hk1
    by_cases h46 : s[k] = 46
    · have h47 : s[k1] ≠ 46 := by subst hk1; exact fun e => hnd ⟨h46, e⟩
      have q0 := eq46 hks h46
      have q1 := ne46 hks1 h47
      clear hnd h46 h47 FIN hk1 hlt hk
      go_wp2_with fail
      go_roundw
      case rel => exact ⟨k1, _, rfl, rfl, FIN'.out.1, by simp⟩
      case measure => simp [intOf]; exact FIN'.out.2
    · have q0 := ne46 hks h46
      clear hnd h46 FIN hk1 hlt hk
      go_wp2_with fail
      go_roundw
      case rel => exact ⟨k1, _, rfl, rfl, FIN'.out.1, by simp⟩
      case measure => simp [intOf]; exact FIN'.out.2
  · obtain rfl : k = N := by omega
    clear hk hkN HST
    obtain ⟨k1, hk1⟩ : ∃ k1 : Nat, k1 = k + 1 := ⟨_, rfl⟩
    have hw : IntKind.i64.wrap ((k : Int) + 1) = (k1 : Int) := by rw [IntWalk.i64_in _ (by omega)]; omega
    have b1 : decide ((k1 : Int) < (s.size : Int)) = false := by simp; omega
    have b2 : decide ((s.size : Int) ≤ (k1 : Int)) = true := by simp; omega
    have b3 : ¬ (k1 < s.size) := by omega
    have b4 : s.size ≤ k1 := by omega
    clear hk1 hno
    go_wp2_with fail
    exact bodyPost_ret (v := .tuple #[.agg #[.int .i8 0, .int .i64 0, .int .i8 0, .int .i64 0], .int .i64 5]) (by simp [results, Tryz.results79, go_sem, c2, c3, c4, c5, f7, f8, f9, f10] <;> omega) rfl ⟨rfl, ((((uW1.setCell (by simp <;> omega) _).setCell (by simp <;> omega) _).setCell (by simp <;> omega) _).setCell (by simp <;> omega) _)⟩
theorem rfP_a (s : ByteArray) (N : Nat) (hs : s.size ≤ 1000) (i1 d1 r1 i2 d2 r2 m : Int) (HST : Hid (Stop s N)) (HD : Hid (∃ h : N + 1 < s.size, s[N] = 46 ∧ s[N + 1] = 46)) (HA : Hid (∀ W, Calls Tryz.prog 117 #[.string (s.extract 0 N)] W fun o w' => o = .returned (.tuple #[.agg #[.int .i8 i1, .int .i64 d1], .int .i64 5]) ∧ Dn W w')) (HB : Hid (∀ W, Calls Tryz.prog 117 #[.string (s.extract (N + 2) s.size)] W fun o w' => o = .returned (.tuple #[.agg #[.int .i8 i2, .int .i64 d2], .int .i64 r2]) ∧ Dn W w')) (w : World) :
  Calls Tryz.prog 79 #[.string s] w fun ro w' => ro = .returned (.tuple #[.agg #[.int .i8 0, .int .i64 0, .int .i8 0, .int .i64 0], .int .i64 5]) ∧ Dn w w' := by
 go_enter Tryz.func79, Tryz.ntmps79
 go_wp2_with fail
 obtain ⟨W1, hW1, uW1, c2, c3, c4, c5, l6, f7, f8, f9, f10⟩ := preTx77x1 w 
 rw [← hW1]
 clear hW1
 go_loopw [4] (fun av wr => ∃ (k : Nat) (j : Int), j = (k : Int) ∧ av = .int .i64 j ∧ k ≤ N ∧ wr = W1) (fun av _ => N - (intOf av).toNat)
 case atStart => exact ⟨0, 0, rfl, rfl, Nat.zero_le _, rfl⟩
 case round =>
  obtain ⟨k, j, hj, rfl, hkN, hwr⟩ := hrel
  subst hwr
  obtain rfl : j = (k : Int) := hj
  by_cases hk : k < N
  · obtain ⟨hlt, hnd⟩ := HST.out.go k hk
    obtain ⟨k1, hk1⟩ : ∃ k1 : Nat, k1 = k + 1 := ⟨_, rfl⟩
    have hw : IntKind.i64.wrap ((k : Int) + 1) = (k1 : Int) := by rw [IntWalk.i64_in _ (by omega)]; omega
    have b1 : decide ((k1 : Int) < (s.size : Int)) = true := by simp; omega
    have hks : k < s.size := by omega
    have hks1 : k1 < s.size := by omega
    have hki : (k : Int) < (s.size : Int) := by omega
    have hki1 : (k1 : Int) < (s.size : Int) := by omega
    have FIN : k1 ≤ N ∧ N - k1 < N - k := by omega
    have FIN' := Lib.hid FIN
    have HK1 := Lib.hid hk1
    by_cases h46 : s[k] = 46
    · have h47 : s[k1] ≠ 46 := by subst hk1; exact fun e => hnd ⟨h46, e⟩
      have q0 := eq46 hks h46
      have q1 := ne46 hks1 h47
      clear hnd h46 h47 FIN hk1 hlt hk
      go_wp2_with fail
      go_roundw
      case rel => exact ⟨k1, _, rfl, rfl, FIN'.out.1, by simp⟩
      case measure => simp [intOf]; exact FIN'.out.2
    · have q0 := ne46 hks h46
      clear hnd h46 FIN hk1 hlt hk
      go_wp2_with fail
      go_roundw
      case rel => exact ⟨k1, _, rfl, rfl, FIN'.out.1, by simp⟩
      case measure => simp [intOf]; exact FIN'.out.2
  · obtain rfl : k = N := by omega
    clear hk hkN HST
    obtain ⟨hlt, h46, h47⟩ := HD.out
    obtain ⟨k1, hk1⟩ : ∃ k1 : Nat, k1 = k + 1 := ⟨_, rfl⟩
    obtain ⟨k2, hk2⟩ : ∃ k2 : Nat, k2 = k + 2 := ⟨_, rfl⟩
    have hw : IntKind.i64.wrap ((k : Int) + 1) = (k1 : Int) := by rw [IntWalk.i64_in _ (by omega)]; omega
    have hw2 : IntKind.i64.wrap ((k : Int) + 2) = (k2 : Int) := by rw [IntWalk.i64_in _ (by omega)]; omega
    have b1 : decide ((k1 : Int) < (s.size : Int)) = true := by simp; omega
    have b2 : decide ((s.size : Int) ≤ (k1 : Int)) = false := by simp; omega
    have hks : k < s.size := by omega
    have hks1 : k1 < s.size := by omega
    have hki : (k : Int) < (s.size : Int) := by omega
    have hki1 : (k1 : Int) < (s.size : Int) := by omega
    have hke : (k : Int) ≤ (s.size : Int) := by omega
    have hke2 : (k2 : Int) ≤ (s.size : Int) := by omega
    have q0 := eq46 hks h46
    have q1 : ((s[k1].toNat : Int) != 46) = false := by subst hk1; exact eq46 hlt h47
    have HA := HA
    have HB' : Hid (∀ W, Calls Tryz.prog 117 #[.string (s.extract k2 s.size)] W fun o w' => o = .returned (.tuple #[.agg #[.int .i8 i2, .int .i64 d2], .int .i64 r2]) ∧ Dn W w') := by rw [hk2]; exact HB
    clear hlt h46 h47 hk1 hk2 HB HD
    go_wp2_with fail
    refine (HA.out _).mono ?_
    rintro e w1 ⟨rfl, qw1⟩
    have f11 := (qw1.frozen (a := ⟨w.heap.size, 0, none⟩) l6).trans f7
    have f12 := (qw1.frozen (a := ⟨w.heap.size, 1, none⟩) l6).trans f8
    have f13 := (qw1.frozen (a := ⟨w.heap.size, 2, none⟩) l6).trans f9
    have f14 := (qw1.frozen (a := ⟨w.heap.size, 3, none⟩) l6).trans f10
    have a0 := nlt l6 qw1.size
    obtain ⟨a2, a3, a4, a5⟩ := mv4 qw1.cell c2 c3 c4 c5
    clear f7 f8 f9 f10 l6 c2 c3 c4 c5
    have uw1 := uW1.trans qw1
    clear qw1 uW1
    go_wp2_with fail
    obtain ⟨W20, hW20⟩ : ∃ W20, W20 = w1.alloc (.cells #[.int .i8 i1, .int .i64 d1] 41) := ⟨_, rfl⟩
    have uW20 : Dn w1 W20 := by rw [hW20]; exact (Dn.refl _).alloc _
    have n21 : w.heap.size ≠ w1.heap.size := by have := a0; omega
    have f22 := (uW20.frozen (a := ⟨w.heap.size, 0, none⟩) a0).trans f11
    have f23 := (uW20.frozen (a := ⟨w.heap.size, 1, none⟩) a0).trans f12
    have f24 := (uW20.frozen (a := ⟨w.heap.size, 2, none⟩) a0).trans f13
    have f25 := (uW20.frozen (a := ⟨w.heap.size, 3, none⟩) a0).trans f14
    have a1 := nlt a0 uW20.size
    obtain ⟨a6, a7, a8, a9⟩ := mv4 uW20.cell a2 a3 a4 a5
    clear f11 f12 f13 f14 a0 a2 a3 a4 a5
    have aA : W20.cell? ⟨w1.heap.size, 0, none⟩ = some (.int .i8 i1) := by rw [hW20]; simp [go_sem]
    have aB : W20.cell? ⟨w1.heap.size, 1, none⟩ = some (.int .i64 d1) := by rw [hW20]; simp [go_sem]
    have aC : w1.heap.size < W20.heap.size := by rw [hW20]; simp <;> omega
    rw [← hW20]
    clear hW20
    have vW20 := uw1.trans uW20
    clear uW20 uw1
    refine (HB'.out _).mono ?_
    rintro e w2 ⟨rfl, qw2⟩
    have f34 := (qw2.frozen (a := ⟨w.heap.size, 0, none⟩) a1).trans f22
    have f35 := (qw2.frozen (a := ⟨w.heap.size, 1, none⟩) a1).trans f23
    have f36 := (qw2.frozen (a := ⟨w.heap.size, 2, none⟩) a1).trans f24
    have f37 := (qw2.frozen (a := ⟨w.heap.size, 3, none⟩) a1).trans f25
    have aH := nlt a1 qw2.size
    have aI := nlt aC qw2.size
    obtain ⟨aD, aE, aF, aG, aJ, aK⟩ := mv6 qw2.cell a6 a7 a8 a9 aA aB
    clear f22 f23 f24 f25 a1 a6 a7 a8 a9 aC aA aB
    have uw2 := vW20.trans qw2
    clear qw2 vW20
    go_wp2_with fail
    have hC : C4 w2 (w.heap.size) (.int .i8 0) (.int .i64 0) (.int .i8 0) (.int .i64 0) := ⟨aD, aE, aF, aG, f34, f35, f36, f37, aH⟩
    have hZ := fun o : Obj => (hC.fill (.int .i8 0) (.int .i64 0) (.int .i8 0) (.int .i64 0)).alloc o
    have z0 := fun o : Obj => (hZ o).c0
    have y0 := fun o : Obj => (hZ o).f0
    have z1 := fun o : Obj => (hZ o).c1
    have y1 := fun o : Obj => (hZ o).f1
    have z2 := fun o : Obj => (hZ o).c2
    have y2 := fun o : Obj => (hZ o).f2
    have z3 := fun o : Obj => (hZ o).c3
    have y3 := fun o : Obj => (hZ o).f3
    exact bodyPost_ret (v := .tuple #[.agg #[.int .i8 0, .int .i64 0, .int .i8 0, .int .i64 0], .int .i64 5]) (by simp [results, Tryz.results79, go_sem, z0, z1, z2, z3, y0, y1, y2, y3, aD, aE, aF, aG, f34, f35, f36, f37] <;> omega) rfl ⟨rfl, (((((uw2.setCell (by simp <;> omega) _).setCell (by simp <;> omega) _).setCell (by simp <;> omega) _).setCell (by simp <;> omega) _).alloc _)⟩
theorem rfP_b (s : ByteArray) (N : Nat) (hs : s.size ≤ 1000) (i1 d1 r1 i2 d2 r2 m : Int) (HST : Hid (Stop s N)) (HD : Hid (∃ h : N + 1 < s.size, s[N] = 46 ∧ s[N + 1] = 46)) (HA : Hid (∀ W, Calls Tryz.prog 117 #[.string (s.extract 0 N)] W fun o w' => o = .returned (.tuple #[.agg #[.int .i8 i1, .int .i64 d1], .int .i64 r1]) ∧ Dn W w')) (HB : Hid (∀ W, Calls Tryz.prog 117 #[.string (s.extract (N + 2) s.size)] W fun o w' => o = .returned (.tuple #[.agg #[.int .i8 i2, .int .i64 d2], .int .i64 5]) ∧ Dn W w')) (h1 : r1 ≠ 5) (w : World) :
  Calls Tryz.prog 79 #[.string s] w fun ro w' => ro = .returned (.tuple #[.agg #[.int .i8 0, .int .i64 0, .int .i8 0, .int .i64 0], .int .i64 5]) ∧ Dn w w' := by
 have t1 : (r1 == 5) = false := by simpa using h1
 clear h1
 go_enter Tryz.func79, Tryz.ntmps79
 go_wp2_with fail
 obtain ⟨W1, hW1, uW1, c2, c3, c4, c5, l6, f7, f8, f9, f10⟩ := preTx77x1 w 
 rw [← hW1]
 clear hW1
 go_loopw [4] (fun av wr => ∃ (k : Nat) (j : Int), j = (k : Int) ∧ av = .int .i64 j ∧ k ≤ N ∧ wr = W1) (fun av _ => N - (intOf av).toNat)
 case atStart => exact ⟨0, 0, rfl, rfl, Nat.zero_le _, rfl⟩
 case round =>
  obtain ⟨k, j, hj, rfl, hkN, hwr⟩ := hrel
  subst hwr
  obtain rfl : j = (k : Int) := hj
  by_cases hk : k < N
  · obtain ⟨hlt, hnd⟩ := HST.out.go k hk
    obtain ⟨k1, hk1⟩ : ∃ k1 : Nat, k1 = k + 1 := ⟨_, rfl⟩
    have hw : IntKind.i64.wrap ((k : Int) + 1) = (k1 : Int) := by rw [IntWalk.i64_in _ (by omega)]; omega
    have b1 : decide ((k1 : Int) < (s.size : Int)) = true := by simp; omega
    have hks : k < s.size := by omega
    have hks1 : k1 < s.size := by omega
    have hki : (k : Int) < (s.size : Int) := by omega
    have hki1 : (k1 : Int) < (s.size : Int) := by omega
    have FIN : k1 ≤ N ∧ N - k1 < N - k := by omega
    have FIN' := Lib.hid FIN
    have HK1 := Lib.hid hk1
    by_cases h46 : s[k] = 46
    · have h47 : s[k1] ≠ 46 := by subst hk1; exact fun e => hnd ⟨h46, e⟩
      have q0 := eq46 hks h46
      have q1 := ne46 hks1 h47
      clear hnd h46 h47 FIN hk1 hlt hk
      go_wp2_with fail
      go_roundw
      case rel => exact ⟨k1, _, rfl, rfl, FIN'.out.1, by simp⟩
      case measure => simp [intOf]; exact FIN'.out.2
    · have q0 := ne46 hks h46
      clear hnd h46 FIN hk1 hlt hk
      go_wp2_with fail
      go_roundw
      case rel => exact ⟨k1, _, rfl, rfl, FIN'.out.1, by simp⟩
      case measure => simp [intOf]; exact FIN'.out.2
  · obtain rfl : k = N := by omega
    clear hk hkN HST
    obtain ⟨hlt, h46, h47⟩ := HD.out
    obtain ⟨k1, hk1⟩ : ∃ k1 : Nat, k1 = k + 1 := ⟨_, rfl⟩
    obtain ⟨k2, hk2⟩ : ∃ k2 : Nat, k2 = k + 2 := ⟨_, rfl⟩
    have hw : IntKind.i64.wrap ((k : Int) + 1) = (k1 : Int) := by rw [IntWalk.i64_in _ (by omega)]; omega
    have hw2 : IntKind.i64.wrap ((k : Int) + 2) = (k2 : Int) := by rw [IntWalk.i64_in _ (by omega)]; omega
    have b1 : decide ((k1 : Int) < (s.size : Int)) = true := by simp; omega
    have b2 : decide ((s.size : Int) ≤ (k1 : Int)) = false := by simp; omega
    have hks : k < s.size := by omega
    have hks1 : k1 < s.size := by omega
    have hki : (k : Int) < (s.size : Int) := by omega
    have hki1 : (k1 : Int) < (s.size : Int) := by omega
    have hke : (k : Int) ≤ (s.size : Int) := by omega
    have hke2 : (k2 : Int) ≤ (s.size : Int) := by omega
    have q0 := eq46 hks h46
    have q1 : ((s[k1].toNat : Int) != 46) = false := by subst hk1; exact eq46 hlt h47
    have HA := HA
    have HB' : Hid (∀ W, Calls Tryz.prog 117 #[.string (s.extract k2 s.size)] W fun o w' => o = .returned (.tuple #[.agg #[.int .i8 i2, .int .i64 d2], .int .i64 5]) ∧ Dn W w') := by rw [hk2]; exact HB
    clear hlt h46 h47 hk1 hk2 HB HD
    go_wp2_with fail
    refine (HA.out _).mono ?_
    rintro e w1 ⟨rfl, qw1⟩
    have f11 := (qw1.frozen (a := ⟨w.heap.size, 0, none⟩) l6).trans f7
    have f12 := (qw1.frozen (a := ⟨w.heap.size, 1, none⟩) l6).trans f8
    have f13 := (qw1.frozen (a := ⟨w.heap.size, 2, none⟩) l6).trans f9
    have f14 := (qw1.frozen (a := ⟨w.heap.size, 3, none⟩) l6).trans f10
    have a0 := nlt l6 qw1.size
    obtain ⟨a2, a3, a4, a5⟩ := mv4 qw1.cell c2 c3 c4 c5
    clear f7 f8 f9 f10 l6 c2 c3 c4 c5
    have uw1 := uW1.trans qw1
    clear qw1 uW1
    go_wp2_with fail
    obtain ⟨W20, hW20⟩ : ∃ W20, W20 = w1.alloc (.cells #[.int .i8 i1, .int .i64 d1] 41) := ⟨_, rfl⟩
    have uW20 : Dn w1 W20 := by rw [hW20]; exact (Dn.refl _).alloc _
    have n21 : w.heap.size ≠ w1.heap.size := by have := a0; omega
    have f22 := (uW20.frozen (a := ⟨w.heap.size, 0, none⟩) a0).trans f11
    have f23 := (uW20.frozen (a := ⟨w.heap.size, 1, none⟩) a0).trans f12
    have f24 := (uW20.frozen (a := ⟨w.heap.size, 2, none⟩) a0).trans f13
    have f25 := (uW20.frozen (a := ⟨w.heap.size, 3, none⟩) a0).trans f14
    have a1 := nlt a0 uW20.size
    obtain ⟨a6, a7, a8, a9⟩ := mv4 uW20.cell a2 a3 a4 a5
    clear f11 f12 f13 f14 a0 a2 a3 a4 a5
    have aA : W20.cell? ⟨w1.heap.size, 0, none⟩ = some (.int .i8 i1) := by rw [hW20]; simp [go_sem]
    have aB : W20.cell? ⟨w1.heap.size, 1, none⟩ = some (.int .i64 d1) := by rw [hW20]; simp [go_sem]
    have aC : w1.heap.size < W20.heap.size := by rw [hW20]; simp <;> omega
    rw [← hW20]
    clear hW20
    have vW20 := uw1.trans uW20
    clear uW20 uw1
    refine (HB'.out _).mono ?_
    rintro e w2 ⟨rfl, qw2⟩
    have f34 := (qw2.frozen (a := ⟨w.heap.size, 0, none⟩) a1).trans f22
    have f35 := (qw2.frozen (a := ⟨w.heap.size, 1, none⟩) a1).trans f23
    have f36 := (qw2.frozen (a := ⟨w.heap.size, 2, none⟩) a1).trans f24
    have f37 := (qw2.frozen (a := ⟨w.heap.size, 3, none⟩) a1).trans f25
    have aH := nlt a1 qw2.size
    have aI := nlt aC qw2.size
    obtain ⟨aD, aE, aF, aG, aJ, aK⟩ := mv6 qw2.cell a6 a7 a8 a9 aA aB
    clear f22 f23 f24 f25 a1 a6 a7 a8 a9 aC aA aB
    have uw2 := vW20.trans qw2
    clear qw2 vW20
    go_wp2_with fail
    have hC : C4 w2 (w.heap.size) (.int .i8 0) (.int .i64 0) (.int .i8 0) (.int .i64 0) := ⟨aD, aE, aF, aG, f34, f35, f36, f37, aH⟩
    have hZ := fun o : Obj => (hC.fill (.int .i8 0) (.int .i64 0) (.int .i8 0) (.int .i64 0)).alloc o
    have z0 := fun o : Obj => (hZ o).c0
    have y0 := fun o : Obj => (hZ o).f0
    have z1 := fun o : Obj => (hZ o).c1
    have y1 := fun o : Obj => (hZ o).f1
    have z2 := fun o : Obj => (hZ o).c2
    have y2 := fun o : Obj => (hZ o).f2
    have z3 := fun o : Obj => (hZ o).c3
    have y3 := fun o : Obj => (hZ o).f3
    exact bodyPost_ret (v := .tuple #[.agg #[.int .i8 0, .int .i64 0, .int .i8 0, .int .i64 0], .int .i64 5]) (by simp [results, Tryz.results79, go_sem, z0, z1, z2, z3, y0, y1, y2, y3, aD, aE, aF, aG, f34, f35, f36, f37] <;> omega) rfl ⟨rfl, (((((uw2.setCell (by simp <;> omega) _).setCell (by simp <;> omega) _).setCell (by simp <;> omega) _).setCell (by simp <;> omega) _).alloc _)⟩
theorem rfP_c (s : ByteArray) (N : Nat) (hs : s.size ≤ 1000) (i1 d1 r1 i2 d2 r2 m : Int) (HST : Hid (Stop s N)) (HD : Hid (∃ h : N + 1 < s.size, s[N] = 46 ∧ s[N + 1] = 46)) (HA : Hid (∀ W, Calls Tryz.prog 117 #[.string (s.extract 0 N)] W fun o w' => o = .returned (.tuple #[.agg #[.int .i8 i1, .int .i64 d1], .int .i64 r1]) ∧ Dn W w')) (HB : Hid (∀ W, Calls Tryz.prog 117 #[.string (s.extract (N + 2) s.size)] W fun o w' => o = .returned (.tuple #[.agg #[.int .i8 i2, .int .i64 d2], .int .i64 r2]) ∧ Dn W w')) (h1 : r1 ≠ 5) (h2 : r2 ≠ 5) (h3 : r1 ≠ 0) (w : World) :
  Calls Tryz.prog 79 #[.string s] w fun ro w' => ro = .returned (.tuple #[.agg #[.int .i8 0, .int .i64 0, .int .i8 0, .int .i64 0], .int .i64 15]) ∧ Dn w w' := by
 have t1 : (r1 == 5) = false := by simpa using h1
 have t2 : (r2 == 5) = false := by simpa using h2
 have t3 : (r1 != 0) = true := by simpa using h3
 clear h1 h2 h3
 go_enter Tryz.func79, Tryz.ntmps79
 go_wp2_with fail
 obtain ⟨W1, hW1, uW1, c2, c3, c4, c5, l6, f7, f8, f9, f10⟩ := preTx77x1 w 
 rw [← hW1]
 clear hW1
 go_loopw [4] (fun av wr => ∃ (k : Nat) (j : Int), j = (k : Int) ∧ av = .int .i64 j ∧ k ≤ N ∧ wr = W1) (fun av _ => N - (intOf av).toNat)
 case atStart => exact ⟨0, 0, rfl, rfl, Nat.zero_le _, rfl⟩
 case round =>
  obtain ⟨k, j, hj, rfl, hkN, hwr⟩ := hrel
  subst hwr
  obtain rfl : j = (k : Int) := hj
  by_cases hk : k < N
  · obtain ⟨hlt, hnd⟩ := HST.out.go k hk
    obtain ⟨k1, hk1⟩ : ∃ k1 : Nat, k1 = k + 1 := ⟨_, rfl⟩
    have hw : IntKind.i64.wrap ((k : Int) + 1) = (k1 : Int) := by rw [IntWalk.i64_in _ (by omega)]; omega
    have b1 : decide ((k1 : Int) < (s.size : Int)) = true := by simp; omega
    have hks : k < s.size := by omega
    have hks1 : k1 < s.size := by omega
    have hki : (k : Int) < (s.size : Int) := by omega
    have hki1 : (k1 : Int) < (s.size : Int) := by omega
    have FIN : k1 ≤ N ∧ N - k1 < N - k := by omega
    have FIN' := Lib.hid FIN
    have HK1 := Lib.hid hk1
    by_cases h46 : s[k] = 46
    · have h47 : s[k1] ≠ 46 := by subst hk1; exact fun e => hnd ⟨h46, e⟩
      have q0 := eq46 hks h46
      have q1 := ne46 hks1 h47
      clear hnd h46 h47 FIN hk1 hlt hk
      go_wp2_with fail
      go_roundw
      case rel => exact ⟨k1, _, rfl, rfl, FIN'.out.1, by simp⟩
      case measure => simp [intOf]; exact FIN'.out.2
    · have q0 := ne46 hks h46
      clear hnd h46 FIN hk1 hlt hk
      go_wp2_with fail
      go_roundw
      case rel => exact ⟨k1, _, rfl, rfl, FIN'.out.1, by simp⟩
      case measure => simp [intOf]; exact FIN'.out.2
  · obtain rfl : k = N := by omega
    clear hk hkN HST
    obtain ⟨hlt, h46, h47⟩ := HD.out
    obtain ⟨k1, hk1⟩ : ∃ k1 : Nat, k1 = k + 1 := ⟨_, rfl⟩
    obtain ⟨k2, hk2⟩ : ∃ k2 : Nat, k2 = k + 2 := ⟨_, rfl⟩
    have hw : IntKind.i64.wrap ((k : Int) + 1) = (k1 : Int) := by rw [IntWalk.i64_in _ (by omega)]; omega
    have hw2 : IntKind.i64.wrap ((k : Int) + 2) = (k2 : Int) := by rw [IntWalk.i64_in _ (by omega)]; omega
    have b1 : decide ((k1 : Int) < (s.size : Int)) = true := by simp; omega
    have b2 : decide ((s.size : Int) ≤ (k1 : Int)) = false := by simp; omega
    have hks : k < s.size := by omega
    have hks1 : k1 < s.size := by omega
    have hki : (k : Int) < (s.size : Int) := by omega
    have hki1 : (k1 : Int) < (s.size : Int) := by omega
    have hke : (k : Int) ≤ (s.size : Int) := by omega
    have hke2 : (k2 : Int) ≤ (s.size : Int) := by omega
    have q0 := eq46 hks h46
    have q1 : ((s[k1].toNat : Int) != 46) = false := by subst hk1; exact eq46 hlt h47
    have HA := HA
    have HB' : Hid (∀ W, Calls Tryz.prog 117 #[.string (s.extract k2 s.size)] W fun o w' => o = .returned (.tuple #[.agg #[.int .i8 i2, .int .i64 d2], .int .i64 r2]) ∧ Dn W w') := by rw [hk2]; exact HB
    clear hlt h46 h47 hk1 hk2 HB HD
    go_wp2_with fail
    refine (HA.out _).mono ?_
    rintro e w1 ⟨rfl, qw1⟩
    have f11 := (qw1.frozen (a := ⟨w.heap.size, 0, none⟩) l6).trans f7
    have f12 := (qw1.frozen (a := ⟨w.heap.size, 1, none⟩) l6).trans f8
    have f13 := (qw1.frozen (a := ⟨w.heap.size, 2, none⟩) l6).trans f9
    have f14 := (qw1.frozen (a := ⟨w.heap.size, 3, none⟩) l6).trans f10
    have a0 := nlt l6 qw1.size
    obtain ⟨a2, a3, a4, a5⟩ := mv4 qw1.cell c2 c3 c4 c5
    clear f7 f8 f9 f10 l6 c2 c3 c4 c5
    have uw1 := uW1.trans qw1
    clear qw1 uW1
    go_wp2_with fail
    obtain ⟨W20, hW20⟩ : ∃ W20, W20 = w1.alloc (.cells #[.int .i8 i1, .int .i64 d1] 41) := ⟨_, rfl⟩
    have uW20 : Dn w1 W20 := by rw [hW20]; exact (Dn.refl _).alloc _
    have n21 : w.heap.size ≠ w1.heap.size := by have := a0; omega
    have f22 := (uW20.frozen (a := ⟨w.heap.size, 0, none⟩) a0).trans f11
    have f23 := (uW20.frozen (a := ⟨w.heap.size, 1, none⟩) a0).trans f12
    have f24 := (uW20.frozen (a := ⟨w.heap.size, 2, none⟩) a0).trans f13
    have f25 := (uW20.frozen (a := ⟨w.heap.size, 3, none⟩) a0).trans f14
    have a1 := nlt a0 uW20.size
    obtain ⟨a6, a7, a8, a9⟩ := mv4 uW20.cell a2 a3 a4 a5
    clear f11 f12 f13 f14 a0 a2 a3 a4 a5
    have aA : W20.cell? ⟨w1.heap.size, 0, none⟩ = some (.int .i8 i1) := by rw [hW20]; simp [go_sem]
    have aB : W20.cell? ⟨w1.heap.size, 1, none⟩ = some (.int .i64 d1) := by rw [hW20]; simp [go_sem]
    have aC : w1.heap.size < W20.heap.size := by rw [hW20]; simp <;> omega
    rw [← hW20]
    clear hW20
    have vW20 := uw1.trans uW20
    clear uW20 uw1
    refine (HB'.out _).mono ?_
    rintro e w2 ⟨rfl, qw2⟩
    have f34 := (qw2.frozen (a := ⟨w.heap.size, 0, none⟩) a1).trans f22
    have f35 := (qw2.frozen (a := ⟨w.heap.size, 1, none⟩) a1).trans f23
    have f36 := (qw2.frozen (a := ⟨w.heap.size, 2, none⟩) a1).trans f24
    have f37 := (qw2.frozen (a := ⟨w.heap.size, 3, none⟩) a1).trans f25
    have aH := nlt a1 qw2.size
    have aI := nlt aC qw2.size
    obtain ⟨aD, aE, aF, aG, aJ, aK⟩ := mv6 qw2.cell a6 a7 a8 a9 aA aB
    clear f22 f23 f24 f25 a1 a6 a7 a8 a9 aC aA aB
    have uw2 := vW20.trans qw2
    clear qw2 vW20
    go_wp2_with fail
    have hC : C4 w2 (w.heap.size) (.int .i8 0) (.int .i64 0) (.int .i8 0) (.int .i64 0) := ⟨aD, aE, aF, aG, f34, f35, f36, f37, aH⟩
    have hZ := fun o : Obj => (hC.fill (.int .i8 0) (.int .i64 0) (.int .i8 0) (.int .i64 0)).alloc o
    have z0 := fun o : Obj => (hZ o).c0
    have y0 := fun o : Obj => (hZ o).f0
    have z1 := fun o : Obj => (hZ o).c1
    have y1 := fun o : Obj => (hZ o).f1
    have z2 := fun o : Obj => (hZ o).c2
    have y2 := fun o : Obj => (hZ o).f2
    have z3 := fun o : Obj => (hZ o).c3
    have y3 := fun o : Obj => (hZ o).f3
    exact bodyPost_ret (v := .tuple #[.agg #[.int .i8 0, .int .i64 0, .int .i8 0, .int .i64 0], .int .i64 15]) (by simp [results, Tryz.results79, go_sem, z0, z1, z2, z3, y0, y1, y2, y3, aD, aE, aF, aG, f34, f35, f36, f37] <;> omega) rfl ⟨rfl, (((((uw2.setCell (by simp <;> omega) _).setCell (by simp <;> omega) _).setCell (by simp <;> omega) _).setCell (by simp <;> omega) _).alloc _)⟩
theorem rfP_d (s : ByteArray) (N : Nat) (hs : s.size ≤ 1000) (i1 d1 r1 i2 d2 r2 m : Int) (HST : Hid (Stop s N)) (HD : Hid (∃ h : N + 1 < s.size, s[N] = 46 ∧ s[N + 1] = 46)) (HA : Hid (∀ W, Calls Tryz.prog 117 #[.string (s.extract 0 N)] W fun o w' => o = .returned (.tuple #[.agg #[.int .i8 i1, .int .i64 d1], .int .i64 0]) ∧ Dn W w')) (HB : Hid (∀ W, Calls Tryz.prog 117 #[.string (s.extract (N + 2) s.size)] W fun o w' => o = .returned (.tuple #[.agg #[.int .i8 i2, .int .i64 d2], .int .i64 r2]) ∧ Dn W w')) (h1 : r2 ≠ 5) (h2 : r2 ≠ 0) (w : World) :
  Calls Tryz.prog 79 #[.string s] w fun ro w' => ro = .returned (.tuple #[.agg #[.int .i8 0, .int .i64 0, .int .i8 0, .int .i64 0], .int .i64 15]) ∧ Dn w w' := by
 have t1 : (r2 == 5) = false := by simpa using h1
 have t2 : (r2 != 0) = true := by simpa using h2
 clear h1 h2
 go_enter Tryz.func79, Tryz.ntmps79
 go_wp2_with fail
 obtain ⟨W1, hW1, uW1, c2, c3, c4, c5, l6, f7, f8, f9, f10⟩ := preTx77x1 w 
 rw [← hW1]
 clear hW1
 go_loopw [4] (fun av wr => ∃ (k : Nat) (j : Int), j = (k : Int) ∧ av = .int .i64 j ∧ k ≤ N ∧ wr = W1) (fun av _ => N - (intOf av).toNat)
 case atStart => exact ⟨0, 0, rfl, rfl, Nat.zero_le _, rfl⟩
 case round =>
  obtain ⟨k, j, hj, rfl, hkN, hwr⟩ := hrel
  subst hwr
  obtain rfl : j = (k : Int) := hj
  by_cases hk : k < N
  · obtain ⟨hlt, hnd⟩ := HST.out.go k hk
    obtain ⟨k1, hk1⟩ : ∃ k1 : Nat, k1 = k + 1 := ⟨_, rfl⟩
    have hw : IntKind.i64.wrap ((k : Int) + 1) = (k1 : Int) := by rw [IntWalk.i64_in _ (by omega)]; omega
    have b1 : decide ((k1 : Int) < (s.size : Int)) = true := by simp; omega
    have hks : k < s.size := by omega
    have hks1 : k1 < s.size := by omega
    have hki : (k : Int) < (s.size : Int) := by omega
    have hki1 : (k1 : Int) < (s.size : Int) := by omega
    have FIN : k1 ≤ N ∧ N - k1 < N - k := by omega
    have FIN' := Lib.hid FIN
    have HK1 := Lib.hid hk1
    by_cases h46 : s[k] = 46
    · have h47 : s[k1] ≠ 46 := by subst hk1; exact fun e => hnd ⟨h46, e⟩
      have q0 := eq46 hks h46
      have q1 := ne46 hks1 h47
      clear hnd h46 h47 FIN hk1 hlt hk
      go_wp2_with fail
      go_roundw
      case rel => exact ⟨k1, _, rfl, rfl, FIN'.out.1, by simp⟩
      case measure => simp [intOf]; exact FIN'.out.2
    · have q0 := ne46 hks h46
      clear hnd h46 FIN hk1 hlt hk
      go_wp2_with fail
      go_roundw
      case rel => exact ⟨k1, _, rfl, rfl, FIN'.out.1, by simp⟩
      case measure => simp [intOf]; exact FIN'.out.2
  · obtain rfl : k = N := by omega
    clear hk hkN HST
    obtain ⟨hlt, h46, h47⟩ := HD.out
    obtain ⟨k1, hk1⟩ : ∃ k1 : Nat, k1 = k + 1 := ⟨_, rfl⟩
    obtain ⟨k2, hk2⟩ : ∃ k2 : Nat, k2 = k + 2 := ⟨_, rfl⟩
    have hw : IntKind.i64.wrap ((k : Int) + 1) = (k1 : Int) := by rw [IntWalk.i64_in _ (by omega)]; omega
    have hw2 : IntKind.i64.wrap ((k : Int) + 2) = (k2 : Int) := by rw [IntWalk.i64_in _ (by omega)]; omega
    have b1 : decide ((k1 : Int) < (s.size : Int)) = true := by simp; omega
    have b2 : decide ((s.size : Int) ≤ (k1 : Int)) = false := by simp; omega
    have hks : k < s.size := by omega
    have hks1 : k1 < s.size := by omega
    have hki : (k : Int) < (s.size : Int) := by omega
    have hki1 : (k1 : Int) < (s.size : Int) := by omega
    have hke : (k : Int) ≤ (s.size : Int) := by omega
    have hke2 : (k2 : Int) ≤ (s.size : Int) := by omega
    have q0 := eq46 hks h46
    have q1 : ((s[k1].toNat : Int) != 46) = false := by subst hk1; exact eq46 hlt h47
    have HA := HA
    have HB' : Hid (∀ W, Calls Tryz.prog 117 #[.string (s.extract k2 s.size)] W fun o w' => o = .returned (.tuple #[.agg #[.int .i8 i2, .int .i64 d2], .int .i64 r2]) ∧ Dn W w') := by rw [hk2]; exact HB
    clear hlt h46 h47 hk1 hk2 HB HD
    go_wp2_with fail
    refine (HA.out _).mono ?_
    rintro e w1 ⟨rfl, qw1⟩
    have f11 := (qw1.frozen (a := ⟨w.heap.size, 0, none⟩) l6).trans f7
    have f12 := (qw1.frozen (a := ⟨w.heap.size, 1, none⟩) l6).trans f8
    have f13 := (qw1.frozen (a := ⟨w.heap.size, 2, none⟩) l6).trans f9
    have f14 := (qw1.frozen (a := ⟨w.heap.size, 3, none⟩) l6).trans f10
    have a0 := nlt l6 qw1.size
    obtain ⟨a2, a3, a4, a5⟩ := mv4 qw1.cell c2 c3 c4 c5
    clear f7 f8 f9 f10 l6 c2 c3 c4 c5
    have uw1 := uW1.trans qw1
    clear qw1 uW1
    go_wp2_with fail
    obtain ⟨W20, hW20⟩ : ∃ W20, W20 = w1.alloc (.cells #[.int .i8 i1, .int .i64 d1] 41) := ⟨_, rfl⟩
    have uW20 : Dn w1 W20 := by rw [hW20]; exact (Dn.refl _).alloc _
    have n21 : w.heap.size ≠ w1.heap.size := by have := a0; omega
    have f22 := (uW20.frozen (a := ⟨w.heap.size, 0, none⟩) a0).trans f11
    have f23 := (uW20.frozen (a := ⟨w.heap.size, 1, none⟩) a0).trans f12
    have f24 := (uW20.frozen (a := ⟨w.heap.size, 2, none⟩) a0).trans f13
    have f25 := (uW20.frozen (a := ⟨w.heap.size, 3, none⟩) a0).trans f14
    have a1 := nlt a0 uW20.size
    obtain ⟨a6, a7, a8, a9⟩ := mv4 uW20.cell a2 a3 a4 a5
    clear f11 f12 f13 f14 a0 a2 a3 a4 a5
    have aA : W20.cell? ⟨w1.heap.size, 0, none⟩ = some (.int .i8 i1) := by rw [hW20]; simp [go_sem]
    have aB : W20.cell? ⟨w1.heap.size, 1, none⟩ = some (.int .i64 d1) := by rw [hW20]; simp [go_sem]
    have aC : w1.heap.size < W20.heap.size := by rw [hW20]; simp <;> omega
    rw [← hW20]
    clear hW20
    have vW20 := uw1.trans uW20
    clear uW20 uw1
    refine (HB'.out _).mono ?_
    rintro e w2 ⟨rfl, qw2⟩
    have f34 := (qw2.frozen (a := ⟨w.heap.size, 0, none⟩) a1).trans f22
    have f35 := (qw2.frozen (a := ⟨w.heap.size, 1, none⟩) a1).trans f23
    have f36 := (qw2.frozen (a := ⟨w.heap.size, 2, none⟩) a1).trans f24
    have f37 := (qw2.frozen (a := ⟨w.heap.size, 3, none⟩) a1).trans f25
    have aH := nlt a1 qw2.size
    have aI := nlt aC qw2.size
    obtain ⟨aD, aE, aF, aG, aJ, aK⟩ := mv6 qw2.cell a6 a7 a8 a9 aA aB
    clear f22 f23 f24 f25 a1 a6 a7 a8 a9 aC aA aB
    have uw2 := vW20.trans qw2
    clear qw2 vW20
    go_wp2_with fail
    have hC : C4 w2 (w.heap.size) (.int .i8 0) (.int .i64 0) (.int .i8 0) (.int .i64 0) := ⟨aD, aE, aF, aG, f34, f35, f36, f37, aH⟩
    have hZ := fun o : Obj => (hC.fill (.int .i8 0) (.int .i64 0) (.int .i8 0) (.int .i64 0)).alloc o
    have z0 := fun o : Obj => (hZ o).c0
    have y0 := fun o : Obj => (hZ o).f0
    have z1 := fun o : Obj => (hZ o).c1
    have y1 := fun o : Obj => (hZ o).f1
    have z2 := fun o : Obj => (hZ o).c2
    have y2 := fun o : Obj => (hZ o).f2
    have z3 := fun o : Obj => (hZ o).c3
    have y3 := fun o : Obj => (hZ o).f3
    exact bodyPost_ret (v := .tuple #[.agg #[.int .i8 0, .int .i64 0, .int .i8 0, .int .i64 0], .int .i64 15]) (by simp [results, Tryz.results79, go_sem, z0, z1, z2, z3, y0, y1, y2, y3, aD, aE, aF, aG, f34, f35, f36, f37] <;> omega) rfl ⟨rfl, (((((uw2.setCell (by simp <;> omega) _).setCell (by simp <;> omega) _).setCell (by simp <;> omega) _).setCell (by simp <;> omega) _).alloc _)⟩
theorem rfP_e (s : ByteArray) (N : Nat) (hs : s.size ≤ 1000) (i1 d1 r1 i2 d2 r2 m : Int) (HST : Hid (Stop s N)) (HD : Hid (∃ h : N + 1 < s.size, s[N] = 46 ∧ s[N + 1] = 46)) (HA : Hid (∀ W, Calls Tryz.prog 117 #[.string (s.extract 0 N)] W fun o w' => o = .returned (.tuple #[.agg #[.int .i8 i1, .int .i64 d1], .int .i64 0]) ∧ Dn W w')) (HB : Hid (∀ W, Calls Tryz.prog 117 #[.string (s.extract (N + 2) s.size)] W fun o w' => o = .returned (.tuple #[.agg #[.int .i8 i2, .int .i64 d2], .int .i64 0]) ∧ Dn W w')) (HC : Hid (∀ W, Calls Tryz.prog 44 #[.agg #[.int .i8 i1, .int .i64 d1, .int .i8 i2, .int .i64 d2]] W fun o w' => o = .returned (.int .i64 m) ∧ Dn W w')) (h1 : m ≠ 0) (w : World) :
  Calls Tryz.prog 79 #[.string s] w fun ro w' => ro = .returned (.tuple #[.agg #[.int .i8 0, .int .i64 0, .int .i8 0, .int .i64 0], .int .i64 m]) ∧ Dn w w' := by
 have t1 : (m != 0) = true := by simpa using h1
 clear h1
 go_enter Tryz.func79, Tryz.ntmps79
 go_wp2_with fail
 obtain ⟨W1, hW1, uW1, c2, c3, c4, c5, l6, f7, f8, f9, f10⟩ := preTx77x1 w 
 rw [← hW1]
 clear hW1
 go_loopw [4] (fun av wr => ∃ (k : Nat) (j : Int), j = (k : Int) ∧ av = .int .i64 j ∧ k ≤ N ∧ wr = W1) (fun av _ => N - (intOf av).toNat)
 case atStart => exact ⟨0, 0, rfl, rfl, Nat.zero_le _, rfl⟩
 case round =>
  obtain ⟨k, j, hj, rfl, hkN, hwr⟩ := hrel
  subst hwr
  obtain rfl : j = (k : Int) := hj
  by_cases hk : k < N
  · obtain ⟨hlt, hnd⟩ := HST.out.go k hk
    obtain ⟨k1, hk1⟩ : ∃ k1 : Nat, k1 = k + 1 := ⟨_, rfl⟩
    have hw : IntKind.i64.wrap ((k : Int) + 1) = (k1 : Int) := by rw [IntWalk.i64_in _ (by omega)]; omega
    have b1 : decide ((k1 : Int) < (s.size : Int)) = true := by simp; omega
    have hks : k < s.size := by omega
    have hks1 : k1 < s.size := by omega
    have hki : (k : Int) < (s.size : Int) := by omega
    have hki1 : (k1 : Int) < (s.size : Int) := by omega
    have FIN : k1 ≤ N ∧ N - k1 < N - k := by omega
    have FIN' := Lib.hid FIN
    have HK1 := Lib.hid hk1
    by_cases h46 : s[k] = 46
    · have h47 : s[k1] ≠ 46 := by subst hk1; exact fun e => hnd ⟨h46, e⟩
      have q0 := eq46 hks h46
      have q1 := ne46 hks1 h47
      clear hnd h46 h47 FIN hk1 hlt hk
      go_wp2_with fail
      go_roundw
      case rel => exact ⟨k1, _, rfl, rfl, FIN'.out.1, by simp⟩
      case measure => simp [intOf]; exact FIN'.out.2
    · have q0 := ne46 hks h46
      clear hnd h46 FIN hk1 hlt hk
      go_wp2_with fail
      go_roundw
      case rel => exact ⟨k1, _, rfl, rfl, FIN'.out.1, by simp⟩
      case measure => simp [intOf]; exact FIN'.out.2
  · obtain rfl : k = N := by omega
    clear hk hkN HST
    obtain ⟨hlt, h46, h47⟩ := HD.out
    obtain ⟨k1, hk1⟩ : ∃ k1 : Nat, k1 = k + 1 := ⟨_, rfl⟩
    obtain ⟨k2, hk2⟩ : ∃ k2 : Nat, k2 = k + 2 := ⟨_, rfl⟩
    have hw : IntKind.i64.wrap ((k : Int) + 1) = (k1 : Int) := by rw [IntWalk.i64_in _ (by omega)]; omega
    have hw2 : IntKind.i64.wrap ((k : Int) + 2) = (k2 : Int) := by rw [IntWalk.i64_in _ (by omega)]; omega
    have b1 : decide ((k1 : Int) < (s.size : Int)) = true := by simp; omega
    have b2 : decide ((s.size : Int) ≤ (k1 : Int)) = false := by simp; omega
    have hks : k < s.size := by omega
    have hks1 : k1 < s.size := by omega
    have hki : (k : Int) < (s.size : Int) := by omega
    have hki1 : (k1 : Int) < (s.size : Int) := by omega
    have hke : (k : Int) ≤ (s.size : Int) := by omega
    have hke2 : (k2 : Int) ≤ (s.size : Int) := by omega
    have q0 := eq46 hks h46
    have q1 : ((s[k1].toNat : Int) != 46) = false := by subst hk1; exact eq46 hlt h47
    have HA := HA
    have HB' : Hid (∀ W, Calls Tryz.prog 117 #[.string (s.extract k2 s.size)] W fun o w' => o = .returned (.tuple #[.agg #[.int .i8 i2, .int .i64 d2], .int .i64 0]) ∧ Dn W w') := by rw [hk2]; exact HB
    clear hlt h46 h47 hk1 hk2 HB HD
    go_wp2_with fail
    refine (HA.out _).mono ?_
    rintro e w1 ⟨rfl, qw1⟩
    have f11 := (qw1.frozen (a := ⟨w.heap.size, 0, none⟩) l6).trans f7
    have f12 := (qw1.frozen (a := ⟨w.heap.size, 1, none⟩) l6).trans f8
    have f13 := (qw1.frozen (a := ⟨w.heap.size, 2, none⟩) l6).trans f9
    have f14 := (qw1.frozen (a := ⟨w.heap.size, 3, none⟩) l6).trans f10
    have a1 := nlt l6 qw1.size
    obtain ⟨a5, a6, a7, a8⟩ := mv4 qw1.cell c2 c3 c4 c5
    clear f7 f8 f9 f10 l6 c2 c3 c4 c5
    have uw1 := uW1.trans qw1
    clear qw1 uW1
    go_wp2_with fail
    obtain ⟨W20, hW20⟩ : ∃ W20, W20 = w1.alloc (.cells #[.int .i8 i1, .int .i64 d1] 41) := ⟨_, rfl⟩
    have uW20 : Dn w1 W20 := by rw [hW20]; exact (Dn.refl _).alloc _
    have n21 : w.heap.size ≠ w1.heap.size := by have := a1; omega
    have f22 := (uW20.frozen (a := ⟨w.heap.size, 0, none⟩) a1).trans f11
    have f23 := (uW20.frozen (a := ⟨w.heap.size, 1, none⟩) a1).trans f12
    have f24 := (uW20.frozen (a := ⟨w.heap.size, 2, none⟩) a1).trans f13
    have f25 := (uW20.frozen (a := ⟨w.heap.size, 3, none⟩) a1).trans f14
    have a2 := nlt a1 uW20.size
    obtain ⟨a9, aA, aB, aC⟩ := mv4 uW20.cell a5 a6 a7 a8
    clear f11 f12 f13 f14 a1 a5 a6 a7 a8
    have aD : W20.cell? ⟨w1.heap.size, 0, none⟩ = some (.int .i8 i1) := by rw [hW20]; simp [go_sem]
    have aE : W20.cell? ⟨w1.heap.size, 1, none⟩ = some (.int .i64 d1) := by rw [hW20]; simp [go_sem]
    have aF : w1.heap.size < W20.heap.size := by rw [hW20]; simp <;> omega
    rw [← hW20]
    clear hW20
    have vW20 := uw1.trans uW20
    clear uW20 uw1
    refine (HB'.out _).mono ?_
    rintro e w2 ⟨rfl, qw2⟩
    have f34 := (qw2.frozen (a := ⟨w.heap.size, 0, none⟩) a2).trans f22
    have f35 := (qw2.frozen (a := ⟨w.heap.size, 1, none⟩) a2).trans f23
    have f36 := (qw2.frozen (a := ⟨w.heap.size, 2, none⟩) a2).trans f24
    have f37 := (qw2.frozen (a := ⟨w.heap.size, 3, none⟩) a2).trans f25
    have a0 := nlt a2 qw2.size
    have aK := nlt aF qw2.size
    obtain ⟨aG, aH, aI, aJ, aL, aM⟩ := mv6 qw2.cell a9 aA aB aC aD aE
    clear f22 f23 f24 f25 a2 a9 aA aB aC aF aD aE
    have uw2 := vW20.trans qw2
    clear qw2 vW20
    go_wp2_with fail
    obtain ⟨W46, hW46⟩ : ∃ W46, W46 = (w2.alloc (.cells #[.int .i8 i2, .int .i64 d2] 41)).alloc (.cells #[.int .i8 i1, .int .i64 d1, .int .i8 i2, .int .i64 d2] 45) := ⟨_, rfl⟩
    have uW46 : Dn w2 W46 := by rw [hW46]; exact ((Dn.refl _).alloc _).alloc _
    have n47 : w.heap.size ≠ w2.heap.size := by have := a0; omega
    have n48 : w.heap.size ≠ w2.heap.size + 1 := by have := a0; omega
    have f49 := (uW46.frozen (a := ⟨w.heap.size, 0, none⟩) a0).trans f34
    have f50 := (uW46.frozen (a := ⟨w.heap.size, 1, none⟩) a0).trans f35
    have f51 := (uW46.frozen (a := ⟨w.heap.size, 2, none⟩) a0).trans f36
    have f52 := (uW46.frozen (a := ⟨w.heap.size, 3, none⟩) a0).trans f37
    have a3 := nlt a0 uW46.size
    have aR := nlt aK uW46.size
    obtain ⟨aN, aO, aP, aQ, aS, aT⟩ := mv6 uW46.cell aG aH aI aJ aL aM
    clear f34 f35 f36 f37 a0 aG aH aI aJ aK aL aM
    have aU : W46.cell? ⟨w2.heap.size, 0, none⟩ = some (.int .i8 i2) := by rw [hW46]; simp [go_sem]
    have aV : W46.cell? ⟨w2.heap.size, 1, none⟩ = some (.int .i64 d2) := by rw [hW46]; simp [go_sem]
    have aW : w2.heap.size < W46.heap.size := by rw [hW46]; simp <;> omega
    have aX : W46.cell? ⟨w2.heap.size + 1, 0, none⟩ = some (.int .i8 i1) := by rw [hW46]; simp [go_sem]
    have aY : W46.cell? ⟨w2.heap.size + 1, 1, none⟩ = some (.int .i64 d1) := by rw [hW46]; simp [go_sem]
    have aZ : W46.cell? ⟨w2.heap.size + 1, 2, none⟩ = some (.int .i8 i2) := by rw [hW46]; simp [go_sem]
    have b0 : W46.cell? ⟨w2.heap.size + 1, 3, none⟩ = some (.int .i64 d2) := by rw [hW46]; simp [go_sem]
    have b3 : w2.heap.size + 1 < W46.heap.size := by rw [hW46]; simp <;> omega
    rw [← hW46]
    clear hW46
    have vW46 := uw2.trans uW46
    clear uW46 uw2
    refine (HC.out _).mono ?_
    rintro e w3 ⟨rfl, qw3⟩
    have f69 := (qw3.frozen (a := ⟨w.heap.size, 0, none⟩) a3).trans f49
    have f70 := (qw3.frozen (a := ⟨w.heap.size, 1, none⟩) a3).trans f50
    have f71 := (qw3.frozen (a := ⟨w.heap.size, 2, none⟩) a3).trans f51
    have f72 := (qw3.frozen (a := ⟨w.heap.size, 3, none⟩) a3).trans f52
    have a4 := nlt a3 qw3.size
    have b8 := nlt aR qw3.size
    have bB := nlt aW qw3.size
    have bE := nlt b3 qw3.size
    obtain ⟨b4, b5, b6, b7, b9, bA, bC, bD, bF, bG, bH, bI⟩ := mv12 qw3.cell aN aO aP aQ aS aT aU aV aX aY aZ b0
    clear f49 f50 f51 f52 a3 aN aO aP aQ aR aS aT aW aU aV b3 aX aY aZ b0
    have uw3 := vW46.trans qw3
    clear qw3 vW46
    go_wp2_with fail
    refine (HC.out _).mono ?_
    rintro e w4 ⟨rfl, qw4⟩
    have f89 := (qw4.frozen (a := ⟨w.heap.size, 0, none⟩) a4).trans f69
    have f90 := (qw4.frozen (a := ⟨w.heap.size, 1, none⟩) a4).trans f70
    have f91 := (qw4.frozen (a := ⟨w.heap.size, 2, none⟩) a4).trans f71
    have f92 := (qw4.frozen (a := ⟨w.heap.size, 3, none⟩) a4).trans f72
    have bV := nlt a4 qw4.size
    have bW := nlt b8 qw4.size
    have bX := nlt bB qw4.size
    have bY := nlt bE qw4.size
    obtain ⟨bJ, bK, bL, bM, bN, bO, bP, bQ, bR, bS, bT, bU⟩ := mv12 qw4.cell b4 b5 b6 b7 b9 bA bC bD bF bG bH bI
    clear f69 f70 f71 f72 a4 b4 b5 b6 b7 b8 b9 bA bB bC bD bE bF bG bH bI
    have uw4 := uw3.trans qw4
    clear qw4 uw3
    go_wp2_with fail
    exact bodyPost_ret (v := .tuple #[.agg #[.int .i8 0, .int .i64 0, .int .i8 0, .int .i64 0], .int .i64 m]) (by simp [results, Tryz.results79, go_sem, bJ, bK, bL, bM, bN, bO, bP, bQ, bR, bS, bT, bU, f89, f90, f91, f92] <;> omega) rfl ⟨rfl, ((((uw4.setCell (by simp <;> omega) _).setCell (by simp <;> omega) _).setCell (by simp <;> omega) _).setCell (by simp <;> omega) _)⟩
theorem rfP_f (s : ByteArray) (N : Nat) (hs : s.size ≤ 1000) (i1 d1 r1 i2 d2 r2 m : Int) (HST : Hid (Stop s N)) (HD : Hid (∃ h : N + 1 < s.size, s[N] = 46 ∧ s[N + 1] = 46)) (HA : Hid (∀ W, Calls Tryz.prog 117 #[.string (s.extract 0 N)] W fun o w' => o = .returned (.tuple #[.agg #[.int .i8 i1, .int .i64 d1], .int .i64 0]) ∧ Dn W w')) (HB : Hid (∀ W, Calls Tryz.prog 117 #[.string (s.extract (N + 2) s.size)] W fun o w' => o = .returned (.tuple #[.agg #[.int .i8 i2, .int .i64 d2], .int .i64 0]) ∧ Dn W w')) (HC : Hid (∀ W, Calls Tryz.prog 44 #[.agg #[.int .i8 i1, .int .i64 d1, .int .i8 i2, .int .i64 d2]] W fun o w' => o = .returned (.int .i64 0) ∧ Dn W w')) (w : World) :
  Calls Tryz.prog 79 #[.string s] w fun ro w' => ro = .returned (.tuple #[.agg #[.int .i8 i1, .int .i64 d1, .int .i8 i2, .int .i64 d2], .int .i64 0]) ∧ Dn w w' := by
 go_enter Tryz.func79, Tryz.ntmps79
 go_wp2_with fail
 obtain ⟨W1, hW1, uW1, c2, c3, c4, c5, l6, f7, f8, f9, f10⟩ := preTx77x1 w 
 rw [← hW1]
 clear hW1
 go_loopw [4] (fun av wr => ∃ (k : Nat) (j : Int), j = (k : Int) ∧ av = .int .i64 j ∧ k ≤ N ∧ wr = W1) (fun av _ => N - (intOf av).toNat)
 case atStart => exact ⟨0, 0, rfl, rfl, Nat.zero_le _, rfl⟩
 case round =>
  obtain ⟨k, j, hj, rfl, hkN, hwr⟩ := hrel
  subst hwr
  obtain rfl : j = (k : Int) := hj
  by_cases hk : k < N
  · obtain ⟨hlt, hnd⟩ := HST.out.go k hk
    obtain ⟨k1, hk1⟩ : ∃ k1 : Nat, k1 = k + 1 := ⟨_, rfl⟩
    have hw : IntKind.i64.wrap ((k : Int) + 1) = (k1 : Int) := by rw [IntWalk.i64_in _ (by omega)]; omega
    have b1 : decide ((k1 : Int) < (s.size : Int)) = true := by simp; omega
    have hks : k < s.size := by omega
    have hks1 : k1 < s.size := by omega
    have hki : (k : Int) < (s.size : Int) := by omega
    have hki1 : (k1 : Int) < (s.size : Int) := by omega
    have FIN : k1 ≤ N ∧ N - k1 < N - k := by omega
    have FIN' := Lib.hid FIN
    have HK1 := Lib.hid hk1
    by_cases h46 : s[k] = 46
    · have h47 : s[k1] ≠ 46 := by subst hk1; exact fun e => hnd ⟨h46, e⟩
      have q0 := eq46 hks h46
      have q1 := ne46 hks1 h47
      clear hnd h46 h47 FIN hk1 hlt hk
      go_wp2_with fail
      go_roundw
      case rel => exact ⟨k1, _, rfl, rfl, FIN'.out.1, by simp⟩
      case measure => simp [intOf]; exact FIN'.out.2
    · have q0 := ne46 hks h46
      clear hnd h46 FIN hk1 hlt hk
      go_wp2_with fail
      go_roundw
      case rel => exact ⟨k1, _, rfl, rfl, FIN'.out.1, by simp⟩
      case measure => simp [intOf]; exact FIN'.out.2
  · obtain rfl : k = N := by omega
    clear hk hkN HST
    obtain ⟨hlt, h46, h47⟩ := HD.out
    obtain ⟨k1, hk1⟩ : ∃ k1 : Nat, k1 = k + 1 := ⟨_, rfl⟩
    obtain ⟨k2, hk2⟩ : ∃ k2 : Nat, k2 = k + 2 := ⟨_, rfl⟩
    have hw : IntKind.i64.wrap ((k : Int) + 1) = (k1 : Int) := by rw [IntWalk.i64_in _ (by omega)]; omega
    have hw2 : IntKind.i64.wrap ((k : Int) + 2) = (k2 : Int) := by rw [IntWalk.i64_in _ (by omega)]; omega
    have b1 : decide ((k1 : Int) < (s.size : Int)) = true := by simp; omega
    have b2 : decide ((s.size : Int) ≤ (k1 : Int)) = false := by simp; omega
    have hks : k < s.size := by omega
    have hks1 : k1 < s.size := by omega
    have hki : (k : Int) < (s.size : Int) := by omega
    have hki1 : (k1 : Int) < (s.size : Int) := by omega
    have hke : (k : Int) ≤ (s.size : Int) := by omega
    have hke2 : (k2 : Int) ≤ (s.size : Int) := by omega
    have q0 := eq46 hks h46
    have q1 : ((s[k1].toNat : Int) != 46) = false := by subst hk1; exact eq46 hlt h47
    have HA := HA
    have HB' : Hid (∀ W, Calls Tryz.prog 117 #[.string (s.extract k2 s.size)] W fun o w' => o = .returned (.tuple #[.agg #[.int .i8 i2, .int .i64 d2], .int .i64 0]) ∧ Dn W w') := by rw [hk2]; exact HB
    clear hlt h46 h47 hk1 hk2 HB HD
    go_wp2_with fail
    refine (HA.out _).mono ?_
    rintro e w1 ⟨rfl, qw1⟩
    have f11 := (qw1.frozen (a := ⟨w.heap.size, 0, none⟩) l6).trans f7
    have f12 := (qw1.frozen (a := ⟨w.heap.size, 1, none⟩) l6).trans f8
    have f13 := (qw1.frozen (a := ⟨w.heap.size, 2, none⟩) l6).trans f9
    have f14 := (qw1.frozen (a := ⟨w.heap.size, 3, none⟩) l6).trans f10
    have a1 := nlt l6 qw1.size
    obtain ⟨a4, a5, a6, a7⟩ := mv4 qw1.cell c2 c3 c4 c5
    clear f7 f8 f9 f10 l6 c2 c3 c4 c5
    have uw1 := uW1.trans qw1
    clear qw1 uW1
    go_wp2_with fail
    obtain ⟨W20, hW20⟩ : ∃ W20, W20 = w1.alloc (.cells #[.int .i8 i1, .int .i64 d1] 41) := ⟨_, rfl⟩
    have uW20 : Dn w1 W20 := by rw [hW20]; exact (Dn.refl _).alloc _
    have n21 : w.heap.size ≠ w1.heap.size := by have := a1; omega
    have f22 := (uW20.frozen (a := ⟨w.heap.size, 0, none⟩) a1).trans f11
    have f23 := (uW20.frozen (a := ⟨w.heap.size, 1, none⟩) a1).trans f12
    have f24 := (uW20.frozen (a := ⟨w.heap.size, 2, none⟩) a1).trans f13
    have f25 := (uW20.frozen (a := ⟨w.heap.size, 3, none⟩) a1).trans f14
    have a2 := nlt a1 uW20.size
    obtain ⟨a8, a9, aA, aB⟩ := mv4 uW20.cell a4 a5 a6 a7
    clear f11 f12 f13 f14 a1 a4 a5 a6 a7
    have aC : W20.cell? ⟨w1.heap.size, 0, none⟩ = some (.int .i8 i1) := by rw [hW20]; simp [go_sem]
    have aD : W20.cell? ⟨w1.heap.size, 1, none⟩ = some (.int .i64 d1) := by rw [hW20]; simp [go_sem]
    have aE : w1.heap.size < W20.heap.size := by rw [hW20]; simp <;> omega
    rw [← hW20]
    clear hW20
    have vW20 := uw1.trans uW20
    clear uW20 uw1
    refine (HB'.out _).mono ?_
    rintro e w2 ⟨rfl, qw2⟩
    have f34 := (qw2.frozen (a := ⟨w.heap.size, 0, none⟩) a2).trans f22
    have f35 := (qw2.frozen (a := ⟨w.heap.size, 1, none⟩) a2).trans f23
    have f36 := (qw2.frozen (a := ⟨w.heap.size, 2, none⟩) a2).trans f24
    have f37 := (qw2.frozen (a := ⟨w.heap.size, 3, none⟩) a2).trans f25
    have a0 := nlt a2 qw2.size
    have aJ := nlt aE qw2.size
    obtain ⟨aF, aG, aH, aI, aK, aL⟩ := mv6 qw2.cell a8 a9 aA aB aC aD
    clear f22 f23 f24 f25 a2 a8 a9 aA aB aE aC aD
    have uw2 := vW20.trans qw2
    clear qw2 vW20
    go_wp2_with fail
    obtain ⟨W46, hW46⟩ : ∃ W46, W46 = (w2.alloc (.cells #[.int .i8 i2, .int .i64 d2] 41)).alloc (.cells #[.int .i8 i1, .int .i64 d1, .int .i8 i2, .int .i64 d2] 45) := ⟨_, rfl⟩
    have uW46 : Dn w2 W46 := by rw [hW46]; exact ((Dn.refl _).alloc _).alloc _
    have n47 : w.heap.size ≠ w2.heap.size := by have := a0; omega
    have n48 : w.heap.size ≠ w2.heap.size + 1 := by have := a0; omega
    have f49 := (uW46.frozen (a := ⟨w.heap.size, 0, none⟩) a0).trans f34
    have f50 := (uW46.frozen (a := ⟨w.heap.size, 1, none⟩) a0).trans f35
    have f51 := (uW46.frozen (a := ⟨w.heap.size, 2, none⟩) a0).trans f36
    have f52 := (uW46.frozen (a := ⟨w.heap.size, 3, none⟩) a0).trans f37
    have a3 := nlt a0 uW46.size
    have aQ := nlt aJ uW46.size
    obtain ⟨aM, aN, aO, aP, aR, aS⟩ := mv6 uW46.cell aF aG aH aI aK aL
    clear f34 f35 f36 f37 a0 aF aG aH aI aJ aK aL
    have aT : W46.cell? ⟨w2.heap.size, 0, none⟩ = some (.int .i8 i2) := by rw [hW46]; simp [go_sem]
    have aU : W46.cell? ⟨w2.heap.size, 1, none⟩ = some (.int .i64 d2) := by rw [hW46]; simp [go_sem]
    have aV : w2.heap.size < W46.heap.size := by rw [hW46]; simp <;> omega
    have aW : W46.cell? ⟨w2.heap.size + 1, 0, none⟩ = some (.int .i8 i1) := by rw [hW46]; simp [go_sem]
    have aX : W46.cell? ⟨w2.heap.size + 1, 1, none⟩ = some (.int .i64 d1) := by rw [hW46]; simp [go_sem]
    have aY : W46.cell? ⟨w2.heap.size + 1, 2, none⟩ = some (.int .i8 i2) := by rw [hW46]; simp [go_sem]
    have aZ : W46.cell? ⟨w2.heap.size + 1, 3, none⟩ = some (.int .i64 d2) := by rw [hW46]; simp [go_sem]
    have b0 : w2.heap.size + 1 < W46.heap.size := by rw [hW46]; simp <;> omega
    rw [← hW46]
    clear hW46
    have vW46 := uw2.trans uW46
    clear uW46 uw2
    refine (HC.out _).mono ?_
    rintro e w3 ⟨rfl, qw3⟩
    have f69 := (qw3.frozen (a := ⟨w.heap.size, 0, none⟩) a3).trans f49
    have f70 := (qw3.frozen (a := ⟨w.heap.size, 1, none⟩) a3).trans f50
    have f71 := (qw3.frozen (a := ⟨w.heap.size, 2, none⟩) a3).trans f51
    have f72 := (qw3.frozen (a := ⟨w.heap.size, 3, none⟩) a3).trans f52
    have bF := nlt a3 qw3.size
    have bG := nlt aQ qw3.size
    have bH := nlt aV qw3.size
    have bI := nlt b0 qw3.size
    obtain ⟨b3, b4, b5, b6, b7, b8, b9, bA, bB, bC, bD, bE⟩ := mv12 qw3.cell aM aN aO aP aR aS aT aU aW aX aY aZ
    clear f49 f50 f51 f52 a3 aM aN aO aP aQ aR aS aV aT aU b0 aW aX aY aZ
    have uw3 := vW46.trans qw3
    clear qw3 vW46
    go_wp2_with fail
    exact bodyPost_ret (v := .tuple #[.agg #[.int .i8 i1, .int .i64 d1, .int .i8 i2, .int .i64 d2], .int .i64 0]) (by simp [results, Tryz.results79, go_sem, b3, b4, b5, b6, b7, b8, b9, bA, bB, bC, bD, bE, f69, f70, f71, f72] <;> omega) rfl ⟨rfl, ((((uw3.setCell (by simp <;> omega) _).setCell (by simp <;> omega) _).setCell (by simp <;> omega) _).setCell (by simp <;> omega) _)⟩
theorem ext_size (s : ByteArray) (a b : Nat) : (s.extract a b).size ≤ s.size := by
 simp [ByteArray.size_extract]; omega
theorem rfParse (s : ByteArray) (q0 q1 q2 q3 r : Int) (w : World) (hs : s.size ≤ 1000) (h : RP s q0 q1 q2 q3 r) :
   Calls Tryz.prog 79 #[.string s] w fun ro w' => ro = .returned (.tuple #[.agg #[.int .i8 q0, .int .i64 q1, .int .i8 q2, .int .i64 q3], .int .i64 r]) ∧ Dn w w' := by
 rcases stop_cases s with ⟨N, hS, hno, hc⟩ | ⟨N, hS, hd, hc, c1, c2⟩
 · rcases h with ⟨_, rfl, rfl, rfl, rfl, rfl⟩ | ⟨h1, _⟩
   · exact rfP_0 s N hs 0 0 0 0 0 0 0 (Lib.hid hS) hno.1 hno.2 w
   · rw [hc] at h1; cases h1
 · rcases h with ⟨h1, _⟩ | ⟨_, i1, d1, r1, i2, d2, r2, h1, h2, hx⟩
   · rw [hc] at h1; cases h1
   · rw [c1] at h1
     rw [c2] at h2
     have e1 := ep_err h1
     have e2 := ep_err h2
     have HA := Lib.hid (fun W => rParse8 _ i1 d1 r1 W (Nat.le_trans (ext_size s _ _) hs) h1)
     have HB := Lib.hid (fun W => rParse8 _ i2 d2 r2 W (Nat.le_trans (ext_size s _ _) hs) h2)
     have HC := Lib.hid (rfChk i1 d1 i2 d2)
     have HS := Lib.hid hS
     have HD := Lib.hid hd
     rcases hx with ⟨h5, rfl, rfl, rfl, rfl, rfl⟩ | ⟨n1, n2, h0, rfl, rfl, rfl, rfl, rfl⟩ | ⟨rfl, rfl, hk, rfl, rfl, rfl, rfl, rfl⟩ | ⟨rfl, rfl, hk, rfl, rfl, rfl, rfl, rfl⟩
     · by_cases h51 : r1 = 5
       · subst h51; exact rfP_a s N hs i1 d1 0 i2 d2 r2 0 HS HD HA HB w
       · have h52 : r2 = 5 := by omega
         subst h52; exact rfP_b s N hs i1 d1 r1 i2 d2 0 0 HS HD HA HB h51 w
     · by_cases z1 : r1 = 0
       · subst z1; exact rfP_d s N hs i1 d1 0 i2 d2 r2 0 HS HD HA HB n2 (by omega) w
       · exact rfP_c s N hs i1 d1 r1 i2 d2 r2 0 HS HD HA HB n1 n2 z1 w
     · exact rfP_e s N hs i1 d1 0 i2 d2 0 _ HS HD HA HB HC hk w
     · rw [hk] at HC
       exact rfP_f s N hs _ _ 0 _ _ 0 0 HS HD HA HB HC w
end Go.Proofs.YtoghoddjkdoohaaGreatDoor
