/- Walks and laws that the claim's theorem leans on: part 24. -/
import Derived.Test.YtcdkeiolblifkaaGreatDoorZKn1
import Derived.Test.YtcdkeiolblifkaaGreatDoorZKn13
import Derived.Test.YtcdkeiolblifkaaGreatDoorZKn14
import Derived.Test.YtcdkeiolblifkaaGreatDoorZKn23
import Derived.Lib.ItoaLen
namespace Go.Proofs.YtcdkeiolblifkaaGreatDoor
set_option maxHeartbeats 4000000
set_option maxRecDepth 100000
open Go.RowKit
set_option linter.unusedVariables false
set_option linter.unusedSimpArgs false
theorem cut_dd (x y : List UInt8) (hx : ∀ c ∈ x, c ≠ 46) : Lib.cut (x ++ [46, 46] ++ y) [46, 46] = (x, y, true) := by
 have e : Lib.index (x ++ [46, 46] ++ y) [46, 46] = (x.length : Int) := by
  refine Lib.index_first (by simp) ?_ ?_
  · unfold Lib.occAt
    simp [List.isPrefixOf]
  · intro j hj
    unfold Lib.occAt
    have hd : (x ++ [46, 46] ++ y).drop j = x[j] :: (x ++ [46, 46] ++ y).drop (j + 1) := by
     rw [List.drop_eq_getElem_cons (by simp; omega)]
     congr 1
     simp [List.getElem_append_left hj]
    rw [hd]
    have := hx x[j] (List.getElem_mem hj)
    simp [List.isPrefixOf, Ne.symm this]
 unfold Lib.cut
 rw [e, if_pos (by omega)]
 simp
theorem rd_ne (u : Nat) : ∀ c ∈ rd u, c ≠ 46 := fun c hc e => by
 have := rd_isD u c hc
 rw [e] at this
 exact absurd this.1 (by decide)
theorem itoa_ne (n : Int) : ∀ c ∈ Lib.itoa n, c ≠ 46 := by
 intro c hc
 by_cases h0 : n = 0
 · subst h0; rw [itoa_zero] at hc; simp at hc; subst hc; decide
 · rw [itoa_rd n h0] at hc
   split at hc
   · rcases List.mem_cons.1 hc with rfl | hc
     · decide
     · exact rd_ne _ c hc
   · exact rd_ne _ c hc
theorem eStr_ne (i d : Int) : ∀ c ∈ (eStr i d).data.toList, c ≠ 46 := by
 unfold eStr
 split
 · exact itoa_ne d
 · split <;> decide
theorem eStr_small (i d : Int) (hd : I64 d) : (eStr i d).size ≤ 21 := by
 unfold eStr
 split
 · have := Lib.itoa_length_le d hd.1 hd.2
   simp [ByteArray.size]; omega
 · split <;> decide
theorem rStr_size (a b c d : Int) (hb : I64 b) (hd : I64 d) : (rStr a b c d).size ≤ 1000 := by
 have h1 := eStr_small a b hb
 have h2 := eStr_small c d hd
 unfold rStr
 have : (⟨#[46, 46]⟩ : ByteArray).size = 2 := rfl
 rw [ByteArray.size_append, ByteArray.size_append]; omega
theorem ep_str9 (i d : Int) (h : eOk i d) (hd : I64 d) : EP (eStr i d) i d 0 := by
 rcases h with rfl | ⟨rfl | rfl, rfl⟩
 · obtain ⟨h1, h2⟩ := itoa_ok d
   have hl : (eStr 0 d).data.toList = Lib.itoa d := by rw [eStr_day]
   refine Or.inr (Or.inr ⟨?_, ?_, rfl, Or.inl ⟨by rw [hl]; exact h1, Or.inl ⟨by rw [hl, h2]; exact hd, by rw [hl, h2], rfl⟩⟩⟩)
   · intro e
     rw [e] at hl
     rw [← hl] at h1
     exact absurd h1 (by decide +kernel)
   · intro e
     rw [e] at hl
     rw [← hl] at h1
     exact absurd h1 (by decide +kernel)
 · exact Or.inl ⟨rfl, rfl, rfl, rfl⟩
 · exact Or.inr (Or.inl ⟨rfl, rfl, rfl, rfl⟩)
theorem rp_str (a b c d : Int) (hb : I64 b) (hd : I64 d) (h : RnOk a b c d) : RP (rStr a b c d) a b c d 0 := by
 have hc : Lib.cut (rStr a b c d).data.toList [46, 46] = ((eStr a b).data.toList, (eStr c d).data.toList, true) := by
  have : (rStr a b c d).data.toList = (eStr a b).data.toList ++ [46, 46] ++ (eStr c d).data.toList := by
   unfold rStr; simp [ByteArray.data_append]
  rw [this]
  exact cut_dd _ _ (eStr_ne a b)
 exact rp_of hc (ep_str9 a b h.1 hb) (ep_str9 c d h.2.1 hd) (Or.inr (Or.inr (Or.inr ⟨rfl, rfl, (rnErr_ok hb hd).2 h, rfl, rfl, rfl, rfl, rfl⟩)))
theorem preKn53x1 (w : World) (a b c d : Int) : ∃ W1, W1 = w.alloc (.cells #[.int .i8 a, .int .i64 b, .int .i8 c, .int .i64 d] 28) ∧ (Dn w W1) ∧ (W1.cell? ⟨w.heap.size, 0, none⟩ = some (.int .i8 a)) ∧ (W1.cell? ⟨w.heap.size, 1, none⟩ = some (.int .i64 b)) ∧ (W1.cell? ⟨w.heap.size, 2, none⟩ = some (.int .i8 c)) ∧ (W1.cell? ⟨w.heap.size, 3, none⟩ = some (.int .i64 d)) ∧ (w.heap.size < W1.heap.size) := by
  obtain ⟨W1, hW1⟩ : ∃ W1, W1 = w.alloc (.cells #[.int .i8 a, .int .i64 b, .int .i8 c, .int .i64 d] 28) := ⟨_, rfl⟩
  exact ⟨W1, hW1, (by rw [hW1]; exact (Dn.refl _).alloc _), (by rw [hW1]; simp [go_sem]), (by rw [hW1]; simp [go_sem]), (by rw [hW1]; simp [go_sem]), (by rw [hW1]; simp [go_sem]), (by rw [hW1]; simp <;> omega)⟩
theorem txt_bad (a b c d m : Int) (HT : Hid (∀ W, Calls Tryz.prog 25 #[.agg #[.int .i8 a, .int .i64 b, .int .i8 c, .int .i64 d]] W fun o w' => o = .returned (.tuple #[.string ⟨#[]⟩, .int .i64 m]) ∧ Dn W w')) (HC : Hid (∀ W, Calls Tryz.prog 9 #[.agg #[.int .i8 a, .int .i64 b, .int .i8 c, .int .i64 d]] W fun o w' => o = .returned (.int .i64 m) ∧ Dn W w')) (h1 : m ≠ 0) (w : World) (hE : EnvR w) :
  Calls Tryz.prog 5 #[.agg #[.int .i8 a, .int .i64 b, .int .i8 c, .int .i64 d]] w fun ro w' => ro = .returned (.bool true) ∧ Dn w w' := by
 have t1 : (m != 0) = true := by simpa using h1
 clear h1
 go_enter Tryz.func5, Tryz.ntmps5
 go_wp2_with fail
 obtain ⟨W1, hW1, uW1, c2, c3, c4, c5, l6⟩ := preKn53x1 w a b c d
 rw [← hW1]
 clear hW1
 refine (HT.out _).mono ?_
 rintro e w1 ⟨rfl, qw1⟩
 have l7 := nlt l6 qw1.size
 obtain ⟨c8, c9, a0, a1⟩ := mv4 qw1.cell c2 c3 c4 c5
 clear l6 c2 c3 c4 c5
 have uw1 := uW1.trans qw1
 clear qw1 uW1
 go_wp2_with fail
 refine (HC.out _).mono ?_
 rintro e w2 ⟨rfl, qw2⟩
 have a2 := nlt l7 qw2.size
 obtain ⟨a3, a4, a5, a6⟩ := mv4 qw2.cell c8 c9 a0 a1
 clear l7 c8 c9 a0 a1
 have uw2 := uw1.trans qw2
 clear qw2 uw1
 go_wp2_with fail
 refine (lives9 _ (hE.dn uw2)).mono ?_
 rintro e w3 ⟨rfl, qw3⟩
 have a7 := nlt a2 qw3.size
 obtain ⟨a8, a9, aA, aB⟩ := mv4 qw3.cell a3 a4 a5 a6
 clear a2 a3 a4 a5 a6
 have uw3 := uw2.trans qw3
 clear qw3 uw2
 go_wp2_with fail
 go_ret
 exact ⟨rfl, uw3⟩
theorem txt_ok (a b c d : Int) (s : ByteArray) (HT : Hid (∀ W, EnvR W → Calls Tryz.prog 25 #[.agg #[.int .i8 a, .int .i64 b, .int .i8 c, .int .i64 d]] W fun o w' => o = .returned (.tuple #[.string s, .int .i64 0]) ∧ Dn W w')) (HC : Hid (∀ W, Calls Tryz.prog 9 #[.agg #[.int .i8 a, .int .i64 b, .int .i8 c, .int .i64 d]] W fun o w' => o = .returned (.int .i64 0) ∧ Dn W w')) (HP : Hid (∀ W, EnvR W → Calls Tryz.prog 26 #[.string s] W fun o w' => o = .returned (.tuple #[.agg #[.int .i8 a, .int .i64 b, .int .i8 c, .int .i64 d], .int .i64 0]) ∧ Dn W w')) (HR : Hid (∀ W, Calls Tryz.prog 27 #[.agg #[.int .i8 a, .int .i64 b, .int .i8 c, .int .i64 d]] W fun o w' => o = .returned (.string s) ∧ Dn W w')) (w : World) (hE : EnvR w) :
  Calls Tryz.prog 5 #[.agg #[.int .i8 a, .int .i64 b, .int .i8 c, .int .i64 d]] w fun ro w' => ro = .returned (.bool true) ∧ Dn w w' := by
 go_enter Tryz.func5, Tryz.ntmps5
 go_wp2_with fail
 obtain ⟨W1, hW1, uW1, c2, c3, c4, c5, l6⟩ := preKn53x1 w a b c d
 rw [← hW1]
 clear hW1
 refine (HT.out _ (hE.dn uW1)).mono ?_
 rintro e w1 ⟨rfl, qw1⟩
 have l7 := nlt l6 qw1.size
 obtain ⟨c8, c9, a0, a1⟩ := mv4 qw1.cell c2 c3 c4 c5
 clear l6 c2 c3 c4 c5
 have uw1 := uW1.trans qw1
 clear qw1 uW1
 go_wp2_with fail
 refine (HC.out _).mono ?_
 rintro e w2 ⟨rfl, qw2⟩
 have a2 := nlt l7 qw2.size
 obtain ⟨a3, a4, a5, a6⟩ := mv4 qw2.cell c8 c9 a0 a1
 clear l7 c8 c9 a0 a1
 have uw2 := uw1.trans qw2
 clear qw2 uw1
 go_wp2_with fail
 refine (HP.out _ (hE.dn uw2)).mono ?_
 rintro e w3 ⟨rfl, qw3⟩
 have a7 := nlt a2 qw3.size
 obtain ⟨a8, a9, aA, aB⟩ := mv4 qw3.cell a3 a4 a5 a6
 clear a2 a3 a4 a5 a6
 have uw3 := uw2.trans qw3
 clear qw3 uw2
 go_wp2_with fail
 obtain ⟨W22, hW22⟩ : ∃ W22, W22 = w3.alloc (.cells #[.int .i8 a, .int .i64 b, .int .i8 c, .int .i64 d] 28) := ⟨_, rfl⟩
 have uW22 : Dn w3 W22 := by rw [hW22]; exact (Dn.refl _).alloc _
 have aC := nlt a7 uW22.size
 obtain ⟨aD, aE, aF, aG⟩ := mv4 uW22.cell a8 a9 aA aB
 clear a7 a8 a9 aA aB
 have aH : W22.cell? ⟨w3.heap.size, 0, none⟩ = some (.int .i8 a) := by rw [hW22]; simp [go_sem]
 have aI : W22.cell? ⟨w3.heap.size, 1, none⟩ = some (.int .i64 b) := by rw [hW22]; simp [go_sem]
 have aJ : W22.cell? ⟨w3.heap.size, 2, none⟩ = some (.int .i8 c) := by rw [hW22]; simp [go_sem]
 have aK : W22.cell? ⟨w3.heap.size, 3, none⟩ = some (.int .i64 d) := by rw [hW22]; simp [go_sem]
 have aL : w3.heap.size < W22.heap.size := by rw [hW22]; simp <;> omega
 rw [← hW22]
 clear hW22
 have vW22 := uw3.trans uW22
 clear uW22 uw3
 refine (HR.out _).mono ?_
 rintro e w4 ⟨rfl, qw4⟩
 have aM := nlt aC qw4.size
 have aR := nlt aL qw4.size
 obtain ⟨aN, aO, aP, aQ, aS, aT, aU, aV⟩ := mv8 qw4.cell aD aE aF aG aH aI aJ aK
 clear aC aD aE aF aG aL aH aI aJ aK
 have uw4 := vW22.trans qw4
 clear qw4 vW22
 go_wp2_with fail
 refine (g9_ok a b c d 0 0 0 0 0 _).mono ?_
 rintro e w5 ⟨rfl, qw5⟩
 have aW := nlt aM qw5.size
 have b1 := nlt aR qw5.size
 obtain ⟨aX, aY, aZ, b0, b2, b3, b4, b5⟩ := mv8 qw5.cell aN aO aP aQ aS aT aU aV
 clear aM aN aO aP aQ aR aS aT aU aV
 have uw5 := uw4.trans qw5
 clear qw5 uw4
 go_wp2_with fail
 refine (lives9 _ (hE.dn uw5)).mono ?_
 rintro e w6 ⟨rfl, qw6⟩
 have b6 := nlt aW qw6.size
 have bB := nlt b1 qw6.size
 obtain ⟨b7, b8, b9, bA, bC, bD, bE, bF⟩ := mv8 qw6.cell aX aY aZ b0 b2 b3 b4 b5
 clear aW aX aY aZ b0 b1 b2 b3 b4 b5
 have uw6 := uw5.trans qw6
 clear qw6 uw5
 go_wp2_with fail
 go_ret
 exact ⟨rfl, uw6⟩
theorem runsText_true (a b c d : Int) (w : World) (hb : I64 b) (hd : I64 d) (hE : EnvR w) :
   Calls Tryz.prog 5 #[.agg #[.int .i8 a, .int .i64 b, .int .i8 c, .int .i64 d]] w fun ro w' => ro = .returned (.bool true) ∧ Dn w w' := by
 have HC := Lib.hid (rfChk a b c d)
 by_cases h : rnErr a b c d = 0
 · have hk := (rnErr_ok hb hd).1 h
   rw [h] at HC
   exact txt_ok a b c d (rStr a b c d) (Lib.hid fun W hW => rnText a b c d W hb hd hk hW) HC (Lib.hid fun W hW => rnParse _ a b c d 0 W (rStr_size a b c d hb hd) (rp_str a b c d hb hd hk) hW) (Lib.hid fun W => rfText a b c d W hb hd hk) w hE
 · exact txt_bad a b c d _ (Lib.hid fun W => rnText_bad a b c d W h) HC h w hE
end Go.Proofs.YtcdkeiolblifkaaGreatDoor
