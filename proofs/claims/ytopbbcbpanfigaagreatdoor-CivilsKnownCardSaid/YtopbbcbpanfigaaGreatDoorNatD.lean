/-
  WALKS OF circaref01: less, Add.
-/
import Derived.Test.YtopbbcbpanfigaaGreatDoorNatC
import Derived.Deep.QuietTactic
import Derived.BigQuiet
namespace Go.Proofs.YtopbbcbpanfigaaGreatDoor
open Go.RowKit
theorem SlD.drewN {w : World} {s : Value} {l : List Int} (h : SlD w s l) (n : Nat) : SlD (w.drewN n) s l := h.dn ((Dn.refl _).drewN n)
theorem drews2 (w : World) (a b : Nat) : (w.drewN a).drewN b = w.drewN (a + b) := by
  simp only [World.drewN, Nat.add_assoc]
theorem drews3 (w : World) (a b c : Nat) : ∃ n, ((w.drewN a).drewN b).drewN c = w.drewN n := ⟨_, by rw [drews2, drews2]⟩
theorem drop_dig (l : List Int) (m : Nat) (h : m < l.length) : l.drop m = Dg.dig l m :: l.drop (m + 1) := by
  rw [List.drop_eq_getElem_cons h]; simp [Dg.dig, List.getD, h]
set_option maxHeartbeats 1000000 in
theorem rLess (s t : Value) (la lb : List Int) (w : World) (hs : SlD w s la) (ht : SlD w t lb) (ha : Dg.Canon la) (hb : Dg.Canon lb) :
    Calls Tryz.prog 114 #[s, t] w fun e w' => e = .returned (.bool (decide (Dg.val la < Dg.val lb))) ∧ ∃ n, w' = w.drewN n := by
  obtain ⟨p, cap, rfl, h1, h2, h3⟩ := hs
  obtain ⟨q, cap', rfl, g1, g2, g3⟩ := ht
  have hm := max_len
  have H3 := Lib.hid h3
  have G3 := Lib.hid g3
  have HA := Lib.hid ha
  have HB := Lib.hid hb
  clear h3 g3 ha hb
  by_cases hl : la.length = lb.length
  · have c1 : ((la.length : Int) == lb.length) = true := by simp; omega
    have c2 : ((la.length : Int) != lb.length) = false := by simp; omega
    have HL := Lib.hid hl
    clear hl
    go_enter Tryz.func114, Tryz.ntmps114
    go_wp2_with fail
    go_loopw [5] (fun i wr => ∃ (k : Nat) (j : Int), k ≤ la.length ∧ j = (k : Int) - 1 ∧ i = .int .i64 j ∧ la.drop k = lb.drop k ∧ ∃ z, wr = w.drewN z) (fun i _ => (intOf i + 1).toNat)
    case atStart => exact ⟨la.length, _, Nat.le_refl _, rfl, rfl, by rw [List.drop_of_length_le (Nat.le_refl _), List.drop_of_length_le (by have := HL.out; omega)], 0, rfl⟩
    case round =>
      obtain ⟨k, j, hk, hj, rfl, hd, z, rfl⟩ := hrel
      by_cases h0 : k = 0
      · subst h0
        obtain rfl : j = -1 := by omega
        have e : la = lb := by simpa using hd
        clear hd c1 c2 hj
        subst e
        go_wp2_with fail
        go_ret
        exact ⟨retb (by simp), z, rfl⟩
      · obtain ⟨m, rfl⟩ : ∃ m, k = m + 1 := ⟨k - 1, by omega⟩
        obtain rfl : j = (m : Int) := by omega
        have hma : m < la.length := by omega
        have hmb : m < lb.length := by have := HL.out; omega
        obtain ⟨g, rfl, q1⟩ := H3.out m _ (Dg.dig_some hma)
        obtain ⟨g', rfl, q2⟩ := G3.out m _ (Dg.dig_some hmb)
        have HD := Lib.hid hd
        clear hd hj
        by_cases he : Dg.dig la m = Dg.dig lb m
        · rw [he] at q1
          have HE := Lib.hid he
          clear he
          go_wp2_with fail
          go_quiet (fail)
          go_wp2_with fail
          go_roundw
          case rel => exact ⟨m, _, by omega, rfl, rfl, by rw [drop_dig _ _ hma, drop_dig _ _ hmb, HE.out, HD.out], _, rfl⟩
          case measure => simp [intOf]
        · have d1 : (Dg.dig la m == Dg.dig lb m) = false := by simpa using he
          have d2 : (Dg.dig la m != Dg.dig lb m) = true := by simpa using he
          have HE := Lib.hid he
          clear he
          go_wp2_with fail
          go_quiet (fail)
          go_wp2_with fail
          go_quiet (fail)
          go_wp2_with fail
          go_ret
          refine ⟨retb ?_, drews3 _ _ _ _⟩
          rw [Bool.eq_iff_iff]
          simp only [decide_eq_true_eq]
          have hne := HE.out
          constructor
          · intro h; exact Dg.lt_of_top HA.out.1 HB.out.1 m hma hmb HD.out h
          · intro h
            by_cases hc : Dg.dig la m < Dg.dig lb m
            · exact hc
            · have := Dg.lt_of_top HB.out.1 HA.out.1 m hmb hma HD.out.symm (by omega)
              omega
  · have c1 : ((la.length : Int) == lb.length) = false := by simp; omega
    have c2 : ((la.length : Int) != lb.length) = true := by simp; omega
    go_enter Tryz.func114, Tryz.ntmps114
    go_wp2_with fail
    go_ret
    refine ⟨retb ?_, 0, rfl⟩
    rw [Bool.eq_iff_iff]
    simp only [decide_eq_true_eq]
    constructor
    · intro h; exact HA.out.lt_of_len HB.out (by omega)
    · intro h
      by_cases hc : la.length < lb.length
      · omega
      · have := HB.out.lt_of_len HA.out (by omega)
        omega
end Go.Proofs.YtopbbcbpanfigaaGreatDoor
