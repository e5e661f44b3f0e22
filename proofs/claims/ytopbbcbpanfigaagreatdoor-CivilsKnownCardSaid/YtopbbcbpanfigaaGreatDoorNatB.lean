/-
  WALKS OF circaref01: trim, Neg.
-/
import Derived.Test.YtopbbcbpanfigaaGreatDoorNatA
import Derived.Outline
namespace Go.Proofs.YtopbbcbpanfigaaGreatDoor
open Go.RowKit
/-- The world behind a store of a whole number. -/
def setN (w : World) (B : Nat) (b : Bool) (s : Value) : World := (w.setCell ⟨B, 0, none⟩ (.bool b)).setCell ⟨B, 1, none⟩ s
theorem NBlk.put {w : World} {B : Nat} {b : Bool} {s : Value} (h : NBlk w B b s) (b' : Bool) (s' : Value) : NBlk (setN w B b' s') B b' s' := (h.set0 b').set1 s'
theorem setN_dn {w0 w : World} {B : Nat} (h : Dn w0 w) (hn : w0.heap.size ≤ B) (b : Bool) (s : Value) : Dn w0 (setN w B b s) :=
  (h.setCell (p := ⟨B, 0, none⟩) hn _).setCell (p := ⟨B, 1, none⟩) hn _
theorem NBlk.new1 (w : World) (o : Obj) (b : Bool) (s : Value) (t : TypeId) : NBlk ((w.alloc o).alloc (.cells #[.bool b, s] t)) (w.heap.size + 1) b s := by
  have h := NBlk.new (w.alloc o) b s t
  simpa using h
theorem trim_isN {w : World} {b : Bool} {p : Option Addr} {cap k : Nat} {l : List Int} (hs : SlD w (.slice p l.length cap) l) (hd : Dg.Digs l) (hk : k ≤ l.length) (hz : ∀ j, k ≤ j → Dg.dig l j = 0) (he : k = 0 ∨ Dg.dig l (k - 1) ≠ 0) :
    IsN w (.agg #[.bool (b && decide (0 < k)), .slice p k cap]) (sg b (Dg.val l)) := by
  obtain ⟨hc, hv⟩ := Dg.trim_canon hd hk hz he
  have h := hs.take k hk
  rw [← hv]
  by_cases h0 : k = 0
  · subst h0
    have e : sg b (Dg.val (l.take 0)) = sg false (Dg.val (l.take 0)) := by cases b <;> simp [sg, Dg.val]
    rw [e]
    simp only [Nat.lt_irrefl, decide_false, Bool.and_false]
    exact IsN.of_canon hc h (by simp [sg, Dg.val])
  · have hne : l.take k ≠ [] := by
      intro e
      have := congrArg List.length e
      rw [List.length_take, Nat.min_eq_left hk] at this
      exact h0 (by simpa using this)
    have hl := hc.low hne
    have hp := Dg.p10_pos ((l.take k).length - 1)
    have e : (b && decide (0 < k)) = b := by simp; intro _; omega
    rw [e]
    exact IsN.of_canon hc h (by cases b <;> simp [sg] <;> omega)
set_option maxHeartbeats 1000000 in
theorem rTrim (b : Bool) (p : Option Addr) (n cap : Nat) (l : List Int) (w0 w : World) (h0w : Dn w0 w) (hs : SlD w0 (.slice p n cap) l) (hd : Dg.Digs l) :
    Calls Tryz.prog 74 #[.agg #[.bool b, .slice p n cap]] w fun e w' => ∃ b' k, e = .returned (.agg #[.bool b', .slice p k cap]) ∧ IsN w0 (.agg #[.bool b', .slice p k cap]) (sg b (Dg.val l)) ∧ Dn w w' := by
  have hS := hs
  obtain ⟨p', cap', he, h1, h2, h3⟩ := hs
  injection he with e1 e2 e3
  subst e1 e2 e3
  have hm := max_len
  have HD := Lib.hid hd
  have H3 := Lib.hid h3
  have HS := Lib.hid hS
  clear h3 hd hS
  obtain ⟨W1, hW1⟩ : ∃ W1, W1 = (w.alloc (.cells #[.bool b, .slice p l.length cap] 80)).alloc (.cells #[.bool false, .slice none 0 0] 80) := ⟨_, rfl⟩
  have u1 : Dn w W1 := by rw [hW1]; exact ((Dn.refl _).alloc _).alloc _
  have n1 : NBlk W1 w.heap.size b (.slice p l.length cap) := by rw [hW1]; exact (NBlk.new _ _ _ _).dn ((Dn.refl _).alloc _)
  have n2 : NBlk W1 (w.heap.size + 1) false (.slice none 0 0) := by rw [hW1]; exact NBlk.new1 _ _ _ _ _
  have HW := Lib.hid hW1
  clear hW1
  go_enter Tryz.func74, Tryz.ntmps74
  go_wp2_with fail
  rw [← HW.out]
  clear HW
  go_loopg [] l.length (fun k wr => k ≤ l.length ∧ (∀ j, k ≤ j → Dg.dig l j = 0) ∧ NBlk wr w.heap.size b (.slice p k cap) ∧ NBlk wr (w.heap.size + 1) false (.slice none 0 0) ∧ Dn w wr)
  case atStart => exact ⟨Nat.le_refl _, fun j hj => Dg.dig_none hj, n1, n2, u1⟩
  case round =>
    obtain ⟨hk, hz, m1, m2, hu⟩ := hrel
    have M1 := Lib.hid m1
    have M2 := Lib.hid m2
    have HZ := Lib.hid hz
    obtain ⟨c0, c1, f0, f1, l1⟩ := m1
    obtain ⟨r0, r1, r2, r3, l2⟩ := m2
    clear hz
    by_cases h0 : gk = 0
    · subst h0
      clear n1 n2 u1
      go_wp2_with fail
      obtain ⟨z0, z1, _, _, _⟩ := (((M2.out).far (p := ⟨w.heap.size, 0, none⟩) (by simp) (.bool false)).put false (.slice p 0 cap))
      have hu2 := setN_dn (hu.setCell (p := ⟨w.heap.size, 0, none⟩) (Nat.le_refl _) (.bool false)) (Nat.le_succ _) false (.slice p 0 cap)
      have hI := trim_isN (b := b) (k := 0) HS.out HD.out (Nat.zero_le _) HZ.out (Or.inl rfl)
      exact bodyPost_ret (w := setN (wr.setCell ⟨w.heap.size, 0, none⟩ (.bool false)) (w.heap.size + 1) false (.slice p 0 cap)) (v := .agg #[.bool false, .slice p 0 cap]) (by simp [results, Tryz.results74, go_sem, z0, z1]) rfl ⟨_, _, rfl, by simpa using hI, hu2⟩
    · obtain ⟨m, rfl⟩ : ∃ m, gk = m + 1 := ⟨gk - 1, by omega⟩
      obtain ⟨g, rfl, hc⟩ := H3.out m _ (Dg.dig_some (by omega))
      replace hc := (h0w.trans hu).cell hc
      by_cases hq : Dg.dig l m = 0
      · rw [hq] at hc
        have HQ := Lib.hid hq
        clear n1 n2 u1 hq
        go_wp2_with fail
        go_roundg m
        case measure => omega
        case rel => exact ⟨by omega, fun j hj => by
          rcases Nat.eq_or_lt_of_le hj with e | e
          · rw [← e]; exact HQ.out
          · exact HZ.out j e, M1.out.set1 _, M2.out.far (by simp) _, hu.setCell (Nat.le_refl _) _⟩
      · have t1 : (Dg.dig l m == 0) = false := by simpa using hq
        clear n1 n2 u1
        go_wp2_with fail
        obtain ⟨z0, z1, _, _, _⟩ := (M2.out.put b (.slice (some ⟨g, 0, none⟩) (m + 1) cap))
        have hu2 := setN_dn hu (Nat.le_succ _) b (.slice (some ⟨g, 0, none⟩) (m + 1) cap)
        have hI := trim_isN (b := b) (k := m + 1) HS.out HD.out hk HZ.out (Or.inr hq)
        exact bodyPost_ret (w := setN wr (w.heap.size + 1) b (.slice (some ⟨g, 0, none⟩) (m + 1) cap)) (v := .agg #[.bool b, .slice (some ⟨g, 0, none⟩) (m + 1) cap]) (by simp [results, Tryz.results74, go_sem, z0, z1]) rfl ⟨_, _, rfl, by simpa using hI, hu2⟩
theorem SlD.far {w : World} {p : Option Addr} {n cap B i : Nat} {l : List Int} (h : SlD w (.slice p n cap) l) (hp : ∀ g, p = some ⟨g, 0, none⟩ → g ≠ B) (u : Value) : SlD (w.setCell ⟨B, i, none⟩ u) (.slice p n cap) l := by
  obtain ⟨p', cap', he, h1, h2, h3⟩ := h
  refine ⟨p', cap', he, h1, h2, fun j x hx => ?_⟩
  obtain ⟨g, hg, hc⟩ := h3 j x hx
  injection he with e1 e2 e3
  have hne := hp g (e1.trans hg)
  exact ⟨g, hg, by rw [World.cell?_setCell_other _ _ _ _ (fun e => hne (congrArg Addr.block e).symm)]; exact hc⟩
theorem SlD.farN {w : World} {p : Option Addr} {n cap B : Nat} {l : List Int} (h : SlD w (.slice p n cap) l) (hp : ∀ g, p = some ⟨g, 0, none⟩ → g ≠ B) (b : Bool) (s : Value) : SlD (setN w B b s) (.slice p n cap) l := (h.far hp _).far hp _
theorem IsN.farN {w : World} {p : Option Addr} {n cap B : Nat} {b : Bool} {x : Int} (h : IsN w (.agg #[.bool b, .slice p n cap]) x) (hp : ∀ g, p = some ⟨g, 0, none⟩ → g ≠ B) (b' : Bool) (s : Value) : IsN (setN w B b' s) (.agg #[.bool b, .slice p n cap]) x := by
  obtain ⟨s', h1, h2⟩ := h
  obtain rfl : s' = .slice p n cap := by simp at h1; exact h1.2.symm
  exact ⟨_, h1, h2.farN hp _ _⟩
theorem sg_abs (x : Int) : sg (decide (x < 0)) (Dg.val (Dg.dl x.natAbs)) = x := by
  rw [Dg.dl_val]; unfold sg; by_cases h : x < 0 <;> simp [h] <;> omega
theorem sg_neg (x : Int) : sg (!decide (x < 0)) (Dg.val (Dg.dl x.natAbs)) = -x := by
  rw [Dg.dl_val]; unfold sg; by_cases h : x < 0 <;> simp [h] <;> omega
set_option maxHeartbeats 1000000 in
theorem rNeg (v : Value) (x : Int) (w : World) (hv : IsN w v x) :
    Calls Tryz.prog 54 #[v] w fun e w' => ∃ v', e = .returned v' ∧ IsN w v' (-x) ∧ Dn w w' := by
  obtain ⟨p, n, cap, rfl, hs⟩ := hv.form
  generalize hb : decide (x < 0) = b
  have hT := fun W (h : Dn w W) => rTrim (!b) p n cap (Dg.dl x.natAbs) w W h hs (Dg.dl_digs _)
  rw [← hb, sg_neg, hb] at hT
  have HT := Lib.hid hT
  clear hT hb
  obtain ⟨W1, hW1⟩ : ∃ W1, W1 = (w.alloc (.cells #[.bool b, .slice p n cap] 80)).alloc (.cells #[.bool false, .slice none 0 0] 80) := ⟨_, rfl⟩
  have u1 : Dn w W1 := by rw [hW1]; exact ((Dn.refl _).alloc _).alloc _
  have n2 : NBlk W1 (w.heap.size + 1) false (.slice none 0 0) := by rw [hW1]; exact NBlk.new1 _ _ _ _ _
  have HW := Lib.hid hW1
  clear hW1
  go_enter Tryz.func54, Tryz.ntmps54
  go_wp2_with fail
  rw [← HW.out]
  clear HW
  refine (HT.out _ u1).mono ?_
  rintro e w1 ⟨b', k', rfl, hI, q1⟩
  have HI := Lib.hid hI
  have N2 := Lib.hid (n2.dn q1)
  obtain ⟨r0, r1, r2, r3, l2⟩ := n2.dn q1
  have u2 := u1.trans q1
  clear n2 u1 q1 hI
  go_wp2_with fail
  obtain ⟨z0, z1, _, _, _⟩ := N2.out.put b' (.slice p k' cap)
  have hu2 := setN_dn u2 (Nat.le_succ _) b' (.slice p k' cap)
  exact bodyPost_ret (w := setN w1 (w.heap.size + 1) b' (.slice p k' cap)) (v := .agg #[.bool b', .slice p k' cap]) (by simp [results, Tryz.results54, go_sem, z0, z1]) rfl ⟨_, rfl, HI.out, hu2⟩
end Go.Proofs.YtopbbcbpanfigaaGreatDoor
