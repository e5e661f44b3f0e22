/-
  WALKS OF circaref01: Cmp.
-/
import Derived.Test.YtopbbcbpanfigaaGreatDoorNatF
namespace Go.Proofs.YtopbbcbpanfigaaGreatDoor
open Go.RowKit
theorem IsN.parts {w : World} {b : Bool} {p : Option Addr} {n cap : Nat} {z : Int} (h : IsN w (.agg #[.bool b, .slice p n cap]) z) : b = decide (z < 0) ∧ n = (Dg.dl z.natAbs).length := by
  obtain ⟨s, h1, h2⟩ := h
  simp at h1
  obtain ⟨h1, rfl⟩ := h1
  exact ⟨h1, h2.len.1⟩
def sgn (z : Int) : Int := if z < 0 then -1 else if z = 0 then 0 else 1
theorem dl_pos_len {z : Int} (h : z ≠ 0) : 0 < (Dg.dl z.natAbs).length := by
  rcases Nat.eq_zero_or_pos (Dg.dl z.natAbs).length with e | e
  · have := Dg.dl_nil (List.length_eq_zero_iff.1 e); omega
  · exact e
theorem kd4 {w w1 w2 : World} {a0 a1 a2 a3 : Addr} {v0 v1 v2 v3 : Value} (h : Dn w w1 ∧ w1.cell? a0 = some v0 ∧ w1.cell? a1 = some v1 ∧ w1.cell? a2 = some v2 ∧ w1.cell? a3 = some v3) (k : Dn w1 w2) : Dn w w2 ∧ w2.cell? a0 = some v0 ∧ w2.cell? a1 = some v1 ∧ w2.cell? a2 = some v2 ∧ w2.cell? a3 = some v3 := by
  obtain ⟨h, h0, h1, h2, h3⟩ := h
  exact ⟨h.trans k, k.cell h0, k.cell h1, k.cell h2, k.cell h3⟩
theorem dcell {W w1 : World} (hb : Dn W w1) : (∀ b o, b < W.heap.size → w1.cell? ⟨b, o, none⟩ = W.cell? ⟨b, o, none⟩) ∧ (∀ b o, b < W.heap.size → w1.frozen? ⟨b, o, none⟩ = W.frozen? ⟨b, o, none⟩) ∧ W.heap.size ≤ w1.heap.size ∧ ∀ b, b < W.heap.size → b < w1.heap.size :=
  ⟨fun b o h => hb.below.cell (p := ⟨b, o, none⟩) h, fun b o h => hb.below.frozen (p := ⟨b, o, none⟩) h, hb.size, fun _ h => Nat.lt_of_lt_of_le h hb.size⟩
/-- What Cmp's difference is, where its sign is known. -/
def Known (z : Int) (b : Bool) (r : Bool) : Prop := ∀ w b' p n cap, IsN w (.agg #[.bool b', .slice p n cap]) z → b' = b ∧ decide (0 < n) = r ∧ (r = false → n = 0)
set_option maxHeartbeats 8000000 in
set_option maxRecDepth 10000 in
theorem rCmp_gen (va vb : Value) (x y : Int) (b r : Bool) (res : Int) (w : World) (hva : IsN w va x) (hvb : IsN w vb y) (hx : (Dg.dl x.natAbs).length ≤ 1000) (hy : (Dg.dl y.natAbs).length ≤ 1000) (hk : Known (x + -y) b r)
    (hres : (b = true ∧ res = -1) ∨ (b = false ∧ r = true ∧ res = 1) ∨ (b = false ∧ r = false ∧ res = 0)) :
    Calls Tryz.prog 75 #[va, vb] w fun e w' => e = .returned (.int .i64 res) ∧ Dn w w' := by
  have HVA := Lib.hid hva
  have HVB := Lib.hid hvb
  obtain ⟨p, n, cap, rfl, _⟩ := hva.form
  obtain ⟨q, n', cap', rfl, _⟩ := hvb.form
  have hy2 : (Dg.dl (-y).natAbs).length ≤ 1000 := by rw [show (-y).natAbs = y.natAbs by omega]; exact hy
  generalize decide (x < 0) = ba at *
  generalize decide (y < 0) = bb at *
  have HK := Lib.hid hk
  obtain ⟨W, hW⟩ : ∃ W, W = (w.alloc (.cells #[.bool ba, .slice p n cap] 80)).alloc (.cells #[.bool bb, .slice q n' cap'] 80) := ⟨_, rfl⟩
  have n0 : NBlk W w.heap.size ba (.slice p n cap) := by rw [hW]; exact (NBlk.new _ _ _ _).alloc _
  have n1 : NBlk W (w.heap.size + 1) bb (.slice q n' cap') := by rw [hW]; exact NBlk.new1 _ _ _ _ _
  have u : Dn w W := by rw [hW]; exact ((Dn.refl _).alloc _).alloc _
  have HW := Lib.hid hW
  have U := Lib.hid u
  obtain ⟨a0, a1, _, _, al⟩ := n0
  obtain ⟨b0, b1, _, _, bl⟩ := n1
  clear hW hva hvb hk u
  go_enter Tryz.func75, Tryz.ntmps75
  go_wp2_with fail
  rw [← HW.out]
  clear HW
  have hS : Dn W W ∧ W.cell? ⟨w.heap.size, 0, none⟩ = some (.bool ba) ∧ W.cell? ⟨w.heap.size, 1, none⟩ = some (.slice p n cap) ∧ W.cell? ⟨w.heap.size + 1, 0, none⟩ = some (.bool bb) ∧ W.cell? ⟨w.heap.size + 1, 1, none⟩ = some (.slice q n' cap') := ⟨Dn.refl _, a0, a1, b0, b1⟩
  go_region_held3 (fun w' => Dn W w' ∧ w'.cell? ⟨w.heap.size, 0, none⟩ = some (.bool ba) ∧ w'.cell? ⟨w.heap.size, 1, none⟩ = some (.slice p n cap) ∧ w'.cell? ⟨w.heap.size + 1, 0, none⟩ = some (.bool bb) ∧ w'.cell? ⟨w.heap.size + 1, 1, none⟩ = some (.slice q n' cap'))
    (first | exact kd4 hS ((Dn.refl _).drew) | exact kd4 ‹_› ‹_› | exact kd4 ‹_› ((Dn.refl _).alloc _) | exact kd4 hS (Dn.alloc hW2 _) | exact kd4 hS (Dn.setCell (Dn.setCell (And.left (by assumption)) (by first | exact Nat.le_refl _ | omega) _) (by first | exact Nat.le_refl _ | omega) _))
    (first
      | (go_at_call 54; refine (rNeg _ y _ ((HVB.out.dn U.out).dn (‹Dn W _ ∧ _› : _ ∧ _).1)).mono ?_; rintro e w1 ⟨v, rfl, hI, hq1⟩; obtain ⟨hc1, hf1, hz1, hl1⟩ := dcell hq1; try simp at hz1)
      | (go_at_call 97; refine (rAdd _ v x (-y) _ ((HVA.out.dn U.out).dn (‹Dn W _ ∧ _› : _ ∧ _).1) (by first | exact hI.dn hq1 | exact (hI.dn hq1).dn ((Dn.refl _).alloc _)) hx hy2).mono ?_; rintro e w2 ⟨b', p', n2, cap2, rfl, hJ, hq2, hP⟩; have hW2 : Dn W w2 := Dn.trans (And.left (by assumption)) hq2; obtain ⟨hc2, hf2, hz2, hl2⟩ := dcell hq2; try simp at hz2))
  · obtain ⟨rfl, hn, hn0⟩ := HK.out _ _ _ _ _ hJ
    have hf : Dn W _ := (‹Dn W _ ∧ _› : _ ∧ _).1
    have HF := Lib.hid (U.out.trans hf)
    have HH := Lib.hid hn0
    clear hf hn0 hS hJ a0 a1 b0 b1
    rcases hres with ⟨rfl, rfl⟩ | ⟨rfl, rfl, rfl⟩ | ⟨rfl, rfl, rfl⟩
    · go_wp2_with fail
      go_ret
      exact ⟨rfl, HF.out⟩
    · go_wp2_with fail
      go_ret
      exact ⟨rfl, HF.out⟩
    · obtain rfl := HH.out rfl
      go_wp2_with fail
      go_ret
      exact ⟨rfl, HF.out⟩
  · obtain ⟨rfl, hn, hn0⟩ := HK.out _ _ _ _ _ hJ
    have hf : Dn W _ := (‹Dn W _ ∧ _› : _ ∧ _).1
    have HF := Lib.hid (U.out.trans hf)
    have HH := Lib.hid hn0
    clear hf hn0 hS hJ a0 a1 b0 b1
    rcases hres with ⟨rfl, rfl⟩ | ⟨rfl, rfl, rfl⟩ | ⟨rfl, rfl, rfl⟩
    · go_wp2_with fail
      go_ret
      exact ⟨rfl, HF.out⟩
    · go_wp2_with fail
      go_ret
      exact ⟨rfl, HF.out⟩
    · obtain rfl := HH.out rfl
      go_wp2_with fail
      go_ret
      exact ⟨rfl, HF.out⟩
  · obtain ⟨rfl, hn, hn0⟩ := HK.out _ _ _ _ _ hJ
    have hf : Dn W _ := (‹Dn W _ ∧ _› : _ ∧ _).1
    have HF := Lib.hid (U.out.trans hf)
    have HH := Lib.hid hn0
    have i0 := (hc2 W.heap.size 0 (hl1 _ (by simp))).trans ((hc1 W.heap.size 0 (by simp)).trans (show _ = some (Value.bool false) by simp))
    have i1 := (hc2 W.heap.size 1 (hl1 _ (by simp))).trans ((hc1 W.heap.size 1 (by simp)).trans (show _ = some (Value.slice none 0 0) by simp))
    clear hc1 hc2 hf1 hf2 hl1 hl2
    clear hf hn0 hS hJ a0 a1 b0 b1
    rcases hres with ⟨rfl, rfl⟩ | ⟨rfl, rfl, rfl⟩ | ⟨rfl, rfl, rfl⟩
    · go_wp2_with fail
      go_ret
      exact ⟨rfl, HF.out⟩
    · go_wp2_with fail
      go_ret
      exact ⟨rfl, HF.out⟩
    · obtain rfl := HH.out rfl
      go_wp2_with fail
      go_ret
      exact ⟨rfl, HF.out⟩
/-- How two whole numbers lie to each other. -/
theorem rCmp (va vb : Value) (x y : Int) (w : World) (hva : IsN w va x) (hvb : IsN w vb y) (hx : (Dg.dl x.natAbs).length ≤ 1000) (hy : (Dg.dl y.natAbs).length ≤ 1000) :
    Calls Tryz.prog 75 #[va, vb] w fun e w' => e = .returned (.int .i64 (sgn (x - y))) ∧ Dn w w' := by
  rcases Int.lt_trichotomy (x + -y) 0 with h | h | h
  · have e : sgn (x - y) = -1 := by unfold sgn; rw [if_pos (by omega)]
    rw [e]
    refine rCmp_gen va vb x y true true (-1) w hva hvb hx hy (fun w b' p n cap hI => ?_) (Or.inl ⟨rfl, rfl⟩)
    obtain ⟨rfl, rfl⟩ := hI.parts
    have := dl_pos_len (z := x + -y) (by omega)
    exact ⟨by simpa using h, by simp; omega, by simp⟩
  · have e : sgn (x - y) = 0 := by unfold sgn; rw [if_neg (by omega), if_pos (by omega)]
    rw [e]
    refine rCmp_gen va vb x y false false 0 w hva hvb hx hy (fun w b' p n cap hI => ?_) (Or.inr (Or.inr ⟨rfl, rfl, rfl⟩))
    obtain ⟨rfl, rfl⟩ := hI.parts
    rw [h]
    simp [Dg.dl_zero]
  · have e : sgn (x - y) = 1 := by unfold sgn; rw [if_neg (by omega), if_neg (by omega)]
    rw [e]
    refine rCmp_gen va vb x y false true 1 w hva hvb hx hy (fun w b' p n cap hI => ?_) (Or.inr (Or.inl ⟨rfl, rfl, rfl⟩))
    obtain ⟨rfl, rfl⟩ := hI.parts
    have := dl_pos_len (z := x + -y) (by omega)
    exact ⟨by simp; omega, by simp; omega, by simp⟩
end Go.Proofs.YtopbbcbpanfigaaGreatDoor
