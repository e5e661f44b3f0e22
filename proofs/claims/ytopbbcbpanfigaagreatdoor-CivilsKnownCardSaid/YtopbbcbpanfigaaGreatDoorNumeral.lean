/-
  PLAIN LAWS: the text of a number is a numeral of it, and no other one.
-/
import Derived.Test.YtopbbcbpanfigaaGreatDoorIntsD
namespace Go.Proofs.YtopbbcbpanfigaaGreatDoor
open Go.RowKit
def rd (u : Nat) : List UInt8 := (Dg.dl u).reverse.map Dg.ch
theorem rd_isD (u : Nat) : ∀ c ∈ rd u, Dg.isD c := by
  intro c hc
  simp only [rd, List.mem_map, List.mem_reverse] at hc
  obtain ⟨d, hd, rfl⟩ := hc
  exact (Dg.ch_isD d (Dg.dl_digs u d hd)).1
theorem map_dv_ch {l : List Int} (h : Dg.Digs l) : (l.map Dg.ch).map Dg.dv = l := by
  rw [List.map_map]
  have : l.map (Dg.dv ∘ Dg.ch) = l.map id := List.map_congr_left (fun d hd => (Dg.ch_isD d (h d hd)).2)
  rw [this, List.map_id]
theorem rd_val (u : Nat) : Dg.nvA 0 (rd u) = u := by
  have h := Dg.nvA_val (rd u) (rd_isD u) 0
  have e : (rd u).reverse.map Dg.dv = Dg.dl u := by
    unfold rd
    rw [← List.map_reverse, List.reverse_reverse]
    exact map_dv_ch (Dg.dl_digs u)
  rw [e, Dg.dl_val] at h
  simp at h
  omega
theorem head_last {α : Type} (l : List α) : l.reverse.head? = l[l.length - 1]? := by
  rw [List.head?_reverse, List.getLast?_eq_getElem?]
theorem rd_head (u : Nat) (h : u ≠ 0) : ∃ d, 1 ≤ d ∧ d ≤ 9 ∧ (rd u).head? = some (Dg.ch d) := by
  have hne : Dg.dl u ≠ [] := fun e => h (Dg.dl_nil e)
  have hlen : 0 < (Dg.dl u).length := List.length_pos_iff.2 hne
  have hc := (Dg.dl_canon u).2
  have hd := Dg.dig_bd (Dg.dl_digs u) ((Dg.dl u).length - 1)
  refine ⟨Dg.dig (Dg.dl u) ((Dg.dl u).length - 1), ?_, hd.2, ?_⟩
  · rcases hc with hc | hc
    · exact absurd hc hne
    · omega
  · unfold rd
    rw [List.head?_map, head_last, Dg.dig_some (by omega)]
    rfl
theorem ch_toNat (d : Int) (h : 0 ≤ d ∧ d ≤ 9) : ((Dg.ch d).toNat : Int) = 48 + d := by
  have := (Dg.ch_isD d h).2
  unfold Dg.dv at this
  omega
theorem neg_of_head {l : List UInt8} {c : UInt8} (h : l.head? = some c) (hc : c.toNat ≠ 45) : isNeg l = false := by
  unfold isNeg
  rw [h]
  show (c == 45) = false
  rw [beq_eq_false_iff_ne]
  intro e
  subst e
  exact hc rfl
theorem rd_ok (u : Nat) (h : u ≠ 0) : pOk (rd u) ∧ pVal (rd u) = u ∧ pOk (45 :: rd u) ∧ pVal (45 :: rd u) = -(u : Int) := by
  obtain ⟨d, d1, d2, hd⟩ := rd_head u h
  have hn := ch_toNat d ⟨by omega, d2⟩
  have hneg : isNeg (rd u) = false := neg_of_head hd (by omega)
  have hds : dsOf (rd u) = rd u := by unfold dsOf; rw [hneg]; rfl
  have hne : rd u ≠ [] := by intro e; rw [e] at hd; simp at hd
  have h48 : ¬ (rd u).head? = some 48 := by
    rw [hd]
    intro e
    have e2 := congrArg UInt8.toNat (Option.some.inj e)
    have : (48 : UInt8).toNat = 48 := rfl
    omega
  have hneg2 : isNeg (45 :: rd u) = true := rfl
  have hds2 : dsOf (45 :: rd u) = rd u := by unfold dsOf; rw [hneg2]; rfl
  refine ⟨⟨by rw [hds]; exact hne, by rw [hds]; exact fun hx => h48 hx.1, by rw [hds]; exact rd_isD u⟩, ?_, ⟨by rw [hds2]; exact hne, by rw [hds2]; exact fun hx => h48 hx.1, by rw [hds2]; exact rd_isD u⟩, ?_⟩
  · unfold pVal; rw [hneg, hds, rd_val]; rfl
  · unfold pVal; rw [hneg2, hds2, rd_val]; rfl
theorem itoa_rd (n : Int) (h : n ≠ 0) : Lib.itoa n = if n < 0 then 45 :: rd n.natAbs else rd n.natAbs := by
  unfold Lib.itoa
  split
  · rw [Dg.decDigits_dl _ (by omega)]; rfl
  · rw [show n.toNat = n.natAbs by omega, Dg.decDigits_dl _ (by omega)]; rfl
theorem itoa_zero : Lib.itoa 0 = [48] := by simp [Lib.itoa, Lib.decDigits]
/-- A number's text is read as the number. -/
theorem itoa_ok (n : Int) : pOk (Lib.itoa n) ∧ pVal (Lib.itoa n) = n := by
  by_cases h : n = 0
  · subst h
    rw [itoa_zero]
    refine ⟨⟨?_, ?_, ?_⟩, ?_⟩
    · show dsOf [48] ≠ []
      decide
    · intro hx
      have := hx.2
      simp at this
    · intro c hc
      have : c = 48 := by simpa [dsOf, isNeg] using hc
      subst this
      unfold Dg.isD
      decide
    · decide
  · obtain ⟨a, b, c, d⟩ := rd_ok n.natAbs (by omega)
    rw [itoa_rd n h]
    by_cases hn : n < 0
    · rw [if_pos hn]; exact ⟨c, by rw [d]; omega⟩
    · rw [if_neg hn]; exact ⟨a, by rw [b]; omega⟩
/-- A numeral is the text of its number. -/
theorem itoa_of (l : List UInt8) (h : pOk l) : Lib.itoa (pVal l) = l := by
  obtain ⟨h1, h2, h3⟩ := h
  obtain ⟨k1, k2⟩ := ds_len l
  have hval := Dg.nvA_val (dsOf l) h3 0
  have hdig := Dg.dv_digs (dsOf l) h3
  have hch : ((dsOf l).reverse.map Dg.dv).reverse.map Dg.ch = dsOf l := by
    rw [← List.map_reverse, List.reverse_reverse, List.map_map]
    have : (dsOf l).map (Dg.ch ∘ Dg.dv) = (dsOf l).map id := List.map_congr_left (fun c hc => Dg.ch_dv c (h3 c hc))
    rw [this, List.map_id]
  by_cases h48 : (dsOf l).head? = some 48
  · have hl : ¬ 1 < l.length := fun e => h2 ⟨h48, e⟩
    have hpos : 0 < (dsOf l).length := List.length_pos_iff.2 h1
    have hneg : isNeg l = false := by
      cases hb : isNeg l
      · rfl
      · have := k1 hb; omega
    have e := k2 hneg
    rw [e] at h48 hpos
    match l, h48, hpos, hl with
    | [c], h48, _, _ =>
      simp at h48
      subst h48
      have e0 : pVal [48] = 0 := by decide
      rw [e0, itoa_zero]
    | c :: d :: r, _, _, hl => simp at hl
  · have hcan : Dg.Canon ((dsOf l).reverse.map Dg.dv) := by
      refine ⟨hdig, Or.inr ?_⟩
      have hpos : 0 < (dsOf l).length := List.length_pos_iff.2 h1
      obtain ⟨c, r, hcr⟩ : ∃ c r, dsOf l = c :: r := by
        cases hd : dsOf l with
        | nil => exact absurd hd h1
        | cons c r => exact ⟨c, r, rfl⟩
      rw [hcr] at h48 h3 ⊢
      have hc := h3 c (by simp)
      unfold Dg.isD at hc
      simp only [List.head?_cons, Option.some.injEq] at h48
      have e : Dg.dig (((c :: r).reverse.map Dg.dv)) (((c :: r).reverse.map Dg.dv).length - 1) = Dg.dv c := by
        unfold Dg.dig
        simp [List.getD]
      rw [e]
      unfold Dg.dv
      intro hz
      exact h48 (UInt8.toNat_inj.1 (by have : (48 : UInt8).toNat = 48 := rfl; omega))
    have hN : (dsOf l).reverse.map Dg.dv = Dg.dl (Dg.nvA 0 (dsOf l)) := hcan.eq_of (by rw [hval]; simp)
    have hne : Dg.nvA 0 (dsOf l) ≠ 0 := by
      intro e
      rw [e, Dg.dl_zero] at hN
      simp at hN
      exact h1 hN
    have hds : dsOf l = rd (Dg.nvA 0 (dsOf l)) := by
      unfold rd
      rw [← hN, hch]
    unfold pVal
    cases hb : isNeg l
    · have e := k2 hb
      have hv : sg false (Dg.nvA 0 (dsOf l)) = ((Dg.nvA 0 (dsOf l) : Nat) : Int) := rfl
      rw [hv, itoa_rd _ (by omega), if_neg (by omega)]
      rw [show ((Dg.nvA 0 (dsOf l) : Nat) : Int).natAbs = Dg.nvA 0 (dsOf l) by omega, ← hds, e]
    · have hv : sg true (Dg.nvA 0 (dsOf l)) = -((Dg.nvA 0 (dsOf l) : Nat) : Int) := rfl
      rw [hv, itoa_rd _ (by omega), if_pos (by omega)]
      rw [show (-((Dg.nvA 0 (dsOf l) : Nat) : Int)).natAbs = Dg.nvA 0 (dsOf l) by omega, ← hds]
      cases l with
      | nil => simp [isNeg] at hb
      | cons c r =>
        have hc : c = 45 := by simpa [isNeg] using hb
        subst hc
        rfl
end Go.Proofs.YtopbbcbpanfigaaGreatDoor
