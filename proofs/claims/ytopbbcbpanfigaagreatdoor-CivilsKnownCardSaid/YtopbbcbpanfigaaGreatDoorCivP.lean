/-
  PLAIN LAWS OF CIVIL DAYS' TEXTS: no program in sight.
-/
import Derived.Test.YtopbbcbpanfigaaGreatDoorNumeral
namespace Go.Proofs.YtopbbcbpanfigaaGreatDoor
open Go.RowKit
set_option linter.unusedSimpArgs false
/-- The digits of a number that is not negative. -/
def dcm (u : Nat) : List UInt8 := if u = 0 then [48] else rd u
theorem itoa_pos (n : Int) (h : 0 ≤ n) : Lib.itoa n = dcm n.natAbs := by
  unfold dcm
  by_cases h0 : n = 0
  · subst h0; exact itoa_zero
  · rw [itoa_rd n h0, if_neg (by omega), if_neg (by omega)]
theorem itoa_neg (n : Int) (h : n < 0) : Lib.itoa n = 45 :: dcm n.natAbs := by
  unfold dcm
  rw [itoa_rd n (by omega), if_pos h, if_neg (by omega)]
theorem dcm_isD (u : Nat) : ∀ c ∈ dcm u, Dg.isD c := by
  unfold dcm
  split
  · intro c hc; simp at hc; subst hc; unfold Dg.isD; decide
  · exact rd_isD u
theorem dcm_val (u : Nat) : Dg.nvA 0 (dcm u) = u := by
  unfold dcm
  split
  · subst u; decide
  · exact rd_val u
theorem dcm_ne (u : Nat) : dcm u ≠ [] := by
  unfold dcm
  split
  · simp
  · rename_i h
    intro e
    obtain ⟨d, _, _, hd⟩ := rd_head u h
    rw [e] at hd; simp at hd
theorem dcm_pos (u : Nat) : 1 ≤ (dcm u).length := List.length_pos_iff.2 (dcm_ne u)
theorem rd_len (u k : Nat) (h : (u : Int) < Dg.p10 k) : (rd u).length ≤ k := by
  unfold rd
  rw [List.length_map, List.length_reverse]
  exact Dg.dl_len h
theorem dcm_len (u k : Nat) (hk : 1 ≤ k) (h : (u : Int) < Dg.p10 k) : (dcm u).length ≤ k := by
  unfold dcm
  split
  · exact hk
  · exact rd_len u k h
theorem dcm_two (u : Nat) (h : u < 100) : (dcm u).length ≤ 2 := dcm_len u 2 (by decide) (by simp only [Dg.p10]; omega)
/-- Zeros ahead, to so many digits. -/
def padd (k : Nat) (l : List UInt8) : List UInt8 := List.replicate (k - l.length) 48 ++ l
theorem padd_len (k : Nat) (l : List UInt8) : (padd k l).length = max k l.length := by unfold padd; simp; omega
theorem padd_isD (k : Nat) (l : List UInt8) (h : ∀ c ∈ l, Dg.isD c) : ∀ c ∈ padd k l, Dg.isD c := by
  unfold padd
  intro c hc
  rcases List.mem_append.1 hc with hc | hc
  · rw [List.mem_replicate] at hc; obtain ⟨_, rfl⟩ := hc; unfold Dg.isD; decide
  · exact h c hc
theorem nvA_zeros (k : Nat) (l : List UInt8) : Dg.nvA 0 (List.replicate k 48 ++ l) = Dg.nvA 0 l := by
  induction k with
  | zero => rfl
  | succ k ih => rw [List.replicate_succ, List.cons_append, Dg.nvA_cons]; exact ih
theorem padd_val (k : Nat) (l : List UInt8) : Dg.nvA 0 (padd k l) = Dg.nvA 0 l := nvA_zeros _ _
/-- The text of a right civil day. -/
def cT (y m d : Int) : List UInt8 := (if y < 0 then [45] else []) ++ (padd 4 (dcm y.natAbs) ++ 45 :: (padd 2 (dcm m.natAbs) ++ 45 :: padd 2 (dcm d.natAbs)))
/-- The parts of a text. -/
def nd (c : UInt8) : Bool := c != 45
def sA (l : List UInt8) : List UInt8 := (dsOf l).takeWhile nd
def rA (l : List UInt8) : List UInt8 := (dsOf l).dropWhile nd
def sB (l : List UInt8) : List UInt8 := ((rA l).drop 1).takeWhile nd
def rB (l : List UInt8) : List UInt8 := ((rA l).drop 1).dropWhile nd
def sC (l : List UInt8) : List UInt8 := ((rB l).drop 1).takeWhile nd
def rC (l : List UInt8) : List UInt8 := ((rB l).drop 1).dropWhile nd
def AllD (l : List UInt8) : Prop := ∀ c ∈ l, Dg.isD c
instance decAllD (l : List UInt8) : Decidable (AllD l) := by unfold AllD Dg.isD; infer_instance
/-- A part that serves for a number of n digits, or more. -/
def Part (p : List UInt8) (n : Nat) (more : Bool) : Prop := n ≤ p.length ∧ ¬ (n < p.length ∧ (more = false ∨ p.head? = some 48)) ∧ AllD p
instance decPart (p : List UInt8) (n : Nat) (more : Bool) : Decidable (Part p n more) := by unfold Part; infer_instance
theorem part2 (p : List UInt8) : Part p 2 false ↔ p.length = 2 ∧ AllD p := by unfold Part; constructor <;> intro h <;> refine ⟨?_, ?_⟩ <;> simp_all <;> omega
def yV (l : List UInt8) : Int := sg (isNeg l) (Dg.nvA 0 (sA l))
def mV (l : List UInt8) : Int := Dg.nvA 0 (sB l)
def dV (l : List UInt8) : Int := Dg.nvA 0 (sC l)
/-- The text has the form of a civil day's. -/
structure CF (l : List UInt8) : Prop where
  a : Part (sA l) 4 true
  ra : rA l ≠ []
  b : Part (sB l) 2 false
  rb : rB l ≠ []
  c : Part (sC l) 2 false
  rc : rC l = []
  nz : ¬ (isNeg l = true ∧ Dg.nvA 0 (sA l) = 0)
theorem nd_of_isD {c : UInt8} (h : Dg.isD c) : nd c = true := by
  unfold nd
  unfold Dg.isD at h
  rw [bne_iff_ne]
  rintro rfl
  have : (45 : UInt8).toNat = 45 := rfl
  omega
theorem tw_all {p : UInt8 → Bool} (a r : List UInt8) (h : ∀ c ∈ a, p c = true) (hr : ∀ x, r.head? = some x → p x = false) : (a ++ r).takeWhile p = a ∧ (a ++ r).dropWhile p = r := by
  induction a with
  | nil =>
    cases r with
    | nil => exact ⟨rfl, rfl⟩
    | cons x r => have := hr x rfl; simp [this]
  | cons x a ih =>
    obtain ⟨i1, i2⟩ := ih (fun c hc => h c (by simp [hc]))
    have hx := h x (by simp)
    simp [hx, i1, i2]
theorem tw_split (p : UInt8 → Bool) (l : List UInt8) : l = l.takeWhile p ++ l.dropWhile p := List.takeWhile_append_dropWhile.symm
theorem dw_head (l : List UInt8) (h : l.dropWhile nd ≠ []) : l.dropWhile nd = 45 :: (l.dropWhile nd).drop 1 := by
  induction l with
  | nil => simp at h
  | cons x l ih =>
    by_cases hx : nd x = true
    · simp only [List.dropWhile_cons, hx, if_true] at h ⊢; exact ih h
    · have e : x = 45 := by
        unfold nd at hx
        simpa using hx
      subst e
      simp [List.dropWhile_cons, nd]
theorem ds_sign (l : List UInt8) : l = (if isNeg l = true then [45] else []) ++ dsOf l := by
  unfold dsOf
  cases l with
  | nil => rfl
  | cons x l =>
    by_cases hx : isNeg (x :: l) = true
    · have e : x = 45 := by unfold isNeg at hx; simpa using hx
      subst e
      simp [hx]
    · simp [hx]
/-- Such a text, part by part. -/
theorem CF.eq {l : List UInt8} (h : CF l) : l = (if isNeg l = true then [45] else []) ++ (sA l ++ 45 :: (sB l ++ 45 :: sC l)) := by
  have e1 := ds_sign l
  have e2 : dsOf l = sA l ++ rA l := tw_split nd _
  have e3 : rA l = 45 :: (rA l).drop 1 := dw_head _ h.ra
  have e4 : (rA l).drop 1 = sB l ++ rB l := tw_split nd _
  have e5 : rB l = 45 :: (rB l).drop 1 := dw_head _ h.rb
  have e6 : (rB l).drop 1 = sC l ++ rC l := tw_split nd _
  have e7 : dsOf l = sA l ++ 45 :: (sB l ++ 45 :: sC l) := by
    rw [e2]
    congr 1
    rw [e3]
    congr 1
    rw [e4]
    congr 1
    rw [e5]
    congr 1
    rw [e6, h.rc, List.append_nil]
  rw [← e7]; exact e1
theorem parts_of (neg : Bool) (a b c : List UInt8) (ha : AllD a) (hb : AllD b) (hc : AllD c) (hne : a ≠ []) (l : List UInt8) (hl : l = (if neg = true then [45] else []) ++ (a ++ 45 :: (b ++ 45 :: c))) :
    isNeg l = neg ∧ sA l = a ∧ rA l = 45 :: (b ++ 45 :: c) ∧ sB l = b ∧ rB l = 45 :: c ∧ sC l = c ∧ rC l = [] := by
  have hn : isNeg l = neg := by
    cases neg
    · cases a with
      | nil => exact absurd rfl hne
      | cons x a =>
        have := nd_of_isD (ha x (by simp))
        subst hl
        unfold isNeg nd at *
        simpa using this
    · subst hl; rfl
  have hd : dsOf l = a ++ 45 :: (b ++ 45 :: c) := by
    unfold dsOf
    rw [hn]
    cases neg
    · subst hl; rfl
    · subst hl; rfl
  have h45 : ∀ (r : List UInt8) x, (45 :: r).head? = some x → nd x = false := by
    intro r x hx; simp at hx; subst hx; rfl
  obtain ⟨t1, t2⟩ := tw_all a (45 :: (b ++ 45 :: c)) (fun x hx => nd_of_isD (ha x hx)) (h45 _)
  obtain ⟨t3, t4⟩ := tw_all b (45 :: c) (fun x hx => nd_of_isD (hb x hx)) (h45 _)
  obtain ⟨t5, t6⟩ := tw_all c [] (fun x hx => nd_of_isD (hc x hx)) (fun x hx => by simp at hx)
  rw [List.append_nil] at t5 t6
  have hA : sA l = a := by unfold sA; rw [hd]; exact t1
  have hRA : rA l = 45 :: (b ++ 45 :: c) := by unfold rA; rw [hd]; exact t2
  have hB : sB l = b := by unfold sB; rw [hRA]; exact t3
  have hRB : rB l = 45 :: c := by unfold rB; rw [hRA]; exact t4
  refine ⟨hn, hA, hRA, hB, hRB, ?_, ?_⟩
  · unfold sC; rw [hRB]; exact t5
  · unfold rC; rw [hRB]; exact t6
/-- What a text's numbers are, of the right form. -/
theorem cf_of (neg : Bool) (a b c : List UInt8) (ha : Part a 4 true) (hb : Part b 2 false) (hc : Part c 2 false) (hz : ¬ (neg = true ∧ Dg.nvA 0 a = 0)) (l : List UInt8) (hl : l = (if neg = true then [45] else []) ++ (a ++ 45 :: (b ++ 45 :: c))) :
    CF l ∧ yV l = sg neg (Dg.nvA 0 a) ∧ mV l = Dg.nvA 0 b ∧ dV l = Dg.nvA 0 c := by
  have hne : a ≠ [] := by intro e; have := ha.1; rw [e] at this; simp at this
  obtain ⟨h1, h2, h3, h4, h5, h6, h7⟩ := parts_of neg a b c ha.2.2 hb.2.2 hc.2.2 hne l hl
  refine ⟨⟨h2 ▸ ha, by rw [h3]; simp, h4 ▸ hb, by rw [h5]; simp, h6 ▸ hc, h7, by rw [h1, h2]; exact hz⟩, ?_, ?_, ?_⟩
  · unfold yV; rw [h1, h2]
  · unfold mV; rw [h4]
  · unfold dV; rw [h6]
theorem part_padd2 (u : Nat) (h : u < 100) : Part (padd 2 (dcm u)) 2 false := by
  have h2 := dcm_two u h
  rw [part2]
  refine ⟨?_, padd_isD _ _ (dcm_isD u)⟩
  rw [padd_len]; omega
theorem part_padd4 (u : Nat) : Part (padd 4 (dcm u)) 4 true := by
  refine ⟨by rw [padd_len]; omega, ?_, padd_isD _ _ (dcm_isD u)⟩
  rintro ⟨h1, h2⟩
  rw [padd_len] at h1
  rcases h2 with h2 | h2
  · cases h2
  · have h3 : 4 - (dcm u).length = 0 := by omega
    unfold padd at h2
    rw [h3] at h2
    by_cases h0 : u = 0
    · subst h0; simp [dcm] at h1
    · obtain ⟨d, d1, d2, hd⟩ := rd_head u h0
      have hn := ch_toNat d ⟨by omega, d2⟩
      simp only [List.replicate_zero, List.nil_append, dcm, if_neg h0, hd, Option.some.injEq] at h2
      have e2 := congrArg UInt8.toNat h2
      have : (48 : UInt8).toNat = 48 := rfl
      omega
/-- The text of a civil day is read as it. -/
theorem cT_form (y m d : Int) (hm : 0 ≤ m ∧ m < 100) (hd : 0 ≤ d ∧ d < 100) : CF (cT y m d) ∧ yV (cT y m d) = y ∧ mV (cT y m d) = m ∧ dV (cT y m d) = d := by
  have h := cf_of (decide (y < 0)) (padd 4 (dcm y.natAbs)) (padd 2 (dcm m.natAbs)) (padd 2 (dcm d.natAbs)) (part_padd4 _) (part_padd2 _ (by omega)) (part_padd2 _ (by omega))
    (by rw [padd_val, dcm_val]; simp only [decide_eq_true_eq]; omega) (cT y m d) (by unfold cT; simp only [decide_eq_true_eq])
  rw [padd_val, dcm_val, padd_val, dcm_val, padd_val, dcm_val] at h
  refine ⟨h.1, h.2.1.trans ?_, h.2.2.1.trans (by omega), h.2.2.2.trans (by omega)⟩
  unfold sg
  by_cases hy : y < 0
  · simp only [hy, decide_true, if_true]; omega
  · simp only [hy, decide_false]; simp; omega
theorem dw48_split (a : List UInt8) : ∃ j, a = List.replicate j 48 ++ a.dropWhile (· == 48) := by
  induction a with
  | nil => exact ⟨0, rfl⟩
  | cons x a ih =>
    by_cases hx : x = 48
    · subst hx
      obtain ⟨j, hj⟩ := ih
      refine ⟨j + 1, ?_⟩
      simp only [List.dropWhile_cons, beq_self_eq_true, if_true, List.replicate_succ, List.cons_append]
      rw [← hj]
    · refine ⟨0, ?_⟩
      have : (x == 48) = false := by simpa using hx
      simp [List.dropWhile_cons, this]
theorem dw48_head (a : List UInt8) : (a.dropWhile (· == 48)).head? ≠ some 48 := by
  induction a with
  | nil => simp
  | cons x a ih =>
    by_cases hx : x = 48
    · subst hx; simpa [List.dropWhile_cons] using ih
    · have : (x == 48) = false := by simpa using hx
      simp [List.dropWhile_cons, this, hx]
theorem neg_of_allD {l : List UInt8} (h : AllD l) : isNeg l = false := by
  cases l with
  | nil => rfl
  | cons x l =>
    have := nd_of_isD (h x (by simp))
    unfold isNeg nd at *
    simpa using this
theorem ds_allD {l : List UInt8} (h : AllD l) : dsOf l = l := (ds_len l).2 (neg_of_allD h)
theorem pOk_of {l : List UInt8} (h : AllD l) (hne : l ≠ []) (h48 : l.head? ≠ some 48) : pOk l ∧ pVal l = Dg.nvA 0 l := by
  have hn := neg_of_allD h
  have hd := ds_allD h
  refine ⟨⟨by rw [hd]; exact hne, by rw [hd]; exact fun hx => h48 hx.1, by rw [hd]; exact h⟩, ?_⟩
  unfold pVal
  rw [hn, hd]
  rfl
/-- Digits are what their number's digits are, with zeros ahead. -/
theorem padd_of (k : Nat) (hk : 1 ≤ k) (a : List UInt8) (ha : AllD a) (hl : k ≤ a.length) (hz : ¬ (k < a.length ∧ a.head? = some 48)) : padd k (dcm (Dg.nvA 0 a)) = a := by
  obtain ⟨j, hj⟩ := dw48_split a
  have h48 := dw48_head a
  generalize a.dropWhile (· == 48) = r at hj h48
  have hr : AllD r := fun c hc => ha c (by rw [hj]; simp [hc])
  have hv : Dg.nvA 0 a = Dg.nvA 0 r := by rw [hj, nvA_zeros]
  have hlen : a.length = j + r.length := by rw [hj]; simp
  have hj0 : 0 < j → a.length = k := by
    intro h
    have : a.head? = some 48 := by
      rw [hj]
      obtain ⟨i, rfl⟩ : ∃ i, j = i + 1 := ⟨j - 1, by omega⟩
      simp [List.replicate_succ]
    have : ¬ k < a.length := fun e => hz ⟨e, this⟩
    omega
  rw [hv]
  by_cases hrn : r = []
  · subst hrn
    have e0 : Dg.nvA 0 [] = 0 := rfl
    rw [e0]
    simp at hlen
    have hk2 := hj0 (by omega)
    obtain rfl : j = k := by omega
    rw [hj]
    simp only [dcm, if_true, padd, List.append_nil, List.length_cons, List.length_nil]
    rw [show ([48] : List UInt8) = List.replicate 1 48 from rfl, List.replicate_append_replicate]
    congr 1
    omega
  · obtain ⟨p1, p2⟩ := pOk_of hr hrn h48
    have h3 := itoa_of r p1
    rw [p2, itoa_pos _ (by omega)] at h3
    rw [show ((Dg.nvA 0 r : Nat) : Int).natAbs = Dg.nvA 0 r by omega] at h3
    rw [h3]
    by_cases hj1 : 0 < j
    · have := hj0 hj1
      unfold padd
      rw [show k - r.length = j by omega, ← hj]
    · obtain rfl : j = 0 := by omega
      simp at hj
      subst hj
      unfold padd
      rw [show k - a.length = 0 by omega]
      rfl
/-- A text of the form is the text of what it is read as. -/
theorem cT_of (l : List UInt8) (h : CF l) : cT (yV l) (mV l) (dV l) = l := by
  have hb := (part2 _).1 h.b
  have hc := (part2 _).1 h.c
  have ea := padd_of 4 (by omega) (sA l) h.a.2.2 h.a.1 (fun e => h.a.2.1 ⟨e.1, Or.inr e.2⟩)
  have eb := padd_of 2 (by omega) (sB l) hb.2 (by omega) (fun e => by omega)
  have ec := padd_of 2 (by omega) (sC l) hc.2 (by omega) (fun e => by omega)
  have hnz := h.nz
  have hsgn : (yV l < 0 ↔ isNeg l = true) ∧ (yV l).natAbs = Dg.nvA 0 (sA l) := by
    unfold yV sg
    cases hn : isNeg l
    · simp
    · simp only [hn, true_and] at hnz
      simp; omega
  have hm : (mV l).natAbs = Dg.nvA 0 (sB l) := by unfold mV; omega
  have hd : (dV l).natAbs = Dg.nvA 0 (sC l) := by unfold dV; omega
  conv => rhs; rw [h.eq]
  unfold cT
  rw [hsgn.2, hm, hd, ea, eb, ec]
  by_cases hy : isNeg l = true
  · rw [if_pos (hsgn.1.2 hy), if_pos hy]
  · rw [if_neg (fun e => hy (hsgn.1.1 e)), if_neg hy]
theorem nv_len (a : List UInt8) (h : AllD a) : (Dg.nvA 0 a : Int) < Dg.p10 a.length := by
  have e := Dg.nvA_val a h 0
  have h2 := Dg.val_lt (Dg.dv_digs a h)
  simp only [List.length_map, List.length_reverse] at h2
  omega
theorem mV_bd {l : List UInt8} (h : CF l) : 0 ≤ mV l ∧ mV l < 100 := by
  have hb := (part2 _).1 h.b
  have := nv_len _ hb.2
  rw [hb.1] at this
  have e : Dg.p10 2 = 100 := by decide
  unfold mV
  omega
theorem dV_bd {l : List UInt8} (h : CF l) : 0 ≤ dV l ∧ dV l < 100 := by
  have hb := (part2 _).1 h.c
  have := nv_len _ hb.2
  rw [hb.1] at this
  have e : Dg.p10 2 = 100 := by decide
  unfold dV
  omega
/-- The year's part of a text, as the reference looks at it. -/
def YF (y : List UInt8) : Prop := 4 ≤ (dsOf y).length ∧ AllD (dsOf y) ∧ ¬ (4 < (dsOf y).length ∧ (dsOf y).head? = some 48) ∧ ¬ (isNeg y = true ∧ dsOf y = [48, 48, 48, 48])
theorem nz_iff (a : List UInt8) (h : Part a 4 true) : Dg.nvA 0 a = 0 ↔ a = [48, 48, 48, 48] := by
  constructor
  · intro e
    have := padd_of 4 (by omega) a h.2.2 h.1 (fun e => h.2.1 ⟨e.1, Or.inr e.2⟩)
    rw [e] at this
    rw [← this]
    decide
  · rintro rfl; decide
theorem six_split (l : List UInt8) (h : 10 ≤ l.length) : ∃ y a b c d e f, l = y ++ [a, b, c, d, e, f] ∧ y.length = l.length - 6 := by
  have e1 : l = l.take (l.length - 6) ++ l.drop (l.length - 6) := (List.take_append_drop _ _).symm
  have e2 : (l.drop (l.length - 6)).length = 6 := by rw [List.length_drop]; omega
  have e3 : (l.take (l.length - 6)).length = l.length - 6 := by rw [List.length_take]; omega
  generalize l.take (l.length - 6) = y at e1 e3
  generalize l.drop (l.length - 6) = r at e1 e2
  match r, e2 with
  | [a, b, c, d, e, f], _ => exact ⟨y, a, b, c, d, e, f, e1, e3⟩
theorem cf_long {l : List UInt8} (h : CF l) : 10 ≤ l.length := by
  have e := congrArg List.length h.eq
  have h1 := h.a.1
  have hb := (part2 _).1 h.b
  have hc := (part2 _).1 h.c
  simp only [List.length_append, List.length_cons] at e
  omega
theorem allD2 (b c : UInt8) : AllD [b, c] ↔ Dg.isD b ∧ Dg.isD c := by unfold AllD; simp
theorem two_of {b : List UInt8} (h : b.length = 2) : ∃ x y, b = [x, y] := by
  match b, h with
  | [x, y], _ => exact ⟨x, y, rfl⟩
/-- The form, told from the text's end. -/
theorem cf_iff (y : List UInt8) (a b c d e f : UInt8) : CF (y ++ [a, b, c, d, e, f]) ↔ (a = 45 ∧ d = 45 ∧ (Dg.isD e ∧ Dg.isD f) ∧ (Dg.isD b ∧ Dg.isD c) ∧ YF y) := by
  constructor
  · intro h
    have he := h.eq
    obtain ⟨hb, hb2⟩ := (part2 _).1 h.b
    obtain ⟨hc, hc2⟩ := (part2 _).1 h.c
    have ha := h.a
    have hn := h.nz
    generalize hN : isNeg (y ++ [a, b, c, d, e, f]) = neg at he hn
    generalize sA (y ++ [a, b, c, d, e, f]) = A at he ha hn
    generalize sB (y ++ [a, b, c, d, e, f]) = Bb at he hb hb2
    generalize sC (y ++ [a, b, c, d, e, f]) = Cc at he hc hc2
    obtain ⟨x1, x2, rfl⟩ := two_of hb
    obtain ⟨x3, x4, rfl⟩ := two_of hc
    have he2 : y ++ [a, b, c, d, e, f] = ((if neg = true then [45] else []) ++ A) ++ [45, x1, x2, 45, x3, x4] := by rw [he]; simp
    have hl : y.length = ((if neg = true then [45] else []) ++ A).length := by have := congrArg List.length he2; simp at this ⊢; omega
    obtain ⟨e1, e2⟩ := List.append_inj he2 hl
    simp only [List.cons.injEq, and_true] at e2
    obtain ⟨rfl, rfl, rfl, rfl, rfl, rfl⟩ := e2
    refine ⟨rfl, rfl, (allD2 _ _).1 hc2, (allD2 _ _).1 hb2, ?_⟩
    have hA0 : A ≠ [] := by intro e; have := ha.1; rw [e] at this; simp at this
    have hny : isNeg y = neg ∧ dsOf y = A := by
      have hneg : neg = false → isNeg A = false := fun _ => neg_of_allD ha.2.2
      cases neg
      · simp at e1; subst e1; exact ⟨hneg rfl, (ds_len _).2 (hneg rfl)⟩
      · subst e1; exact ⟨rfl, rfl⟩
    refine ⟨by rw [hny.2]; exact ha.1, by rw [hny.2]; exact ha.2.2, by rw [hny.2]; exact fun hx => ha.2.1 ⟨hx.1, Or.inr hx.2⟩, ?_⟩
    rw [hny.1, hny.2]
    rintro ⟨h1, h2⟩
    exact hn ⟨h1, (nz_iff A ha).2 h2⟩
  · rintro ⟨rfl, rfl, ⟨h1, h2⟩, ⟨h3, h4⟩, h5, h6, h7, h8⟩
    have hp : Part (dsOf y) 4 true := ⟨h5, fun hx => h7 ⟨hx.1, hx.2.resolve_left (by simp)⟩, h6⟩
    refine (cf_of (isNeg y) (dsOf y) [b, c] [e, f] hp ((part2 _).2 ⟨rfl, (allD2 _ _).2 ⟨h3, h4⟩⟩) ((part2 _).2 ⟨rfl, (allD2 _ _).2 ⟨h1, h2⟩⟩) (fun hx => h8 ⟨hx.1, (nz_iff _ hp).1 hx.2⟩) _ ?_).1
    conv => lhs; rw [ds_sign y]
    simp
/-- What such a text's numbers are. -/
theorem cf_vals (y : List UInt8) (b c e f : UInt8) (h : CF (y ++ [45, b, c, 45, e, f])) :
    yV (y ++ [45, b, c, 45, e, f]) = sg (isNeg y) (Dg.nvA 0 (dsOf y)) ∧ mV (y ++ [45, b, c, 45, e, f]) = 10 * Dg.dv b + Dg.dv c ∧ dV (y ++ [45, b, c, 45, e, f]) = 10 * Dg.dv e + Dg.dv f := by
  obtain ⟨-, -, ⟨h1, h2⟩, ⟨h3, h4⟩, h5, h6, h7, h8⟩ := (cf_iff y 45 b c 45 e f).1 h
  have hp : Part (dsOf y) 4 true := ⟨h5, fun hx => h7 ⟨hx.1, hx.2.resolve_left (by simp)⟩, h6⟩
  obtain ⟨-, e1, e2, e3⟩ := cf_of (isNeg y) (dsOf y) [b, c] [e, f] hp ((part2 _).2 ⟨rfl, (allD2 _ _).2 ⟨h3, h4⟩⟩) ((part2 _).2 ⟨rfl, (allD2 _ _).2 ⟨h1, h2⟩⟩) (fun hx => h8 ⟨hx.1, (nz_iff _ hp).1 hx.2⟩) (y ++ [45, b, c, 45, e, f]) (by
    conv => lhs; rw [ds_sign y]
    simp)
  unfold Dg.isD at h1 h2 h3 h4
  refine ⟨e1, e2.trans ?_, e3.trans ?_⟩
  · simp only [Dg.nvA_cons, Dg.nvA_nil, Dg.dv]; omega
  · simp only [Dg.nvA_cons, Dg.nvA_nil, Dg.dv]; omega
end Go.Proofs.YtopbbcbpanfigaaGreatDoor
