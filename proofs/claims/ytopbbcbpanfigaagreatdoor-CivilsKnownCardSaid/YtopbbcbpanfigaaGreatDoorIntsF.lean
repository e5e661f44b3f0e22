/-
  MORE CONTRACTS IN THE FORMS THAT THE LAWS USE: whole numbers' texts, sums that fit or do not.
-/
import Derived.Test.YtopbbcbpanfigaaGreatDoorIntsE
import Derived.Test.YtopbbcbpanfigaaGreatDoorNumeral
import Derived.Lib.ItoaLen
import Derived.IntWalk
namespace Go.Proofs.YtopbbcbpanfigaaGreatDoor
open Go.RowKit
theorem lenI (n : Int) (h : I64 n) : (Dg.dl n.natAbs).length ≤ 1000 := len_of (by have := h.1; have := h.2; omega)
theorem rText (v : Value) (x : Int) (w : World) (hv : IsN w v x) (hl : (Dg.dl x.natAbs).length ≤ 1000) :
    Calls Tryz.prog 50 #[v] w fun e w' => e = .returned (.string ⟨(Lib.itoa x).toArray⟩) ∧ Dn w w' := by
  by_cases h : x = 0
  · subst h; exact rText_zero v w hv
  · exact rText_nz v x w hv h hl
theorem rOf_b (n : Int) (w : World) (hn : I64 n) :
    Calls Tryz.prog 49 #[.int .i64 n] w fun e w' => ∃ b p m cap, e = .returned (.agg #[.bool b, .slice p m cap]) ∧ IsN w' (.agg #[.bool b, .slice p m cap]) n ∧ Dn w w' := by
  refine (rOf1 n w hn).mono ?_
  rintro e w' ⟨v, rfl, hI, hd⟩
  obtain ⟨b, p, m, cap, rfl⟩ := hI.shape
  exact ⟨b, p, m, cap, rfl, hI, hd⟩
theorem size_itoa (n : Int) (h : I64 n) : (⟨(Lib.itoa n).toArray⟩ : ByteArray).size ≤ 1000 := by
  have := Lib.itoa_length_le n h.1 h.2
  simp [ByteArray.size]; omega
theorem rParse_yes (s : ByteArray) (w : World) (hs : s.size ≤ 1000) (hp : pOk s.data.toList) :
    Calls Tryz.prog 53 #[.string s] w fun e w' => ∃ b p n cap, e = .returned (.tuple #[.agg #[.bool b, .slice p n cap], .bool true]) ∧ IsN w' (.agg #[.bool b, .slice p n cap]) (pVal s.data.toList) ∧ Dn w w' := by
  refine (rParse s w hs).mono ?_
  rintro e w' (⟨_, h⟩ | ⟨h, _⟩)
  · exact h
  · exact absurd hp h
theorem rParse_no (s : ByteArray) (w : World) (hs : s.size ≤ 1000) (hp : ¬ pOk s.data.toList) :
    Calls Tryz.prog 53 #[.string s] w fun e w' => e = .returned (.tuple #[.agg #[.bool false, .slice none 0 0], .bool false]) ∧ Dn w w' := by
  refine (rParse s w hs).mono ?_
  rintro e w' (⟨h, _⟩ | ⟨_, h⟩)
  · exact absurd h hp
  · exact h
theorem pVal_len (s : ByteArray) (hs : s.size ≤ 1000) (hp : pOk s.data.toList) : (Dg.dl (pVal s.data.toList).natAbs).length ≤ 1000 := by
  have e : (pVal s.data.toList).natAbs = Dg.nvA 0 (dsOf s.data.toList) := by unfold pVal sg; split <;> omega
  rw [e]
  refine Dg.dl_len ?_
  rw [Dg.nvA_val _ hp.2.2]
  have h := Dg.val_lt (Dg.dv_digs _ hp.2.2)
  have h2 : (dsOf s.data.toList).length ≤ 1000 := by
    have := len_is s
    unfold dsOf
    split <;> simp <;> omega
  have h3 := Dg.p10_mono h2
  simp at h ⊢
  omega
/-- What a sum of whole numbers z gives as an int64 and an error. -/
def Fits (z s e : Int) : Prop := (I64 z ∧ s = z ∧ e = 0) ∨ (¬ I64 z ∧ s = 0 ∧ e = 15)
theorem fits_ex (z : Int) : ∃ s e, Fits z s e := by
  by_cases h : I64 z
  · exact ⟨z, 0, Or.inl ⟨h, rfl, rfl⟩⟩
  · exact ⟨0, 15, Or.inr ⟨h, rfl, rfl⟩⟩
theorem Fits.i64 {z s e : Int} (h : Fits z s e) : I64 s := by
  rcases h with ⟨h, rfl, _⟩ | ⟨_, rfl, _⟩
  · exact h
  · decide
def Len (z : Int) : Prop := (Dg.dl z.natAbs).length ≤ 1000
theorem Len.of {z : Int} (h : z.natAbs ≤ 85070591730234615865843651857942052864) : Len z := by
  unfold Len
  refine Nat.le_trans (Dg.dl_len (k := 39) ?_) (by decide)
  have e : Dg.p10 39 = 1000000000000000000000000000000000000000 := by decide +kernel
  rw [e]; omega
theorem mul_natAbs_le (a b : Int) (ha : I64 a) (hb : I64 b) : (a * b).natAbs ≤ 85070591730234615865843651857942052864 := by
  rw [Int.natAbs_mul]
  have h1 : a.natAbs ≤ 9223372036854775808 := by have := ha.1; have := ha.2; omega
  have h2 : b.natAbs ≤ 9223372036854775808 := by have := hb.1; have := hb.2; omega
  exact Nat.mul_le_mul h1 h2
theorem sub_any (a b z s e : Int) (w : World) (ha : I64 a) (hb : I64 b) (hz : a - b = z) (hf : Fits z s e) :
    Calls Tryz.prog 98 #[.int .i64 a, .int .i64 b] w fun r w' => r = .returned (.tuple #[.int .i64 s, .int .i64 e]) ∧ w = w' := by
  subst hz
  rcases hf with ⟨h, rfl, rfl⟩ | ⟨h, rfl, rfl⟩
  · exact isub_fits a b w ha hb h
  · exact isub_over a b w ha hb h
theorem rOf_c (n : Int) (w : World) (hn : I64 n) :
    Calls Tryz.prog 49 #[.int .i64 n] w fun e w' => ∃ b p m cap, e = .returned (.agg #[.bool b, .slice p m cap]) ∧ IsN w' (.agg #[.bool b, .slice p m cap]) n ∧ Dn w w' := by
  refine (rOf1 n w hn).mono ?_
  rintro e w' ⟨v, rfl, hI, hd⟩
  obtain ⟨b, p, m, cap, rfl⟩ := hI.shape
  exact ⟨b, p, m, cap, rfl, hI, hd⟩
theorem rNeg_c (v : Value) (x : Int) (w : World) (hv : IsN w v x) :
    Calls Tryz.prog 54 #[v] w fun e w' => ∃ b p m cap, e = .returned (.agg #[.bool b, .slice p m cap]) ∧ IsN w' (.agg #[.bool b, .slice p m cap]) (-x) ∧ Dn w w' := by
  refine (rNeg v x w hv).mono ?_
  rintro e w' ⟨v, rfl, hI, hd⟩
  obtain ⟨b, p, m, cap, rfl⟩ := hI.shape
  exact ⟨b, p, m, cap, rfl, hI.dn hd, hd⟩
theorem rAdd_c (va vb : Value) (x y : Int) (w : World) (hva : IsN w va x) (hvb : IsN w vb y) (hx : Len x) (hy : Len y) :
    Calls Tryz.prog 97 #[va, vb] w fun e w' => ∃ b p m cap, e = .returned (.agg #[.bool b, .slice p m cap]) ∧ IsN w' (.agg #[.bool b, .slice p m cap]) (x + y) ∧ Dn w w' :=
  (rAdd va vb x y w hva hvb hx hy).mono fun _ _ ⟨b, p, m, cap, he, hI, hd, _⟩ => ⟨b, p, m, cap, he, hI, hd⟩
end Go.Proofs.YtopbbcbpanfigaaGreatDoor
