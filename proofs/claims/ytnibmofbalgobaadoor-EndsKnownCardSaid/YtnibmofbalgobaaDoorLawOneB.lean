/-
  WALKS OF circalaw01: IntsText, IntsParse: each returns true. (Printed by wip/gen/law1b.py.)
-/
import Derived.Test.YtnibmofbalgobaaDoorLawOneA
import Derived.Test.YtnibmofbalgobaaDoorNumeral
import Derived.Lib.ItoaLen
namespace Go.Proofs.YtnibmofbalgobaaDoor
open Go.RowKit
theorem lenI (n : Int) (h : I64 n) : (Dg.dl n.natAbs).length ≤ 1000 := len_of (by have := h.1; have := h.2; omega)
theorem rText (v : Value) (x : Int) (w : World) (hv : IsN w v x) (hl : (Dg.dl x.natAbs).length ≤ 1000) :
    Calls Tryd.prog 37 #[v] w fun e w' => e = .returned (.string ⟨(Lib.itoa x).toArray⟩) ∧ Dn w w' := by
  by_cases h : x = 0
  · subst h; exact rText_zero v w hv
  · exact rText_nz v x w hv h hl
theorem rOf_b (n : Int) (w : World) (hn : I64 n) :
    Calls Tryd.prog 19 #[.int .i64 n] w fun e w' => ∃ b p m cap, e = .returned (.agg #[.bool b, .slice p m cap]) ∧ IsN w' (.agg #[.bool b, .slice p m cap]) n ∧ Dn w w' := by
  refine (rOf1 n w hn).mono ?_
  rintro e w' ⟨v, rfl, hI, hd⟩
  obtain ⟨b, p, m, cap, rfl⟩ := hI.shape
  exact ⟨b, p, m, cap, rfl, hI, hd⟩
theorem size_itoa (n : Int) (h : I64 n) : (⟨(Lib.itoa n).toArray⟩ : ByteArray).size ≤ 1000 := by
  have := Lib.itoa_length_le n h.1 h.2
  simp [ByteArray.size]; omega
set_option maxHeartbeats 4000000 in
set_option maxRecDepth 10000 in
theorem intsText_true (n : Int) (w : World) (hn : I64 n) (hE : EnvI w) :
    Calls Tryd.prog 6 #[.int .i64 n] w fun e w' => e = .returned (.bool true) ∧ Dn w w' := by
  obtain ⟨o1, o2⟩ := itoa_ok n
  have O1 := Lib.hid o1
  have O2 := Lib.hid o2
  have HN := Lib.hid hn
  have HL := Lib.hid (lenI n hn)
  have HZ := Lib.hid (size_itoa n hn)
  have hT := fun W (h : EnvI W) => itext n W hn h
  have hX := fun W v (h : IsN W v n) => rText v n W h HL.out
  generalize hs : (⟨(Lib.itoa n).toArray⟩ : ByteArray) = s at *
  have hl : s.data.toList = Lib.itoa n := by rw [← hs]
  rw [← hl] at o1 o2
  have P1 := Lib.hid o1
  have P2 := Lib.hid o2
  have HT := Lib.hid hT
  have HX := Lib.hid hX
  clear o1 o2 hn hT hX hs hl
  go_enter Tryd.func6, Tryd.ntmps6
  go_wp2_with fail
  refine (HT.out _ hE).mono ?_
  rintro e w1 ⟨rfl, qw1⟩
  have uw1 := qw1.dn
  clear qw1
  go_wp2_with fail
  refine (iparse_ok s n _ HZ.out P1.out P2.out HN.out (hE.dn uw1)).mono ?_
  rintro e w2 ⟨rfl, qw2⟩
  have uw2 := uw1.trans qw2
  clear qw2 uw1
  go_wp2_with fail
  refine (rOf_b n _ HN.out).mono ?_
  rintro e x1 ⟨b, p, m, cap, rfl, hI, qx⟩
  have ux := uw2.trans qx
  clear qx uw2
  go_wp2_with fail
  refine (HX.out _ _ hI).mono ?_
  rintro e w3 ⟨rfl, qw3⟩
  have uw3 := ux.trans qw3
  clear qw3 ux
  go_wp2_with fail
  refine (lgives n _).mono ?_
  rintro e w4 ⟨rfl, rfl⟩
  go_wp2_with fail
  refine (lives1 _ (hE.dn uw3)).mono ?_
  rintro e w5 ⟨rfl, qw5⟩
  have uw5 := uw3.trans qw5
  clear qw5 uw3
  go_wp2_with fail
  go_ret
  exact ⟨rfl, uw5⟩
theorem rParse_yes (s : ByteArray) (w : World) (hs : s.size ≤ 1000) (hp : pOk s.data.toList) :
    Calls Tryd.prog 38 #[.string s] w fun e w' => ∃ b p n cap, e = .returned (.tuple #[.agg #[.bool b, .slice p n cap], .bool true]) ∧ IsN w' (.agg #[.bool b, .slice p n cap]) (pVal s.data.toList) ∧ Dn w w' := by
  refine (rParse s w hs).mono ?_
  rintro e w' (⟨_, h⟩ | ⟨h, _⟩)
  · exact h
  · exact absurd hp h
theorem rParse_no (s : ByteArray) (w : World) (hs : s.size ≤ 1000) (hp : ¬ pOk s.data.toList) :
    Calls Tryd.prog 38 #[.string s] w fun e w' => e = .returned (.tuple #[.agg #[.bool false, .slice none 0 0], .bool false]) ∧ Dn w w' := by
  refine (rParse s w hs).mono ?_
  rintro e w' (⟨h, _⟩ | ⟨_, h⟩)
  · exact absurd h hp
  · exact h
theorem pVal_len (s : ByteArray) (hs : s.size ≤ 1000) (hp : pOk s.data.toList) : (Dg.dl (pVal s.data.toList).natAbs).length ≤ 1000 := by
  have e : (pVal s.data.toList).natAbs = Dg.nvA 0 (dsOf s.data.toList) := by unfold pVal sg; split <;> omega
  rw [e]
  refine Dg.dl_len ?_
  rw [Dg.nvA_val _ hp.2.2]
  have h := Dg.val_lt (Dg.dv_digs _ hp.2.2)
  have h2 : (dsOf s.data.toList).length ≤ 1000 := by
    have := len_is s
    unfold dsOf
    split <;> simp <;> omega
  have h3 := Dg.p10_mono h2
  simp at h ⊢
  omega
set_option maxHeartbeats 4000000 in
set_option maxRecDepth 10000 in
theorem intsParse_long (s : ByteArray) (w : World) (hs : 100 < s.size) (hm : s.size ≤ 9223372036854775807) (hE : EnvI w) :
    Calls Tryd.prog 7 #[.string s] w fun e w' => e = .returned (.bool true) ∧ Dn w w' := by
  have c1 : decide (100 < (s.size : Int)) = true := by rw [decide_eq_true_eq]; omega
  go_enter Tryd.func7, Tryd.ntmps7
  go_wp2_with fail
  refine (lives1 _ hE).mono ?_
  rintro e w1 ⟨rfl, qw1⟩
  have uw1 := qw1
  clear qw1
  go_wp2_with fail
  go_ret
  exact ⟨rfl, uw1⟩
set_option maxHeartbeats 4000000 in
set_option maxRecDepth 10000 in
theorem intsParse_bad (s : ByteArray) (w : World) (hs : s.size ≤ 100) (hp : ¬ pOk s.data.toList) (hE : EnvI w) :
    Calls Tryd.prog 7 #[.string s] w fun e w' => e = .returned (.bool true) ∧ Dn w w' := by
  have c1 : decide (100 < (s.size : Int)) = false := by rw [decide_eq_false_iff_not]; omega
  have hs2 : s.size ≤ 1000 := by omega
  have HP := Lib.hid hp
  clear hp
  go_enter Tryd.func7, Tryd.ntmps7
  go_wp2_with fail
  refine (iparse_bad s _ hs2 HP.out hE).mono ?_
  rintro e w1 ⟨rfl, qw1⟩
  have uw1 := qw1
  clear qw1
  go_wp2_with fail
  refine (rParse_no s _ hs2 HP.out).mono ?_
  rintro e x1 ⟨rfl, qx⟩
  have ux := uw1.trans qx
  clear qx uw1
  go_wp2_with fail
  refine (lfails 5 _).mono ?_
  rintro e w2 ⟨rfl, rfl⟩
  go_wp2_with fail
  refine (lives1 _ (hE.dn (ux.alloc _))).mono ?_
  rintro e w3 ⟨rfl, qw3⟩
  have uw3 := (ux.alloc _).trans qw3
  clear qw3
  go_wp2_with fail
  go_ret
  exact ⟨rfl, uw3⟩
set_option maxHeartbeats 4000000 in
set_option maxRecDepth 10000 in
theorem intsParse_fit (s : ByteArray) (w : World) (hs : s.size ≤ 100) (hp : pOk s.data.toList) (hi : I64 (pVal s.data.toList)) (hE : EnvI w) :
    Calls Tryd.prog 7 #[.string s] w fun e w' => e = .returned (.bool true) ∧ Dn w w' := by
  have c1 : decide (100 < (s.size : Int)) = false := by rw [decide_eq_false_iff_not]; omega
  have hs2 : s.size ≤ 1000 := by omega
  have HP := Lib.hid hp
  have HI := Lib.hid hi
  have HV := Lib.hid (itoa_of _ hp)
  have HPY := Lib.hid (fun W => rParse_yes s W hs2 hp)
  have HLN := Lib.hid (pVal_len s hs2 hp)
  generalize hx : pVal s.data.toList = x at *
  have HX := Lib.hid hx
  clear hp hi hx
  have HT := Lib.hid (fun W (h : EnvI W) => itext x W HI.out h)
  have hT := HT.out
  rw [HV.out] at hT
  have HT := Lib.hid hT
  clear hT
  go_enter Tryd.func7, Tryd.ntmps7
  go_wp2_with fail
  refine (iparse_ok s x _ hs2 HP.out HX.out HI.out hE).mono ?_
  rintro e w1 ⟨rfl, qw1⟩
  have uw1 := qw1
  clear qw1
  go_wp2_with fail
  refine (HPY.out _).mono ?_
  rintro e x1 ⟨b, p, m, cap, rfl, hI, qx⟩
  have ux := uw1.trans qx
  clear qx uw1
  go_wp2_with fail
  refine (lis_fit _ x _ (hI.dn ((Dn.refl _).alloc _)) HLN.out HI.out).mono ?_
  rintro e w2 ⟨rfl, qw2⟩
  have uw2 := (ux.alloc _).trans qw2
  clear qw2
  go_wp2_with fail
  refine (HT.out _ (hE.dn uw2)).mono ?_
  rintro e w3 ⟨rfl, qw3⟩
  have uw3 := uw2.trans qw3.dn
  clear qw3 uw2
  go_wp2_with fail
  refine (lives1 _ (hE.dn uw3)).mono ?_
  rintro e w4 ⟨rfl, qw4⟩
  have uw4 := uw3.trans qw4
  clear qw4 uw3
  go_wp2_with fail
  go_ret
  exact ⟨rfl, uw4⟩
set_option maxHeartbeats 4000000 in
set_option maxRecDepth 10000 in
theorem intsParse_over (s : ByteArray) (w : World) (hs : s.size ≤ 100) (hp : pOk s.data.toList) (hi : ¬ I64 (pVal s.data.toList)) (hE : EnvI w) :
    Calls Tryd.prog 7 #[.string s] w fun e w' => e = .returned (.bool true) ∧ Dn w w' := by
  have c1 : decide (100 < (s.size : Int)) = false := by rw [decide_eq_false_iff_not]; omega
  have hs2 : s.size ≤ 1000 := by omega
  have HP := Lib.hid hp
  have HI := Lib.hid hi
  have HV := Lib.hid (itoa_of _ hp)
  have HPY := Lib.hid (fun W => rParse_yes s W hs2 hp)
  have HLN := Lib.hid (pVal_len s hs2 hp)
  generalize hx : pVal s.data.toList = x at *
  have HX := Lib.hid hx
  clear hp hi hx
  go_enter Tryd.func7, Tryd.ntmps7
  go_wp2_with fail
  refine (iparse_over s _ hs2 HP.out (by rw [HX.out]; exact HI.out) hE).mono ?_
  rintro e w1 ⟨rfl, qw1⟩
  have uw1 := qw1
  clear qw1
  go_wp2_with fail
  refine (HPY.out _).mono ?_
  rintro e x1 ⟨b, p, m, cap, rfl, hI, qx⟩
  have ux := uw1.trans qx
  clear qx uw1
  go_wp2_with fail
  refine (lis_over _ x _ (hI.dn ((Dn.refl _).alloc _)) HLN.out HI.out).mono ?_
  rintro e w2 ⟨rfl, qw2⟩
  have uw2 := (ux.alloc _).trans qw2
  clear qw2
  go_wp2_with fail
  refine (lives1 _ (hE.dn uw2)).mono ?_
  rintro e w3 ⟨rfl, qw3⟩
  have uw3 := uw2.trans qw3
  clear qw3 uw2
  go_wp2_with fail
  go_ret
  exact ⟨rfl, uw3⟩
theorem intsParse_true (s : ByteArray) (w : World) (hm : s.size ≤ 9223372036854775807) (hE : EnvI w) :
    Calls Tryd.prog 7 #[.string s] w fun e w' => e = .returned (.bool true) ∧ Dn w w' := by
  by_cases hs : s.size ≤ 100
  · by_cases hp : pOk s.data.toList
    · by_cases hi : I64 (pVal s.data.toList)
      · exact intsParse_fit s w hs hp hi hE
      · exact intsParse_over s w hs hp hi hE
    · exact intsParse_bad s w hs hp hE
  · exact intsParse_long s w (by omega) hm hE
end Go.Proofs.YtnibmofbalgobaaDoor
