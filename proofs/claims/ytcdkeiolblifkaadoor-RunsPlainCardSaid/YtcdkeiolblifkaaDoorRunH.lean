/-
  WALKS OF circalaw09: days, found, gives, and the contracts of the library in the form that the law wants. (Printed by wip/gen/law9a.py.)
-/
import Derived.Test.YtcdkeiolblifkaaDoorRunC
import Derived.Test.YtcdkeiolblifkaaDoorRunD
import Derived.Test.YtcdkeiolblifkaaDoorRunE
import Derived.Test.YtcdkeiolblifkaaDoorRunF
import Derived.Test.YtcdkeiolblifkaaDoorRunG
namespace Go.Proofs.YtcdkeiolblifkaaDoor
open Go.RowKit
set_option linter.unusedVariables false
set_option linter.unusedSimpArgs false
set_option maxHeartbeats 4000000 in
set_option maxRecDepth 100000 in
theorem dy9 (x y : Int) (w : World) : Calls Tryd.prog 32 #[.int .i64 x, .int .i64 y] w fun ro w' => ro = .returned (.agg #[.int .i8 0, .int .i64 x, .int .i8 0, .int .i64 y]) ∧ Dn w w' := by
  go_enter Tryd.func32, Tryd.ntmps32
  go_wp2_with fail
  exact bodyPost_ret (v := .agg #[.int .i8 0, .int .i64 x, .int .i8 0, .int .i64 y]) (by simp [results, Tryd.results32, go_sem]) rfl ⟨rfl, (Dn.refl _).alloc _⟩
set_option maxHeartbeats 4000000 in
set_option maxRecDepth 100000 in
theorem f9_ok (a b c d e f g h r : Int) (w : World) :
    Calls Tryd.prog 24 #[.agg #[.int .i8 a, .int .i64 b, .int .i8 c, .int .i64 d], .bool true, .agg #[.int .i8 a, .int .i64 b, .int .i8 c, .int .i64 d], .bool true] w fun ro w' => ro = .returned (.bool true) ∧ Dn w w' := by
  go_enter Tryd.func24, Tryd.ntmps24
  go_wp2_with fail
  go_ret
  exact ⟨retb (by simp), ((Dn.refl _).alloc _).alloc _⟩
set_option maxHeartbeats 4000000 in
set_option maxRecDepth 100000 in
theorem f9_no (a b c d e f g h r : Int) (w : World) :
    Calls Tryd.prog 24 #[.agg #[.int .i8 0, .int .i64 0, .int .i8 0, .int .i64 0], .bool false, .agg #[.int .i8 a, .int .i64 b, .int .i8 c, .int .i64 d], .bool false] w fun ro w' => ro = .returned (.bool true) ∧ Dn w w' := by
  go_enter Tryd.func24, Tryd.ntmps24
  go_wp2_with fail
  go_ret
  exact ⟨retb (by simp), ((Dn.refl _).alloc _).alloc _⟩
set_option maxHeartbeats 4000000 in
set_option maxRecDepth 100000 in
theorem g9_ok (a b c d e f g h r : Int) (w : World) :
    Calls Tryd.prog 17 #[.agg #[.int .i8 a, .int .i64 b, .int .i8 c, .int .i64 d], .int .i64 0, .agg #[.int .i8 a, .int .i64 b, .int .i8 c, .int .i64 d], .int .i64 0] w fun ro w' => ro = .returned (.bool true) ∧ Dn w w' := by
  go_enter Tryd.func17, Tryd.ntmps17
  go_wp2_with fail
  go_ret
  exact ⟨retb (by simp), ((Dn.refl _).alloc _).alloc _⟩
set_option maxHeartbeats 4000000 in
set_option maxRecDepth 100000 in
theorem g9_bad (a b c d e f g h r : Int) (w : World) (hr : r ≠ 0) :
    Calls Tryd.prog 17 #[.agg #[.int .i8 0, .int .i64 0, .int .i8 0, .int .i64 0], .int .i64 r, .agg #[.int .i8 a, .int .i64 b, .int .i8 c, .int .i64 d], .int .i64 r] w fun ro w' => ro = .returned (.bool true) ∧ Dn w w' := by
  have t1 : (r != 0) = true := by simpa using hr
  clear hr
  go_enter Tryd.func17, Tryd.ntmps17
  go_wp2_with fail
  go_ret
  exact ⟨retb (by simp), ((Dn.refl _).alloc _).alloc _⟩
def F9 (a b c d : Int) (is : Bool) (e f g h : Int) (there : Bool) : Prop := (there = true ∧ is = true ∧ a = e ∧ b = f ∧ c = g ∧ d = h) ∨ (there = false ∧ is = false ∧ a = 0 ∧ b = 0 ∧ c = 0 ∧ d = 0)
def G9 (a b c d r e f g h bad : Int) : Prop := (bad = 0 ∧ r = 0 ∧ a = e ∧ b = f ∧ c = g ∧ d = h) ∨ (bad ≠ 0 ∧ r = bad ∧ a = 0 ∧ b = 0 ∧ c = 0 ∧ d = 0)
instance decF9 (a b c d : Int) (is : Bool) (e f g h : Int) (there : Bool) : Decidable (F9 a b c d is e f g h there) := by unfold F9; infer_instance
instance decG9 (a b c d r e f g h bad : Int) : Decidable (G9 a b c d r e f g h bad) := by unfold G9; infer_instance
theorem f9_any (a b c d : Int) (is : Bool) (e f g h : Int) (there : Bool) (w : World) (k : F9 a b c d is e f g h there) :
    Calls Tryd.prog 24 #[.agg #[.int .i8 a, .int .i64 b, .int .i8 c, .int .i64 d], .bool is, .agg #[.int .i8 e, .int .i64 f, .int .i8 g, .int .i64 h], .bool there] w fun ro w' => ro = .returned (.bool true) ∧ Dn w w' := by
  rcases k with ⟨rfl, rfl, rfl, rfl, rfl, rfl⟩ | ⟨rfl, rfl, rfl, rfl, rfl, rfl⟩
  · exact f9_ok a b c d 0 0 0 0 0 w
  · exact f9_no e f g h 0 0 0 0 0 w
theorem g9_any (a b c d r e f g h bad : Int) (w : World) (k : G9 a b c d r e f g h bad) :
    Calls Tryd.prog 17 #[.agg #[.int .i8 a, .int .i64 b, .int .i8 c, .int .i64 d], .int .i64 r, .agg #[.int .i8 e, .int .i64 f, .int .i8 g, .int .i64 h], .int .i64 bad] w fun ro w' => ro = .returned (.bool true) ∧ Dn w w' := by
  rcases k with ⟨rfl, rfl, rfl, rfl, rfl, rfl⟩ | ⟨hb, rfl, rfl, rfl, rfl, rfl⟩
  · exact g9_ok a b c d 0 0 0 0 0 w
  · exact g9_bad e f g h 0 0 0 0 _ w hb
theorem eMin_is (i d j f : Int) (w : World) : Calls Tryd.prog 38 #[.agg #[.int .i8 i, .int .i64 d], .agg #[.int .i8 j, .int .i64 f]] w fun e w' => e = .returned (.agg #[.int .i8 (mnI i d j f), .int .i64 (mnD i d j f)]) ∧ Up w w' := by
  unfold mnI mnD
  by_cases h : eC j f i d < 0
  · rw [if_pos h, if_pos h]; exact eMin_2 i d j f w h
  · rw [if_neg h, if_neg h]; exact eMin_1 i d j f w h
theorem eMax_is (i d j f : Int) (w : World) : Calls Tryd.prog 39 #[.agg #[.int .i8 i, .int .i64 d], .agg #[.int .i8 j, .int .i64 f]] w fun e w' => e = .returned (.agg #[.int .i8 (mxI i d j f), .int .i64 (mxD i d j f)]) ∧ Up w w' := by
  unfold mxI mxD
  by_cases h : 0 < eC j f i d
  · rw [if_pos h, if_pos h]; exact eMax_2 i d j f w h
  · rw [if_neg h, if_neg h]; exact eMax_1 i d j f w h
/-- What Join and Common make of two runs. -/
def JnR (a b c d e f g h i1 d1 i2 d2 : Int) (is : Bool) : Prop :=
  (Tch a b c d e f g h ∧ is = true ∧ i1 = mnI a b e f ∧ d1 = mnD a b e f ∧ i2 = mxI c d g h ∧ d2 = mxD c d g h) ∨ (¬ Tch a b c d e f g h ∧ is = false ∧ i1 = 0 ∧ d1 = 0 ∧ i2 = 0 ∧ d2 = 0)
def CmR (a b c d e f g h i1 d1 i2 d2 : Int) (is : Bool) : Prop :=
  (Meet a b c d e f g h ∧ is = true ∧ i1 = mxI a b e f ∧ d1 = mxD a b e f ∧ i2 = mnI c d g h ∧ d2 = mnD c d g h) ∨ (¬ Meet a b c d e f g h ∧ is = false ∧ i1 = 0 ∧ d1 = 0 ∧ i2 = 0 ∧ d2 = 0)
theorem jnR_ex (a b c d e f g h : Int) : ∃ i1 d1 i2 d2 is, JnR a b c d e f g h i1 d1 i2 d2 is := by
  by_cases k : Tch a b c d e f g h
  · exact ⟨_, _, _, _, _, Or.inl ⟨k, rfl, rfl, rfl, rfl, rfl⟩⟩
  · exact ⟨_, _, _, _, _, Or.inr ⟨k, rfl, rfl, rfl, rfl, rfl⟩⟩
theorem cmR_ex (a b c d e f g h : Int) : ∃ i1 d1 i2 d2 is, CmR a b c d e f g h i1 d1 i2 d2 is := by
  by_cases k : Meet a b c d e f g h
  · exact ⟨_, _, _, _, _, Or.inl ⟨k, rfl, rfl, rfl, rfl, rfl⟩⟩
  · exact ⟨_, _, _, _, _, Or.inr ⟨k, rfl, rfl, rfl, rfl, rfl⟩⟩
instance decJnR (a b c d e f g h i1 d1 i2 d2 : Int) (is : Bool) : Decidable (JnR a b c d e f g h i1 d1 i2 d2 is) := by unfold JnR; infer_instance
instance decCmR (a b c d e f g h i1 d1 i2 d2 : Int) (is : Bool) : Decidable (CmR a b c d e f g h i1 d1 i2 d2 is) := by unfold CmR; infer_instance
theorem rnJoin (a b c d e f g h i1 d1 i2 d2 : Int) (is : Bool) (w : World) (hb : I64 b) (hd : I64 d) (hf : I64 f) (hh : I64 h) (k : JnR a b c d e f g h i1 d1 i2 d2 is) :
    Calls Tryd.prog 10 #[.agg #[.int .i8 a, .int .i64 b, .int .i8 c, .int .i64 d], .agg #[.int .i8 e, .int .i64 f, .int .i8 g, .int .i64 h]] w fun ro w' => ro = .returned (.tuple #[.agg #[.int .i8 i1, .int .i64 d1, .int .i8 i2, .int .i64 d2], .bool is]) ∧ Dn w w' := by
  have HT := Lib.hid (fun W => rnTouch a b c d e f g h W hb hd hf hh)
  rcases k with ⟨k, rfl, rfl, rfl, rfl, rfl⟩ | ⟨k, rfl, rfl, rfl, rfl, rfl⟩
  · rw [decide_eq_true k] at HT
    exact rnJoin_yes a b c d e f g h _ _ _ _ HT (Lib.hid fun W => eMin_is a b e f W) (Lib.hid fun W => eMax_is c d g h W) w
  · rw [decide_eq_false k] at HT
    exact rnJoin_no a b c d e f g h HT w
theorem rnCommon (a b c d e f g h i1 d1 i2 d2 : Int) (is : Bool) (w : World) (hb : I64 b) (hd : I64 d) (hf : I64 f) (hh : I64 h) (k : CmR a b c d e f g h i1 d1 i2 d2 is) :
    Calls Tryd.prog 11 #[.agg #[.int .i8 a, .int .i64 b, .int .i8 c, .int .i64 d], .agg #[.int .i8 e, .int .i64 f, .int .i8 g, .int .i64 h]] w fun ro w' => ro = .returned (.tuple #[.agg #[.int .i8 i1, .int .i64 d1, .int .i8 i2, .int .i64 d2], .bool is]) ∧ Dn w w' := by
  have HR := Lib.hid (fun W => rnRight a b c d e f g h W hb hd hf hh)
  have HM := Lib.hid (fun W => eMax_is a b e f W)
  have HX := Lib.hid (fun W => eMin_is c d g h W)
  by_cases h0 : RnOk a b c d ∧ RnOk e f g h
  · rw [decide_eq_true h0] at HR
    have hok := common_ok hb hd hf hh h0.1 h0.2
    have herr := rnErr_ok (a := mxI a b e f) (b := mxD a b e f) (c := mnI c d g h) (d := mnD c d g h) (mx_i64 hb hf) (mn_i64 hd hh)
    have HC : Hid (ChkIs (mxI a b e f) (mxD a b e f) (mnI c d g h) (mnD c d g h) (rnErr (mxI a b e f) (mxD a b e f) (mnI c d g h) (mnD c d g h))) := Lib.hid (rnChk _ _ _ _)
    rcases k with ⟨k, rfl, rfl, rfl, rfl, rfl⟩ | ⟨k, rfl, rfl, rfl, rfl, rfl⟩
    · rw [herr.2 (hok.2 k)] at HC
      exact rnCom_3 a b c d e f g h _ _ _ _ HM HX HR HC w
    · exact rnCom_2 a b c d e f g h _ _ _ _ HM HX HR _ HC (fun hc => k (hok.1 (herr.1 hc))) w
  · rw [decide_eq_false h0] at HR
    rcases k with ⟨k, rfl, rfl, rfl, rfl, rfl⟩ | ⟨k, rfl, rfl, rfl, rfl, rfl⟩
    · exact absurd ⟨k.1, k.2.1⟩ h0
    · exact rnCom_1 a b c d e f g h _ _ _ _ HM HX HR w
/-- What Parse makes of a text. -/
def RP (s : ByteArray) (q0 q1 q2 q3 r : Int) : Prop :=
  ((Lib.cut s.data.toList [46, 46]).2.2 = false ∧ q0 = 0 ∧ q1 = 0 ∧ q2 = 0 ∧ q3 = 0 ∧ r = 5) ∨
  ((Lib.cut s.data.toList [46, 46]).2.2 = true ∧ ∃ i1 d1 r1 i2 d2 r2, EP ⟨(Lib.cut s.data.toList [46, 46]).1.toArray⟩ i1 d1 r1 ∧ EP ⟨(Lib.cut s.data.toList [46, 46]).2.1.toArray⟩ i2 d2 r2 ∧
    (((r1 = 5 ∨ r2 = 5) ∧ q0 = 0 ∧ q1 = 0 ∧ q2 = 0 ∧ q3 = 0 ∧ r = 5) ∨ (r1 ≠ 5 ∧ r2 ≠ 5 ∧ (r1 ≠ 0 ∨ r2 ≠ 0) ∧ q0 = 0 ∧ q1 = 0 ∧ q2 = 0 ∧ q3 = 0 ∧ r = 15) ∨
     (r1 = 0 ∧ r2 = 0 ∧ rnErr i1 d1 i2 d2 ≠ 0 ∧ q0 = 0 ∧ q1 = 0 ∧ q2 = 0 ∧ q3 = 0 ∧ r = rnErr i1 d1 i2 d2) ∨ (r1 = 0 ∧ r2 = 0 ∧ rnErr i1 d1 i2 d2 = 0 ∧ q0 = i1 ∧ q1 = d1 ∧ q2 = i2 ∧ q3 = d2 ∧ r = 0)))
theorem ep_err {s : ByteArray} {i d r : Int} (h : EP s i d r) : r = 0 ∨ r = 5 ∨ r = 15 := by
  rcases h with ⟨_, _, _, rfl⟩ | ⟨_, _, _, rfl⟩ | ⟨_, _, _, ⟨_, ⟨_, _, rfl⟩ | ⟨_, _, rfl⟩⟩ | ⟨_, _, rfl⟩⟩ <;> simp
theorem ep_i64 {s : ByteArray} {i d r : Int} (h : EP s i d r) : I64 d := by
  rcases h with ⟨_, _, rfl, _⟩ | ⟨_, _, rfl, _⟩ | ⟨_, _, _, ⟨_, hf⟩ | ⟨_, rfl, _⟩⟩
  · decide
  · decide
  · exact hf.i64
  · decide
theorem cut_size (s : ByteArray) : (Lib.cut s.data.toList [46, 46]).1.length ≤ s.size ∧ (Lib.cut s.data.toList [46, 46]).2.1.length ≤ s.size := by
  have hs : s.data.toList.length = s.size := by simp
  unfold Lib.cut
  split
  · constructor
    · rw [← hs]; simp only [List.length_take]; omega
    · rw [← hs]; simp only [List.length_drop]; omega
  · exact ⟨by rw [← hs]; exact Nat.le_refl _, by simp⟩
theorem rnParse (s : ByteArray) (q0 q1 q2 q3 r : Int) (w : World) (hs : s.size ≤ 1000) (h : RP s q0 q1 q2 q3 r) (hE : EnvR w) :
    Calls Tryd.prog 15 #[.string s] w fun ro w' => ro = .returned (.tuple #[.agg #[.int .i8 q0, .int .i64 q1, .int .i8 q2, .int .i64 q3], .int .i64 r]) ∧ Dn w w' := by
  have hz := cut_size s
  have HC : Hid (∀ W, EnvR W → Calls Tryd.prog 43 #[.string s, .string ⟨#[46, 46]⟩] W fun o w' => o = .returned (.tuple #[.string ⟨(Lib.cut s.data.toList [46, 46]).1.toArray⟩, .string ⟨(Lib.cut s.data.toList [46, 46]).2.1.toArray⟩, .bool (Lib.cut s.data.toList [46, 46]).2.2]) ∧ Dn W w') :=
    Lib.hid fun W hW => by
      obtain ⟨m, hm⟩ := hW.m
      refine (Tryd.strings_Cut s ⟨#[46, 46]⟩ m W (by omega) hm).mono ?_
      rintro o w' ⟨rfl, n, rfl⟩
      exact ⟨rfl, dn_drewN W n⟩
  generalize hcut : Lib.cut s.data.toList [46, 46] = C at *
  obtain ⟨lo, hi, fd⟩ := C
  dsimp only at *
  unfold RP at h
  rw [hcut] at h
  dsimp only at h
  rcases h with ⟨rfl, rfl, rfl, rfl, rfl, rfl⟩ | ⟨rfl, i1, d1, r1, i2, d2, r2, h1, h2, hx⟩
  · exact rnP_0 s _ _ 0 0 0 0 0 0 0 HC w hE
  · have s1 : (⟨lo.toArray⟩ : ByteArray).size ≤ 1000 := by have := hz.1; simp [ByteArray.size]; omega
    have s2 : (⟨hi.toArray⟩ : ByteArray).size ≤ 1000 := by have := hz.2; simp [ByteArray.size]; omega
    have H1 : Hid (PIs ⟨lo.toArray⟩ i1 d1 r1) := Lib.hid fun W hW => eParse _ i1 d1 r1 W s1 h1 hW.i
    have H2 : Hid (PIs ⟨hi.toArray⟩ i2 d2 r2) := Lib.hid fun W hW => eParse _ i2 d2 r2 W s2 h2 hW.i
    have e1 := ep_err h1
    have e2 := ep_err h2
    have HK : Hid (ChkIs i1 d1 i2 d2 (rnErr i1 d1 i2 d2)) := Lib.hid (rnChk i1 d1 i2 d2)
    rcases hx with ⟨h5, rfl, rfl, rfl, rfl, rfl⟩ | ⟨n1, n2, h0, rfl, rfl, rfl, rfl, rfl⟩ | ⟨rfl, rfl, hk, rfl, rfl, rfl, rfl, rfl⟩ | ⟨rfl, rfl, hk, rfl, rfl, rfl, rfl, rfl⟩
    · by_cases h51 : r1 = 5
      · subst h51; exact rnP_1 s _ _ i1 d1 0 0 0 0 0 HC H1 w hE
      · have h52 : r2 = 5 := by omega
        subst h52; exact rnP_2 s _ _ i1 d1 i2 d2 r1 0 0 HC H1 H2 h51 w hE
    · by_cases z1 : r1 = 0
      · have z2 : r2 = 15 := by omega
        subst z1; subst z2
        exact rnP_3 s _ _ i1 d1 i2 d2 0 15 15 HC H1 H2 (Lib.hid fun W hW => rnBP_2 _ _ i1 d1 i2 d2 0 15 H1 H2 (by decide) W hW) (by decide) (by decide) (by decide) w hE
      · have z2 : r1 = 15 := by omega
        subst z2
        exact rnP_3 s _ _ i1 d1 i2 d2 15 r2 15 HC H1 H2 (Lib.hid fun W hW => rnBP_1 _ _ i1 d1 0 0 15 0 H1 (by decide) W hW) (by decide) n2 (by decide) w hE
    · exact rnP_4 s _ _ i1 d1 i2 d2 0 0 _ HC H1 H2 (Lib.hid fun W hW => rnBP_3 _ _ i1 d1 i2 d2 0 0 H1 H2 W hW) HK hk w hE
    · rw [hk] at HK
      exact rnP_5 s _ _ _ _ _ _ 0 0 0 HC H1 H2 (Lib.hid fun W hW => rnBP_3 _ _ _ _ _ _ 0 0 H1 H2 W hW) HK w hE
end Go.Proofs.YtcdkeiolblifkaaDoor
