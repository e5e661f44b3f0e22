/- Walks and laws that the claim's theorem leans on: part 8. -/
import Derived.Test.YtcdkeiolblifkaaDoorZPr1
import Derived.Test.YtcdkeiolblifkaaDoorZPr3
import Derived.Test.YtcdkeiolblifkaaDoorZPr4
import Derived.Test.YtcdkeiolblifkaaDoorZPr5
import Derived.Test.YtcdkeiolblifkaaDoorZPr6
import Derived.Test.YtcdkeiolblifkaaDoorZPr7
import Derived.OrdersHeld
import Derived.Deep.RegionHeld
namespace Go.Proofs.YtcdkeiolblifkaaDoor
set_option maxHeartbeats 4000000
set_option maxRecDepth 100000
open Go.RowKit
set_option linter.unusedVariables false
set_option linter.unusedSimpArgs false
theorem dy9 (x y : Int) (w : World) : Calls Tryd.prog 32 #[.int .i64 x, .int .i64 y] w fun ro w' => ro = .returned (.agg #[.int .i8 0, .int .i64 x, .int .i8 0, .int .i64 y]) ∧ Dn w w' := by
 go_enter Tryd.func32, Tryd.ntmps32
 go_wp2_with fail
 exact bodyPost_ret (v := .agg #[.int .i8 0, .int .i64 x, .int .i8 0, .int .i64 y]) (by simp [results, Tryd.results32, go_sem]) rfl ⟨rfl, (Dn.refl _).alloc _⟩
theorem f9_ok (a b c d e f g h r : Int) (w : World) :
  Calls Tryd.prog 24 #[.agg #[.int .i8 a, .int .i64 b, .int .i8 c, .int .i64 d], .bool true, .agg #[.int .i8 a, .int .i64 b, .int .i8 c, .int .i64 d], .bool true] w fun ro w' => ro = .returned (.bool true) ∧ Dn w w' := by
 go_enter Tryd.func24, Tryd.ntmps24
 go_wp2_with fail
 go_ret
 exact ⟨retb (by simp), ((Dn.refl _).alloc _).alloc _⟩
theorem f9_no (a b c d e f g h r : Int) (w : World) :
  Calls Tryd.prog 24 #[.agg #[.int .i8 0, .int .i64 0, .int .i8 0, .int .i64 0], .bool false, .agg #[.int .i8 a, .int .i64 b, .int .i8 c, .int .i64 d], .bool false] w fun ro w' => ro = .returned (.bool true) ∧ Dn w w' := by
 go_enter Tryd.func24, Tryd.ntmps24
 go_wp2_with fail
 go_ret
 exact ⟨retb (by simp), ((Dn.refl _).alloc _).alloc _⟩
theorem g9_ok (a b c d e f g h r : Int) (w : World) :
  Calls Tryd.prog 17 #[.agg #[.int .i8 a, .int .i64 b, .int .i8 c, .int .i64 d], .int .i64 0, .agg #[.int .i8 a, .int .i64 b, .int .i8 c, .int .i64 d], .int .i64 0] w fun ro w' => ro = .returned (.bool true) ∧ Dn w w' := by
 go_enter Tryd.func17, Tryd.ntmps17
 go_wp2_with fail
 go_ret
 exact ⟨retb (by simp), ((Dn.refl _).alloc _).alloc _⟩
theorem g9_bad (a b c d e f g h r : Int) (w : World) (hr : r ≠ 0) :
  Calls Tryd.prog 17 #[.agg #[.int .i8 0, .int .i64 0, .int .i8 0, .int .i64 0], .int .i64 r, .agg #[.int .i8 a, .int .i64 b, .int .i8 c, .int .i64 d], .int .i64 r] w fun ro w' => ro = .returned (.bool true) ∧ Dn w w' := by
 have t1 : (r != 0) = true := by simpa using hr
 clear hr
 go_enter Tryd.func17, Tryd.ntmps17
 go_wp2_with fail
 go_ret
 exact ⟨retb (by simp), ((Dn.refl _).alloc _).alloc _⟩
def F9 (a b c d : Int) (is : Bool) (e f g h : Int) (there : Bool) : Prop := (there = true ∧ is = true ∧ a = e ∧ b = f ∧ c = g ∧ d = h) ∨ (there = false ∧ is = false ∧ a = 0 ∧ b = 0 ∧ c = 0 ∧ d = 0)
def G9 (a b c d r e f g h bad : Int) : Prop := (bad = 0 ∧ r = 0 ∧ a = e ∧ b = f ∧ c = g ∧ d = h) ∨ (bad ≠ 0 ∧ r = bad ∧ a = 0 ∧ b = 0 ∧ c = 0 ∧ d = 0)
instance decF9 (a b c d : Int) (is : Bool) (e f g h : Int) (there : Bool) : Decidable (F9 a b c d is e f g h there) := by unfold F9; infer_instance
instance decG9 (a b c d r e f g h bad : Int) : Decidable (G9 a b c d r e f g h bad) := by unfold G9; infer_instance
theorem f9_any (a b c d : Int) (is : Bool) (e f g h : Int) (there : Bool) (w : World) (k : F9 a b c d is e f g h there) :
   Calls Tryd.prog 24 #[.agg #[.int .i8 a, .int .i64 b, .int .i8 c, .int .i64 d], .bool is, .agg #[.int .i8 e, .int .i64 f, .int .i8 g, .int .i64 h], .bool there] w fun ro w' => ro = .returned (.bool true) ∧ Dn w w' := by
 rcases k with ⟨rfl, rfl, rfl, rfl, rfl, rfl⟩ | ⟨rfl, rfl, rfl, rfl, rfl, rfl⟩
 · exact f9_ok a b c d 0 0 0 0 0 w
 · exact f9_no e f g h 0 0 0 0 0 w
theorem g9_any (a b c d r e f g h bad : Int) (w : World) (k : G9 a b c d r e f g h bad) :
   Calls Tryd.prog 17 #[.agg #[.int .i8 a, .int .i64 b, .int .i8 c, .int .i64 d], .int .i64 r, .agg #[.int .i8 e, .int .i64 f, .int .i8 g, .int .i64 h], .int .i64 bad] w fun ro w' => ro = .returned (.bool true) ∧ Dn w w' := by
 rcases k with ⟨rfl, rfl, rfl, rfl, rfl, rfl⟩ | ⟨hb, rfl, rfl, rfl, rfl, rfl⟩
 · exact g9_ok a b c d 0 0 0 0 0 w
 · exact g9_bad e f g h 0 0 0 0 _ w hb
theorem eMin_is (i d j f : Int) (w : World) : Calls Tryd.prog 38 #[.agg #[.int .i8 i, .int .i64 d], .agg #[.int .i8 j, .int .i64 f]] w fun e w' => e = .returned (.agg #[.int .i8 (mnI i d j f), .int .i64 (mnD i d j f)]) ∧ Up w w' := by
 unfold mnI mnD
 by_cases h : eC j f i d < 0
 · rw [if_pos h, if_pos h]; exact eMin_2 i d j f w h
 · rw [if_neg h, if_neg h]; exact eMin_1 i d j f w h
theorem eMax_is (i d j f : Int) (w : World) : Calls Tryd.prog 39 #[.agg #[.int .i8 i, .int .i64 d], .agg #[.int .i8 j, .int .i64 f]] w fun e w' => e = .returned (.agg #[.int .i8 (mxI i d j f), .int .i64 (mxD i d j f)]) ∧ Up w w' := by
 unfold mxI mxD
 by_cases h : 0 < eC j f i d
 · rw [if_pos h, if_pos h]; exact eMax_2 i d j f w h
 · rw [if_neg h, if_neg h]; exact eMax_1 i d j f w h
def JnR (a b c d e f g h i1 d1 i2 d2 : Int) (is : Bool) : Prop :=
 (Tch a b c d e f g h ∧ is = true ∧ i1 = mnI a b e f ∧ d1 = mnD a b e f ∧ i2 = mxI c d g h ∧ d2 = mxD c d g h) ∨ (¬ Tch a b c d e f g h ∧ is = false ∧ i1 = 0 ∧ d1 = 0 ∧ i2 = 0 ∧ d2 = 0)
def CmR (a b c d e f g h i1 d1 i2 d2 : Int) (is : Bool) : Prop :=
 (Meet a b c d e f g h ∧ is = true ∧ i1 = mxI a b e f ∧ d1 = mxD a b e f ∧ i2 = mnI c d g h ∧ d2 = mnD c d g h) ∨ (¬ Meet a b c d e f g h ∧ is = false ∧ i1 = 0 ∧ d1 = 0 ∧ i2 = 0 ∧ d2 = 0)
instance decJnR (a b c d e f g h i1 d1 i2 d2 : Int) (is : Bool) : Decidable (JnR a b c d e f g h i1 d1 i2 d2 is) := by unfold JnR; infer_instance
instance decCmR (a b c d e f g h i1 d1 i2 d2 : Int) (is : Bool) : Decidable (CmR a b c d e f g h i1 d1 i2 d2 is) := by unfold CmR; infer_instance
theorem rnJoin (a b c d e f g h i1 d1 i2 d2 : Int) (is : Bool) (w : World) (hb : I64 b) (hd : I64 d) (hf : I64 f) (hh : I64 h) (k : JnR a b c d e f g h i1 d1 i2 d2 is) :
   Calls Tryd.prog 10 #[.agg #[.int .i8 a, .int .i64 b, .int .i8 c, .int .i64 d], .agg #[.int .i8 e, .int .i64 f, .int .i8 g, .int .i64 h]] w fun ro w' => ro = .returned (.tuple #[.agg #[.int .i8 i1, .int .i64 d1, .int .i8 i2, .int .i64 d2], .bool is]) ∧ Dn w w' := by
 have HT := Lib.hid (fun W => rnTouch a b c d e f g h W hb hd hf hh)
 rcases k with ⟨k, rfl, rfl, rfl, rfl, rfl⟩ | ⟨k, rfl, rfl, rfl, rfl, rfl⟩
 · rw [decide_eq_true k] at HT
   exact rnJoin_yes a b c d e f g h _ _ _ _ HT (Lib.hid fun W => eMin_is a b e f W) (Lib.hid fun W => eMax_is c d g h W) w
 · rw [decide_eq_false k] at HT
   exact rnJoin_no a b c d e f g h HT w
theorem rnCommon (a b c d e f g h i1 d1 i2 d2 : Int) (is : Bool) (w : World) (hb : I64 b) (hd : I64 d) (hf : I64 f) (hh : I64 h) (k : CmR a b c d e f g h i1 d1 i2 d2 is) :
   Calls Tryd.prog 11 #[.agg #[.int .i8 a, .int .i64 b, .int .i8 c, .int .i64 d], .agg #[.int .i8 e, .int .i64 f, .int .i8 g, .int .i64 h]] w fun ro w' => ro = .returned (.tuple #[.agg #[.int .i8 i1, .int .i64 d1, .int .i8 i2, .int .i64 d2], .bool is]) ∧ Dn w w' := by
 have HR := Lib.hid (fun W => rnRight a b c d e f g h W hb hd hf hh)
 have HM := Lib.hid (fun W => eMax_is a b e f W)
 have HX := Lib.hid (fun W => eMin_is c d g h W)
 by_cases h0 : RnOk a b c d ∧ RnOk e f g h
 · rw [decide_eq_true h0] at HR
   have hok := common_ok hb hd hf hh h0.1 h0.2
   have herr := rnErr_ok (a := mxI a b e f) (b := mxD a b e f) (c := mnI c d g h) (d := mnD c d g h) (mx_i64 hb hf) (mn_i64 hd hh)
   have HC : Hid (ChkIs (mxI a b e f) (mxD a b e f) (mnI c d g h) (mnD c d g h) (rnErr (mxI a b e f) (mxD a b e f) (mnI c d g h) (mnD c d g h))) := Lib.hid (rnChk _ _ _ _)
   rcases k with ⟨k, rfl, rfl, rfl, rfl, rfl⟩ | ⟨k, rfl, rfl, rfl, rfl, rfl⟩
   · rw [herr.2 (hok.2 k)] at HC
     exact rnCom_3 a b c d e f g h _ _ _ _ HM HX HR HC w
   · exact rnCom_2 a b c d e f g h _ _ _ _ HM HX HR _ HC (fun hc => k (hok.1 (herr.1 hc))) w
 · rw [decide_eq_false h0] at HR
   rcases k with ⟨k, rfl, rfl, rfl, rfl, rfl⟩ | ⟨k, rfl, rfl, rfl, rfl, rfl⟩
   · exact absurd ⟨k.1, k.2.1⟩ h0
   · exact rnCom_1 a b c d e f g h _ _ _ _ HM HX HR w
def RP (s : ByteArray) (q0 q1 q2 q3 r : Int) : Prop :=
 ((Lib.cut s.data.toList [46, 46]).2.2 = false ∧ q0 = 0 ∧ q1 = 0 ∧ q2 = 0 ∧ q3 = 0 ∧ r = 5) ∨
 ((Lib.cut s.data.toList [46, 46]).2.2 = true ∧ ∃ i1 d1 r1 i2 d2 r2, EP ⟨(Lib.cut s.data.toList [46, 46]).1.toArray⟩ i1 d1 r1 ∧ EP ⟨(Lib.cut s.data.toList [46, 46]).2.1.toArray⟩ i2 d2 r2 ∧
  (((r1 = 5 ∨ r2 = 5) ∧ q0 = 0 ∧ q1 = 0 ∧ q2 = 0 ∧ q3 = 0 ∧ r = 5) ∨ (r1 ≠ 5 ∧ r2 ≠ 5 ∧ (r1 ≠ 0 ∨ r2 ≠ 0) ∧ q0 = 0 ∧ q1 = 0 ∧ q2 = 0 ∧ q3 = 0 ∧ r = 15) ∨
   (r1 = 0 ∧ r2 = 0 ∧ rnErr i1 d1 i2 d2 ≠ 0 ∧ q0 = 0 ∧ q1 = 0 ∧ q2 = 0 ∧ q3 = 0 ∧ r = rnErr i1 d1 i2 d2) ∨ (r1 = 0 ∧ r2 = 0 ∧ rnErr i1 d1 i2 d2 = 0 ∧ q0 = i1 ∧ q1 = d1 ∧ q2 = i2 ∧ q3 = d2 ∧ r = 0)))
theorem ep_err {s : ByteArray} {i d r : Int} (h : EP s i d r) : r = 0 ∨ r = 5 ∨ r = 15 := by
 rcases h with ⟨_, _, _, rfl⟩ | ⟨_, _, _, rfl⟩ | ⟨_, _, _, ⟨_, ⟨_, _, rfl⟩ | ⟨_, _, rfl⟩⟩ | ⟨_, _, rfl⟩⟩ <;> simp
theorem cut_size (s : ByteArray) : (Lib.cut s.data.toList [46, 46]).1.length ≤ s.size ∧ (Lib.cut s.data.toList [46, 46]).2.1.length ≤ s.size := by
 have hs : s.data.toList.length = s.size := by simp
 unfold Lib.cut
 split
 · constructor
   · rw [← hs]; simp only [List.length_take]; omega
   · rw [← hs]; simp only [List.length_drop]; omega
 · exact ⟨by rw [← hs]; exact Nat.le_refl _, by simp⟩
theorem rnParse (s : ByteArray) (q0 q1 q2 q3 r : Int) (w : World) (hs : s.size ≤ 1000) (h : RP s q0 q1 q2 q3 r) (hE : EnvR w) :
   Calls Tryd.prog 15 #[.string s] w fun ro w' => ro = .returned (.tuple #[.agg #[.int .i8 q0, .int .i64 q1, .int .i8 q2, .int .i64 q3], .int .i64 r]) ∧ Dn w w' := by
 have hz := cut_size s
 have HC : Hid (∀ W, EnvR W → Calls Tryd.prog 43 #[.string s, .string ⟨#[46, 46]⟩] W fun o w' => o = .returned (.tuple #[.string ⟨(Lib.cut s.data.toList [46, 46]).1.toArray⟩, .string ⟨(Lib.cut s.data.toList [46, 46]).2.1.toArray⟩, .bool (Lib.cut s.data.toList [46, 46]).2.2]) ∧ Dn W w') :=
   Lib.hid fun W hW => by
     obtain ⟨m, hm⟩ := hW.m
     refine (Tryd.strings_Cut s ⟨#[46, 46]⟩ m W (by omega) hm).mono ?_
     rintro o w' ⟨rfl, n, rfl⟩
     exact ⟨rfl, dn_drewN W n⟩
 generalize hcut : Lib.cut s.data.toList [46, 46] = C at *
 obtain ⟨lo, hi, fd⟩ := C
 dsimp only at *
 unfold RP at h
 rw [hcut] at h
 dsimp only at h
 rcases h with ⟨rfl, rfl, rfl, rfl, rfl, rfl⟩ | ⟨rfl, i1, d1, r1, i2, d2, r2, h1, h2, hx⟩
 · exact rnP_0 s _ _ 0 0 0 0 0 0 0 HC w hE
 · have s1 : (⟨lo.toArray⟩ : ByteArray).size ≤ 1000 := by have := hz.1; simp [ByteArray.size]; omega
   have s2 : (⟨hi.toArray⟩ : ByteArray).size ≤ 1000 := by have := hz.2; simp [ByteArray.size]; omega
   have H1 : Hid (PIs ⟨lo.toArray⟩ i1 d1 r1) := Lib.hid fun W hW => eParse _ i1 d1 r1 W s1 h1 hW.i
   have H2 : Hid (PIs ⟨hi.toArray⟩ i2 d2 r2) := Lib.hid fun W hW => eParse _ i2 d2 r2 W s2 h2 hW.i
   have e1 := ep_err h1
   have e2 := ep_err h2
   have HK : Hid (ChkIs i1 d1 i2 d2 (rnErr i1 d1 i2 d2)) := Lib.hid (rnChk i1 d1 i2 d2)
   rcases hx with ⟨h5, rfl, rfl, rfl, rfl, rfl⟩ | ⟨n1, n2, h0, rfl, rfl, rfl, rfl, rfl⟩ | ⟨rfl, rfl, hk, rfl, rfl, rfl, rfl, rfl⟩ | ⟨rfl, rfl, hk, rfl, rfl, rfl, rfl, rfl⟩
   · by_cases h51 : r1 = 5
     · subst h51; exact rnP_1 s _ _ i1 d1 0 0 0 0 0 HC H1 w hE
     · have h52 : r2 = 5 := by omega
       subst h52; exact rnP_2 s _ _ i1 d1 i2 d2 r1 0 0 HC H1 H2 h51 w hE
   · by_cases z1 : r1 = 0
     · have z2 : r2 = 15 := by omega
       subst z1; subst z2
       exact rnP_3 s _ _ i1 d1 i2 d2 0 15 15 HC H1 H2 (Lib.hid fun W hW => rnBP_2 _ _ i1 d1 i2 d2 0 15 H1 H2 (by decide) W hW) (by decide) (by decide) (by decide) w hE
     · have z2 : r1 = 15 := by omega
       subst z2
       exact rnP_3 s _ _ i1 d1 i2 d2 15 r2 15 HC H1 H2 (Lib.hid fun W hW => rnBP_1 _ _ i1 d1 0 0 15 0 H1 (by decide) W hW) (by decide) n2 (by decide) w hE
   · exact rnP_4 s _ _ i1 d1 i2 d2 0 0 _ HC H1 H2 (Lib.hid fun W hW => rnBP_3 _ _ i1 d1 i2 d2 0 0 H1 H2 W hW) HK hk w hE
   · rw [hk] at HK
     exact rnP_5 s _ _ _ _ _ _ 0 0 0 HC H1 H2 (Lib.hid fun W hW => rnBP_3 _ _ _ _ _ _ 0 0 H1 H2 W hW) HK w hE
def cntF (l : List Bool) : Nat := l.count false
theorem cntF_set : ∀ (l : List Bool) (i : Nat), l[i]? = some false → cntF (l.set i true) + 1 = cntF l
 | [], i, h => by simp at h
 | x :: l, 0, h => by
   simp at h
   subst h
   simp [cntF]
 | x :: l, i + 1, h => by
   have := cntF_set l i (by simpa using h)
   simp only [cntF, List.set_cons_succ, List.count_cons] at this ⊢
   omega
theorem getD_false {l : Array Bool} {i : Nat} (h : l.getD i true = false) : l.toList[i]? = some false := by
 rcases Nat.lt_or_ge i l.size with h' | h'
 · simp [h'] at h ⊢; exact h
 · simp [h'] at h
theorem cntF_pos {l : List Bool} {i : Nat} (h : l[i]? = some false) : 0 < cntF l := by
 have := cntF_set l i h
 omega
theorem region_inv_any {P : Program} {ops : Array Oper} {Q : Exit → Act → World → Prop} (J : Array Bool → Act → World → Prop)
   (hs : ∀ l a w i, J l a w → l.getD i true = false → (∀ o, ops[i]? = some o → ∀ e ∈ o.after, Region.binds .any e = true → l.getD e.on false = true) → i < ops.size → wpOp P ops Q i (fun a' w' => J (l.setIfInBounds i true) a' w') a w)
   (hq : ∀ l a w, J l a w → (∀ i o, ops[i]? = some o → l.getD i true = false → ¬ ∀ e ∈ o.after, Region.binds .any e = true → l.getD e.on false = true) → Q .normal a w) :
   ∀ (fuel : Nat) (l : Array Bool) (a : Act) (w : World), J l a w → cntF l.toList ≤ fuel → wpAny P .any ops Q fuel l a w := by
 have fin : ∀ l a w, J l a w → Region.ready .any ops l = [] → Q .normal a w := fun l a w hJ hr =>
   hq l a w hJ fun i o ho hf hall => by
     have := mem_ready (md := .any) (ops := ops) (listed := l) (j := i) |>.2 ⟨hf, o, ho, hall⟩
     rw [hr] at this
     cases this
 intro fuel
 induction fuel with
 | zero =>
   intro l a w hJ hc
   have hr : Region.ready .any ops l = [] := List.eq_nil_iff_forall_not_mem.2 fun i hi => by
     have := cntF_pos (getD_false (mem_ready.1 hi).1)
     omega
   exact ⟨hr, fin l a w hJ hr⟩
 | succ fuel ih =>
   intro l a w hJ hc
   refine ⟨fin l a w hJ, fun i hi => ?_⟩
   obtain ⟨h0, o, ho, hall⟩ := mem_ready.1 hi
   refine wpOp_mono (fun a' w' hJ' => ih _ a' w' hJ' ?_) (hs l a w i hJ h0 (fun o' ho' => ?_) (Array.getElem?_eq_some_iff.1 ho).1)
   · have := cntF_set l.toList i (getD_false h0)
     simp only [Array.toList_setIfInBounds]
     omega
   · obtain rfl := Option.some.inj (ho.symm.trans ho')
     exact hall
theorem region_inv {P : Program} {ops : Array Oper} {Q : Exit → Act → World → Prop} {id : Nat} {a : Act} {w : World} (J : Act → Array Bool → Act → World → Prop)
  (hm : P.follows .mixedOrders = true) (h0 : J a (Array.replicate ops.size false) a w.drew)
  (hs : ∀ l a' w i, J a l a' w → l.getD i true = false → (∀ o, ops[i]? = some o → ∀ e ∈ o.after, Region.binds .any e = true → l.getD e.on false = true) → i < ops.size → wpOp P ops Q i (fun a'' w' => J a (l.setIfInBounds i true) a'' w') a' w)
  (hq : ∀ l a' w, J a l a' w → (∀ i o, ops[i]? = some o → l.getD i true = false → ¬ ∀ e ∈ o.after, Region.binds .any e = true → l.getD e.on false = true) → Q .normal a' w) :
  (Code.region id ops true).wp P Q a w := by
 refine wp_region_any hm (region_inv_any (J a) hs hq ops.size _ a _ h0 ?_)
 have : ∀ n, cntF (List.replicate n false) ≤ n := fun n => by simp [cntF]
 simpa using this ops.size
theorem cell_far2 {w : World} {B n j i1 i2 : Nat} {u v0 v1 : Value} (hn : n ≠ B) (h : w.cell? ⟨n, j, none⟩ = some u) :
  ((w.setCell ⟨B, i1, none⟩ v0).setCell ⟨B, i2, none⟩ v1).cell? ⟨n, j, none⟩ = some u := by
 have hx : ∀ (w : World) i v, w.cell? ⟨n, j, none⟩ = some u → (w.setCell ⟨B, i, none⟩ v).cell? ⟨n, j, none⟩ = some u := fun w i v hu => by
  rw [World.cell?_setCell_other _ _ _ _ (fun e => hn (by simpa using (congrArg Addr.block e).symm))]; exact hu
 exact hx _ _ _ (hx _ _ _ h)
theorem C4.fill01 {w : World} {B : Nat} {z0 z1 z2 z3 : Value} (h : C4 w B z0 z1 z2 z3) (v0 v1 : Value) : C4 ((w.setCell ⟨B, 0, none⟩ v0).setCell ⟨B, 1, none⟩ v1) B v0 v1 z2 z3 := by
 have h0 := h.c0; have h1 := h.c1; have h2 := h.c2; have h3 := h.c3
 refine ⟨?_, ?_, ?_, ?_, by simpa using h.f0, by simpa using h.f1, by simpa using h.f2, by simpa using h.f3, by simpa using h.lt⟩ <;> simp [go_sem, h0, h1, h2, h3]
theorem cell_far4 {w : World} {B n j : Nat} {u v0 v1 v2 v3 : Value} (hn : n ≠ B) (h : w.cell? ⟨n, j, none⟩ = some u) :
  ((((w.setCell ⟨B, 0, none⟩ v0).setCell ⟨B, 1, none⟩ v1).setCell ⟨B, 2, none⟩ v2).setCell ⟨B, 3, none⟩ v3).cell? ⟨n, j, none⟩ = some u := by
 have hx : ∀ (w : World) i v, w.cell? ⟨n, j, none⟩ = some u → (w.setCell ⟨B, i, none⟩ v).cell? ⟨n, j, none⟩ = some u := fun w i v hu => by
  rw [World.cell?_setCell_other _ _ _ _ (fun e => hn (by simpa using (congrArg Addr.block e).symm))]; exact hu
 exact hx _ _ _ (hx _ _ _ (hx _ _ _ (hx _ _ _ h)))
def Bl (L : Nat) (w : World) (al st : Bool) (x v0 v1 v2 v3 : Value) : Prop :=
 al = true → ∃ B, x = .pointer (some ⟨B, 0, none⟩) ∧ L ≤ B ∧ (st = false → C4 w B (.int .i8 0) (.int .i64 0) (.int .i8 0) (.int .i64 0)) ∧ (st = true → C4 w B v0 v1 v2 v3)
theorem Bl.no {L : Nat} {w : World} {st : Bool} {x v0 v1 v2 v3 : Value} : Bl L w false st x v0 v1 v2 v3 := fun h => by cases h
theorem Bl.dn {L : Nat} {w w' : World} {al st : Bool} {x v0 v1 v2 v3 : Value} (h : Bl L w al st x v0 v1 v2 v3) (q : Dn w w') : Bl L w' al st x v0 v1 v2 v3 := fun ha => by
 obtain ⟨B, h1, h2, h3, h4⟩ := h ha
 exact ⟨B, h1, h2, fun k => (h3 k).dn q, fun k => (h4 k).dn q⟩
theorem Bl.new {L : Nat} {w : World} {v0 v1 v2 v3 : Value} (h : L ≤ w.heap.size) (t : TypeId) :
  Bl L (w.alloc (.cells #[.int .i8 0, .int .i64 0, .int .i8 0, .int .i64 0] t)) true false (.pointer (some ⟨w.heap.size, 0, none⟩)) v0 v1 v2 v3 :=
 fun _ => ⟨_, rfl, h, fun _ => C4.new _ _ _ _ _ _, fun k => by cases k⟩
def Ap (al bl : Bool) (x y : Value) : Prop := al = true → bl = true → x ≠ y
theorem Ap.nol {bl : Bool} {x y : Value} : Ap false bl x y := fun h => by cases h
theorem Bl.ap {L : Nat} {w : World} {al st bl : Bool} {x v0 v1 v2 v3 : Value} (h : Bl L w al st x v0 v1 v2 v3) : Ap al bl x (.pointer (some ⟨w.heap.size, 0, none⟩)) := fun ha _ e => by
 obtain ⟨B, rfl, h2, h3, h4⟩ := h ha
 have : B = w.heap.size := by simpa using e
 cases st
 · have := (h3 rfl).lt; omega
 · have := (h4 rfl).lt; omega
theorem Ap.symm {al bl : Bool} {x y : Value} (h : Ap al bl x y) : Ap bl al y x := fun ha hb e => h hb ha e.symm
theorem Bl.far {L : Nat} {w : World} {al st : Bool} {x v0 v1 v2 v3 : Value} (h : Bl L w al st x v0 v1 v2 v3) {B : Nat} (ha : Ap true al (.pointer (some ⟨B, 0, none⟩)) x) (u0 u1 u2 u3 : Value) :
  Bl L ((((w.setCell ⟨B, 0, none⟩ u0).setCell ⟨B, 1, none⟩ u1).setCell ⟨B, 2, none⟩ u2).setCell ⟨B, 3, none⟩ u3) al st x v0 v1 v2 v3 := fun k => by
 obtain ⟨B', rfl, h2, h3, h4⟩ := h k
 have hn : B' ≠ B := fun e => ha rfl k (by rw [e])
 exact ⟨B', rfl, h2, fun k => (h3 k).far4 hn _ _ _ _, fun k => (h4 k).far4 hn _ _ _ _⟩
end Go.Proofs.YtcdkeiolblifkaaDoor
