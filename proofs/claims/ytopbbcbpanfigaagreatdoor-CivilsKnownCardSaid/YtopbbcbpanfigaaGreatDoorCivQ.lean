/-
  WALKS OF circaref06: Parse. (Printed by wip/gen/civ10.py.)
-/
import Derived.Test.YtopbbcbpanfigaaGreatDoorCivF
import Derived.Test.YtopbbcbpanfigaaGreatDoorIntsF
namespace Go.Proofs.YtopbbcbpanfigaaGreatDoor
open Go.RowKit
set_option linter.unusedVariables false
set_option linter.unusedSimpArgs false
/-- What the reference's loop over zeros knows. -/
structure TQ (t Y : ByteArray) : Prop where
  le : t.size ≤ 100
  pos : 0 < t.size
  all : AllD t.data.toList
  val : Dg.nvA 0 t.data.toList = Dg.nvA 0 Y.data.toList
def szOf : Value → Nat
  | .string t => t.size
  | _ => 0
theorem TQ.step {t Y : ByteArray} (h : TQ t Y) (h1 : 1 < t.size) (h48 : t[0] = 48) : TQ (t.extract 1 t.size) Y := by
  have hg := get_at t 0 h.pos
  have hl := len_is t
  cases hd : t.data.toList with
  | nil => rw [hd] at hl; simp at hl; omega
  | cons a r =>
    have e1 : (t.extract 1 t.size).data.toList = r := by
      have : (t.extract 1 t.size).data.toList = (t.data.toList.drop 1).take (t.size - 1) := by simp [ByteArray.data_extract, Array.toList_extract, List.extract]
      rw [this, hd]
      have hl2 : r.length + 1 = t.size := by rw [← len_is t, hd]; rfl
      rw [List.drop_succ_cons, List.drop_zero]
      exact List.take_of_length_le (by omega)
    have ha : a = 48 := by rw [hd] at hg; simp at hg; rw [hg]; exact h48
    subst ha
    have hv := h.val
    have hA := h.all
    rw [hd] at hv hA
    refine ⟨by simp [ByteArray.size_extract]; have := h.le; omega, by simp [ByteArray.size_extract]; omega, ?_, ?_⟩
    · rw [e1]; exact fun c hc => hA c (by simp [hc])
    · rw [e1, ← hv, Dg.nvA_cons]; rfl
theorem TQ.num {t Y : ByteArray} (h : TQ t Y) (hx : t.size = 1 ∨ ∀ _ : 0 < t.size, t[0] ≠ 48) : pOk t.data.toList ∧ pVal t.data.toList = (Dg.nvA 0 Y.data.toList : Int) := by
  have hl := len_is t
  have hds := ds_allD h.all
  have hn := neg_of_allD h.all
  refine ⟨⟨?_, ?_, by rw [hds]; exact h.all⟩, ?_⟩
  · rw [hds]; intro e; rw [e] at hl; simp at hl; have := h.pos; omega
  · rw [hds]
    rintro ⟨a, b⟩
    rcases hx with hx | hx
    · omega
    · refine hx h.pos ?_
      have := get_at t 0 h.pos
      cases hd : t.data.toList with
      | nil => rw [hd] at a; simp at a
      | cons c r => rw [hd] at a this; simp at a this; rw [← this, a]
  · unfold pVal; rw [hn, hds, h.val]; rfl
theorem IsN.keep {w : World} {v : Value} {x : Int} (h : IsN w v x) {B : Nat} {b0 : Bool} {p0 : Option Addr} {l0 k0 : Nat} (c0 : w.cell? ⟨B, 0, none⟩ = some (.bool b0)) (c1 : w.cell? ⟨B, 1, none⟩ = some (.slice p0 l0 k0)) (b : Bool) (s : Value) :
    IsN ((w.setCell ⟨B, 0, none⟩ (.bool b)).setCell ⟨B, 1, none⟩ s) v x := by
  obtain ⟨s', e1, p', cap', he, h1, h2, h3⟩ := h
  refine ⟨s', e1, p', cap', he, h1, h2, fun j y hy => ?_⟩
  obtain ⟨g, hg, hc⟩ := h3 j y hy
  have n0 : (⟨B, 0, none⟩ : Addr) ≠ ⟨g, j, none⟩ := fun e => by rw [← e, c0] at hc; simp at hc
  have n1 : (⟨B, 1, none⟩ : Addr) ≠ ⟨g, j, none⟩ := fun e => by rw [← e, c1] at hc; simp at hc
  exact ⟨g, hg, by rw [World.cell?_setCell_other _ _ _ _ n1, World.cell?_setCell_other _ _ _ _ n0]; exact hc⟩
theorem cell_far2 {w : World} {B n i : Nat} {v v0 v1 : Value} (hn : n ≠ B) (h : w.cell? ⟨n, i, none⟩ = some v) : ((w.setCell ⟨B, 0, none⟩ v0).setCell ⟨B, 1, none⟩ v1).cell? ⟨n, i, none⟩ = some v := by
  rw [World.cell?_setCell_other _ _ _ _ (fun e => hn (by simpa using (congrArg Addr.block e).symm)), World.cell?_setCell_other _ _ _ _ (fun e => hn (by simpa using (congrArg Addr.block e).symm))]
  exact h
theorem nv_small (l : List UInt8) (h : AllD l) (hl : l.length ≤ 100) : (Dg.dl (Dg.nvA 0 l : Int).natAbs).length ≤ 1000 := by
  have := nv_len l h
  have e : ((Dg.nvA 0 l : Int).natAbs : Int) < Dg.p10 l.length := by omega
  have := Dg.dl_len (n := (Dg.nvA 0 l : Int).natAbs) (k := l.length) e
  omega
set_option maxHeartbeats 4000000 in
set_option maxRecDepth 100000 in
theorem rp6_0 (s : ByteArray) (h : s.size < 10) (w : World) :
    Calls Tryz.prog 23 #[.string s] w fun ro w' => ro = .returned (.tuple #[.agg #[.int .i64 0, .int .i64 0, .int .i64 0], .int .i64 5]) ∧ Dn w w' := by
  have t1 : decide ((s.size : Int) < 10) = true := by simp; omega
  go_enter Tryz.func23, Tryz.ntmps23
  go_wp2_with fail
  exact bodyPost_ret (v := .tuple #[.agg #[.int .i64 0, .int .i64 0, .int .i64 0], .int .i64 5]) (by simp [results, Tryz.results23, go_sem]) rfl ⟨rfl, (Dn.refl _).alloc _⟩
set_option maxHeartbeats 4000000 in
set_option maxRecDepth 100000 in
theorem rp6_1 (s Y0 Y1 S2 S5 : ByteArray) (n1 n2 n3 n4 n5 n6 : Nat) (hs : s.size ≤ 100) (h10 : ¬ s.size < 10) (i1 : (s.size : Int) - 1 = n1) (i2 : (s.size : Int) - 2 = n2) (i3 : (s.size : Int) - 3 = n3) (i4 : (s.size : Int) - 4 = n4) (i5 : (s.size : Int) - 5 = n5) (i6 : (s.size : Int) - 6 = n6) (b1 : n1 < s.size) (b2 : n2 < s.size) (b3 : n3 < s.size) (b4 : n4 < s.size) (b5 : n5 < s.size) (b6 : n6 < s.size) (X2 : s.extract n2 s.size = S2) (X5 : s.extract n5 n3 = S5) (X0 : s.extract 0 n6 = Y0) (h : s[n3] ≠ 45) (w : World) :
    Calls Tryz.prog 23 #[.string s] w fun ro w' => ro = .returned (.tuple #[.agg #[.int .i64 0, .int .i64 0, .int .i64 0], .int .i64 5]) ∧ Dn w w' := by
  have t10 : decide ((s.size : Int) < 10) = false := by simp; omega
  have u2 : n2 ≤ s.size := by omega
  have u3 : n3 ≤ s.size := by omega
  have u5 : n5 ≤ n3 := by omega
  have u6 : n6 ≤ s.size := by omega
  have mq3 : ¬ s[n3].toNat = 45 := fun e => h (UInt8.toNat_inj.1 (by have : (45 : UInt8).toNat = 45 := rfl; omega))
  have q3 : ((s[n3].toNat : Int) == 45) = false := by rw [beq_eq_false_iff_ne]; omega
  clear h
  go_enter Tryz.func23, Tryz.ntmps23
  go_wp2_with fail
  exact bodyPost_ret (v := .tuple #[.agg #[.int .i64 0, .int .i64 0, .int .i64 0], .int .i64 5]) (by simp [results, Tryz.results23, go_sem]) rfl ⟨rfl, (Dn.refl _).alloc _⟩
set_option maxHeartbeats 4000000 in
set_option maxRecDepth 100000 in
theorem rp6_2 (s Y0 Y1 S2 S5 : ByteArray) (n1 n2 n3 n4 n5 n6 : Nat) (hs : s.size ≤ 100) (h10 : ¬ s.size < 10) (i1 : (s.size : Int) - 1 = n1) (i2 : (s.size : Int) - 2 = n2) (i3 : (s.size : Int) - 3 = n3) (i4 : (s.size : Int) - 4 = n4) (i5 : (s.size : Int) - 5 = n5) (i6 : (s.size : Int) - 6 = n6) (b1 : n1 < s.size) (b2 : n2 < s.size) (b3 : n3 < s.size) (b4 : n4 < s.size) (b5 : n5 < s.size) (b6 : n6 < s.size) (X2 : s.extract n2 s.size = S2) (X5 : s.extract n5 n3 = S5) (X0 : s.extract 0 n6 = Y0) (h : s[n3] = 45) (h6 : s[n6] ≠ 45) (w : World) :
    Calls Tryz.prog 23 #[.string s] w fun ro w' => ro = .returned (.tuple #[.agg #[.int .i64 0, .int .i64 0, .int .i64 0], .int .i64 5]) ∧ Dn w w' := by
  have t10 : decide ((s.size : Int) < 10) = false := by simp; omega
  have u2 : n2 ≤ s.size := by omega
  have u3 : n3 ≤ s.size := by omega
  have u5 : n5 ≤ n3 := by omega
  have u6 : n6 ≤ s.size := by omega
  have q3 : ((s[n3].toNat : Int) == 45) = true := by rw [h]; rfl
  have mq3 : s[n3].toNat = 45 := by rw [h]; rfl
  have mq6 : ¬ s[n6].toNat = 45 := fun e => h6 (UInt8.toNat_inj.1 (by have : (45 : UInt8).toNat = 45 := rfl; omega))
  have q6 : ((s[n6].toNat : Int) == 45) = false := by rw [beq_eq_false_iff_ne]; omega
  clear h h6
  go_enter Tryz.func23, Tryz.ntmps23
  go_wp2_with fail
  exact bodyPost_ret (v := .tuple #[.agg #[.int .i64 0, .int .i64 0, .int .i64 0], .int .i64 5]) (by simp [results, Tryz.results23, go_sem]) rfl ⟨rfl, (Dn.refl _).alloc _⟩
set_option maxHeartbeats 4000000 in
set_option maxRecDepth 100000 in
theorem rp6_3 (s Y0 Y1 S2 S5 : ByteArray) (n1 n2 n3 n4 n5 n6 : Nat) (hs : s.size ≤ 100) (h10 : ¬ s.size < 10) (i1 : (s.size : Int) - 1 = n1) (i2 : (s.size : Int) - 2 = n2) (i3 : (s.size : Int) - 3 = n3) (i4 : (s.size : Int) - 4 = n4) (i5 : (s.size : Int) - 5 = n5) (i6 : (s.size : Int) - 6 = n6) (b1 : n1 < s.size) (b2 : n2 < s.size) (b3 : n3 < s.size) (b4 : n4 < s.size) (b5 : n5 < s.size) (b6 : n6 < s.size) (X2 : s.extract n2 s.size = S2) (X5 : s.extract n5 n3 = S5) (X0 : s.extract 0 n6 = Y0) (h : s[n3] = 45) (h6 : s[n6] = 45) (HD2 : Hid (∀ W, Calls Tryz.prog 52 #[.string S2] W fun e w' => e = .returned (.bool false) ∧ W = w')) (w : World) :
    Calls Tryz.prog 23 #[.string s] w fun ro w' => ro = .returned (.tuple #[.agg #[.int .i64 0, .int .i64 0, .int .i64 0], .int .i64 5]) ∧ Dn w w' := by
  have t10 : decide ((s.size : Int) < 10) = false := by simp; omega
  have u2 : n2 ≤ s.size := by omega
  have u3 : n3 ≤ s.size := by omega
  have u5 : n5 ≤ n3 := by omega
  have u6 : n6 ≤ s.size := by omega
  have q3 : ((s[n3].toNat : Int) == 45) = true := by rw [h]; rfl
  have mq3 : s[n3].toNat = 45 := by rw [h]; rfl
  have q6 : ((s[n6].toNat : Int) == 45) = true := by rw [h6]; rfl
  have mq6 : s[n6].toNat = 45 := by rw [h6]; rfl
  clear h h6
  go_enter Tryz.func23, Tryz.ntmps23
  go_wp2_with fail
  obtain ⟨W1, hW1⟩ : ∃ W1, W1 = w.alloc (.cells #[.int .i64 0, .int .i64 0, .int .i64 0] 23) := ⟨_, rfl⟩
  have uW1 : Dn w W1 := by rw [hW1]; exact (Dn.refl _).alloc _
  have c2 : W1.cell? ⟨w.heap.size, 0, none⟩ = some (.int .i64 0) := by rw [hW1]; simp [go_sem]
  have c3 : W1.cell? ⟨w.heap.size, 1, none⟩ = some (.int .i64 0) := by rw [hW1]; simp [go_sem]
  have c4 : W1.cell? ⟨w.heap.size, 2, none⟩ = some (.int .i64 0) := by rw [hW1]; simp [go_sem]
  have l5 : w.heap.size < W1.heap.size := by rw [hW1]; simp <;> omega
  have f6 : W1.frozen? ⟨w.heap.size, 0, none⟩ = false := by rw [hW1]; simp [go_sem]
  have f7 : W1.frozen? ⟨w.heap.size, 1, none⟩ = false := by rw [hW1]; simp [go_sem]
  have f8 : W1.frozen? ⟨w.heap.size, 2, none⟩ = false := by rw [hW1]; simp [go_sem]
  rw [← hW1]
  clear hW1
  refine (HD2.out _).mono ?_
  rintro e w1 ⟨rfl, rfl⟩
  go_wp2_with fail
  exact bodyPost_ret (v := .tuple #[.agg #[.int .i64 0, .int .i64 0, .int .i64 0], .int .i64 5]) (by simp [results, Tryz.results23, go_sem, c2, c3, c4, f6, f7, f8] <;> omega) rfl ⟨rfl, (((uW1.setCell (by simp <;> omega) _).setCell (by simp <;> omega) _).setCell (by simp <;> omega) _)⟩
set_option maxHeartbeats 4000000 in
set_option maxRecDepth 100000 in
theorem rp6_4 (s Y0 Y1 S2 S5 : ByteArray) (n1 n2 n3 n4 n5 n6 : Nat) (hs : s.size ≤ 100) (h10 : ¬ s.size < 10) (i1 : (s.size : Int) - 1 = n1) (i2 : (s.size : Int) - 2 = n2) (i3 : (s.size : Int) - 3 = n3) (i4 : (s.size : Int) - 4 = n4) (i5 : (s.size : Int) - 5 = n5) (i6 : (s.size : Int) - 6 = n6) (b1 : n1 < s.size) (b2 : n2 < s.size) (b3 : n3 < s.size) (b4 : n4 < s.size) (b5 : n5 < s.size) (b6 : n6 < s.size) (X2 : s.extract n2 s.size = S2) (X5 : s.extract n5 n3 = S5) (X0 : s.extract 0 n6 = Y0) (h : s[n3] = 45) (h6 : s[n6] = 45) (HD2 : Hid (∀ W, Calls Tryz.prog 52 #[.string S2] W fun e w' => e = .returned (.bool true) ∧ W = w')) (HD5 : Hid (∀ W, Calls Tryz.prog 52 #[.string S5] W fun e w' => e = .returned (.bool false) ∧ W = w')) (w : World) :
    Calls Tryz.prog 23 #[.string s] w fun ro w' => ro = .returned (.tuple #[.agg #[.int .i64 0, .int .i64 0, .int .i64 0], .int .i64 5]) ∧ Dn w w' := by
  have t10 : decide ((s.size : Int) < 10) = false := by simp; omega
  have u2 : n2 ≤ s.size := by omega
  have u3 : n3 ≤ s.size := by omega
  have u5 : n5 ≤ n3 := by omega
  have u6 : n6 ≤ s.size := by omega
  have q3 : ((s[n3].toNat : Int) == 45) = true := by rw [h]; rfl
  have mq3 : s[n3].toNat = 45 := by rw [h]; rfl
  have q6 : ((s[n6].toNat : Int) == 45) = true := by rw [h6]; rfl
  have mq6 : s[n6].toNat = 45 := by rw [h6]; rfl
  clear h h6
  go_enter Tryz.func23, Tryz.ntmps23
  go_wp2_with fail
  obtain ⟨W1, hW1⟩ : ∃ W1, W1 = w.alloc (.cells #[.int .i64 0, .int .i64 0, .int .i64 0] 23) := ⟨_, rfl⟩
  have uW1 : Dn w W1 := by rw [hW1]; exact (Dn.refl _).alloc _
  have c2 : W1.cell? ⟨w.heap.size, 0, none⟩ = some (.int .i64 0) := by rw [hW1]; simp [go_sem]
  have c3 : W1.cell? ⟨w.heap.size, 1, none⟩ = some (.int .i64 0) := by rw [hW1]; simp [go_sem]
  have c4 : W1.cell? ⟨w.heap.size, 2, none⟩ = some (.int .i64 0) := by rw [hW1]; simp [go_sem]
  have l5 : w.heap.size < W1.heap.size := by rw [hW1]; simp <;> omega
  have f6 : W1.frozen? ⟨w.heap.size, 0, none⟩ = false := by rw [hW1]; simp [go_sem]
  have f7 : W1.frozen? ⟨w.heap.size, 1, none⟩ = false := by rw [hW1]; simp [go_sem]
  have f8 : W1.frozen? ⟨w.heap.size, 2, none⟩ = false := by rw [hW1]; simp [go_sem]
  rw [← hW1]
  clear hW1
  refine (HD2.out _).mono ?_
  rintro e w1 ⟨rfl, rfl⟩
  go_wp2_with fail
  refine (HD5.out _).mono ?_
  rintro e w2 ⟨rfl, rfl⟩
  go_wp2_with fail
  exact bodyPost_ret (v := .tuple #[.agg #[.int .i64 0, .int .i64 0, .int .i64 0], .int .i64 5]) (by simp [results, Tryz.results23, go_sem, c2, c3, c4, f6, f7, f8] <;> omega) rfl ⟨rfl, (((uW1.setCell (by simp <;> omega) _).setCell (by simp <;> omega) _).setCell (by simp <;> omega) _)⟩
set_option maxHeartbeats 4000000 in
set_option maxRecDepth 100000 in
theorem rp6_5p (s Y0 Y1 S2 S5 : ByteArray) (n1 n2 n3 n4 n5 n6 : Nat) (hs : s.size ≤ 100) (h10 : ¬ s.size < 10) (i1 : (s.size : Int) - 1 = n1) (i2 : (s.size : Int) - 2 = n2) (i3 : (s.size : Int) - 3 = n3) (i4 : (s.size : Int) - 4 = n4) (i5 : (s.size : Int) - 5 = n5) (i6 : (s.size : Int) - 6 = n6) (b1 : n1 < s.size) (b2 : n2 < s.size) (b3 : n3 < s.size) (b4 : n4 < s.size) (b5 : n5 < s.size) (b6 : n6 < s.size) (X2 : s.extract n2 s.size = S2) (X5 : s.extract n5 n3 = S5) (X0 : s.extract 0 n6 = Y0) (h : s[n3] = 45) (h6 : s[n6] = 45) (HD2 : Hid (∀ W, Calls Tryz.prog 52 #[.string S2] W fun e w' => e = .returned (.bool true) ∧ W = w')) (HD5 : Hid (∀ W, Calls Tryz.prog 52 #[.string S5] W fun e w' => e = .returned (.bool true) ∧ W = w')) (y0 : 0 < Y0.size) (g : Y0[0] ≠ 45) (l : Y0.size < 4) (w : World) :
    Calls Tryz.prog 23 #[.string s] w fun ro w' => ro = .returned (.tuple #[.agg #[.int .i64 0, .int .i64 0, .int .i64 0], .int .i64 5]) ∧ Dn w w' := by
  have t10 : decide ((s.size : Int) < 10) = false := by simp; omega
  have u2 : n2 ≤ s.size := by omega
  have u3 : n3 ≤ s.size := by omega
  have u5 : n5 ≤ n3 := by omega
  have u6 : n6 ≤ s.size := by omega
  have q3 : ((s[n3].toNat : Int) == 45) = true := by rw [h]; rfl
  have mq3 : s[n3].toNat = 45 := by rw [h]; rfl
  have q6 : ((s[n6].toNat : Int) == 45) = true := by rw [h6]; rfl
  have mq6 : s[n6].toNat = 45 := by rw [h6]; rfl
  clear h h6
  have mqn : ¬ Y0[0].toNat = 45 := fun e => g (UInt8.toNat_inj.1 (by have : (45 : UInt8).toNat = 45 := rfl; omega))
  have qn : ((Y0[0].toNat : Int) == 45) = false := by rw [beq_eq_false_iff_ne]; omega
  clear g
  have k1 : decide ((Y0.size : Int) < 4) = true := by simp; omega
  go_enter Tryz.func23, Tryz.ntmps23
  go_wp2_with fail
  obtain ⟨W1, hW1⟩ : ∃ W1, W1 = w.alloc (.cells #[.int .i64 0, .int .i64 0, .int .i64 0] 23) := ⟨_, rfl⟩
  have uW1 : Dn w W1 := by rw [hW1]; exact (Dn.refl _).alloc _
  have c2 : W1.cell? ⟨w.heap.size, 0, none⟩ = some (.int .i64 0) := by rw [hW1]; simp [go_sem]
  have c3 : W1.cell? ⟨w.heap.size, 1, none⟩ = some (.int .i64 0) := by rw [hW1]; simp [go_sem]
  have c4 : W1.cell? ⟨w.heap.size, 2, none⟩ = some (.int .i64 0) := by rw [hW1]; simp [go_sem]
  have l5 : w.heap.size < W1.heap.size := by rw [hW1]; simp <;> omega
  have f6 : W1.frozen? ⟨w.heap.size, 0, none⟩ = false := by rw [hW1]; simp [go_sem]
  have f7 : W1.frozen? ⟨w.heap.size, 1, none⟩ = false := by rw [hW1]; simp [go_sem]
  have f8 : W1.frozen? ⟨w.heap.size, 2, none⟩ = false := by rw [hW1]; simp [go_sem]
  rw [← hW1]
  clear hW1
  refine (HD2.out _).mono ?_
  rintro e w1 ⟨rfl, rfl⟩
  go_wp2_with fail
  refine (HD5.out _).mono ?_
  rintro e w2 ⟨rfl, rfl⟩
  go_wp2_with fail
  exact bodyPost_ret (v := .tuple #[.agg #[.int .i64 0, .int .i64 0, .int .i64 0], .int .i64 5]) (by simp [results, Tryz.results23, go_sem, c2, c3, c4, f6, f7, f8] <;> omega) rfl ⟨rfl, (((uW1.setCell (by simp <;> omega) _).setCell (by simp <;> omega) _).setCell (by simp <;> omega) _)⟩
set_option maxHeartbeats 4000000 in
set_option maxRecDepth 100000 in
theorem rp6_6p (s Y0 Y1 S2 S5 : ByteArray) (n1 n2 n3 n4 n5 n6 : Nat) (hs : s.size ≤ 100) (h10 : ¬ s.size < 10) (i1 : (s.size : Int) - 1 = n1) (i2 : (s.size : Int) - 2 = n2) (i3 : (s.size : Int) - 3 = n3) (i4 : (s.size : Int) - 4 = n4) (i5 : (s.size : Int) - 5 = n5) (i6 : (s.size : Int) - 6 = n6) (b1 : n1 < s.size) (b2 : n2 < s.size) (b3 : n3 < s.size) (b4 : n4 < s.size) (b5 : n5 < s.size) (b6 : n6 < s.size) (X2 : s.extract n2 s.size = S2) (X5 : s.extract n5 n3 = S5) (X0 : s.extract 0 n6 = Y0) (h : s[n3] = 45) (h6 : s[n6] = 45) (HD2 : Hid (∀ W, Calls Tryz.prog 52 #[.string S2] W fun e w' => e = .returned (.bool true) ∧ W = w')) (HD5 : Hid (∀ W, Calls Tryz.prog 52 #[.string S5] W fun e w' => e = .returned (.bool true) ∧ W = w')) (y0 : 0 < Y0.size) (g : Y0[0] ≠ 45) (l : ¬ Y0.size < 4) (HDY : Hid (∀ W, Calls Tryz.prog 52 #[.string Y0] W fun e w' => e = .returned (.bool false) ∧ W = w')) (w : World) :
    Calls Tryz.prog 23 #[.string s] w fun ro w' => ro = .returned (.tuple #[.agg #[.int .i64 0, .int .i64 0, .int .i64 0], .int .i64 5]) ∧ Dn w w' := by
  have t10 : decide ((s.size : Int) < 10) = false := by simp; omega
  have u2 : n2 ≤ s.size := by omega
  have u3 : n3 ≤ s.size := by omega
  have u5 : n5 ≤ n3 := by omega
  have u6 : n6 ≤ s.size := by omega
  have q3 : ((s[n3].toNat : Int) == 45) = true := by rw [h]; rfl
  have mq3 : s[n3].toNat = 45 := by rw [h]; rfl
  have q6 : ((s[n6].toNat : Int) == 45) = true := by rw [h6]; rfl
  have mq6 : s[n6].toNat = 45 := by rw [h6]; rfl
  clear h h6
  have mqn : ¬ Y0[0].toNat = 45 := fun e => g (UInt8.toNat_inj.1 (by have : (45 : UInt8).toNat = 45 := rfl; omega))
  have qn : ((Y0[0].toNat : Int) == 45) = false := by rw [beq_eq_false_iff_ne]; omega
  clear g
  have k1 : decide ((Y0.size : Int) < 4) = false := by simp; omega
  have k2 : ¬ Y0.size < 4 := l
  go_enter Tryz.func23, Tryz.ntmps23
  go_wp2_with fail
  obtain ⟨W1, hW1⟩ : ∃ W1, W1 = w.alloc (.cells #[.int .i64 0, .int .i64 0, .int .i64 0] 23) := ⟨_, rfl⟩
  have uW1 : Dn w W1 := by rw [hW1]; exact (Dn.refl _).alloc _
  have c2 : W1.cell? ⟨w.heap.size, 0, none⟩ = some (.int .i64 0) := by rw [hW1]; simp [go_sem]
  have c3 : W1.cell? ⟨w.heap.size, 1, none⟩ = some (.int .i64 0) := by rw [hW1]; simp [go_sem]
  have c4 : W1.cell? ⟨w.heap.size, 2, none⟩ = some (.int .i64 0) := by rw [hW1]; simp [go_sem]
  have l5 : w.heap.size < W1.heap.size := by rw [hW1]; simp <;> omega
  have f6 : W1.frozen? ⟨w.heap.size, 0, none⟩ = false := by rw [hW1]; simp [go_sem]
  have f7 : W1.frozen? ⟨w.heap.size, 1, none⟩ = false := by rw [hW1]; simp [go_sem]
  have f8 : W1.frozen? ⟨w.heap.size, 2, none⟩ = false := by rw [hW1]; simp [go_sem]
  rw [← hW1]
  clear hW1
  refine (HD2.out _).mono ?_
  rintro e w1 ⟨rfl, rfl⟩
  go_wp2_with fail
  refine (HD5.out _).mono ?_
  rintro e w2 ⟨rfl, rfl⟩
  go_wp2_with fail
  refine (HDY.out _).mono ?_
  rintro e w3 ⟨rfl, rfl⟩
  go_wp2_with fail
  exact bodyPost_ret (v := .tuple #[.agg #[.int .i64 0, .int .i64 0, .int .i64 0], .int .i64 5]) (by simp [results, Tryz.results23, go_sem, c2, c3, c4, f6, f7, f8] <;> omega) rfl ⟨rfl, (((uW1.setCell (by simp <;> omega) _).setCell (by simp <;> omega) _).setCell (by simp <;> omega) _)⟩
set_option maxHeartbeats 4000000 in
set_option maxRecDepth 100000 in
theorem rp6_7p (s Y0 Y1 S2 S5 : ByteArray) (n1 n2 n3 n4 n5 n6 : Nat) (hs : s.size ≤ 100) (h10 : ¬ s.size < 10) (i1 : (s.size : Int) - 1 = n1) (i2 : (s.size : Int) - 2 = n2) (i3 : (s.size : Int) - 3 = n3) (i4 : (s.size : Int) - 4 = n4) (i5 : (s.size : Int) - 5 = n5) (i6 : (s.size : Int) - 6 = n6) (b1 : n1 < s.size) (b2 : n2 < s.size) (b3 : n3 < s.size) (b4 : n4 < s.size) (b5 : n5 < s.size) (b6 : n6 < s.size) (X2 : s.extract n2 s.size = S2) (X5 : s.extract n5 n3 = S5) (X0 : s.extract 0 n6 = Y0) (h : s[n3] = 45) (h6 : s[n6] = 45) (HD2 : Hid (∀ W, Calls Tryz.prog 52 #[.string S2] W fun e w' => e = .returned (.bool true) ∧ W = w')) (HD5 : Hid (∀ W, Calls Tryz.prog 52 #[.string S5] W fun e w' => e = .returned (.bool true) ∧ W = w')) (y0 : 0 < Y0.size) (g : Y0[0] ≠ 45) (l : ¬ Y0.size < 4) (HDY : Hid (∀ W, Calls Tryz.prog 52 #[.string Y0] W fun e w' => e = .returned (.bool true) ∧ W = w')) (l4 : 4 < Y0.size) (z0 : Y0[0]'(by omega) = 48) (w : World) :
    Calls Tryz.prog 23 #[.string s] w fun ro w' => ro = .returned (.tuple #[.agg #[.int .i64 0, .int .i64 0, .int .i64 0], .int .i64 5]) ∧ Dn w w' := by
  have t10 : decide ((s.size : Int) < 10) = false := by simp; omega
  have u2 : n2 ≤ s.size := by omega
  have u3 : n3 ≤ s.size := by omega
  have u5 : n5 ≤ n3 := by omega
  have u6 : n6 ≤ s.size := by omega
  have q3 : ((s[n3].toNat : Int) == 45) = true := by rw [h]; rfl
  have mq3 : s[n3].toNat = 45 := by rw [h]; rfl
  have q6 : ((s[n6].toNat : Int) == 45) = true := by rw [h6]; rfl
  have mq6 : s[n6].toNat = 45 := by rw [h6]; rfl
  clear h h6
  have mqn : ¬ Y0[0].toNat = 45 := fun e => g (UInt8.toNat_inj.1 (by have : (45 : UInt8).toNat = 45 := rfl; omega))
  have qn : ((Y0[0].toNat : Int) == 45) = false := by rw [beq_eq_false_iff_ne]; omega
  clear g
  have k1 : decide ((Y0.size : Int) < 4) = false := by simp; omega
  have k2 : ¬ Y0.size < 4 := l
  have l0 : 0 < Y0.size := by omega
  have k3 : decide (4 < (Y0.size : Int)) = true := by simp; omega
  have qz : ((Y0[0].toNat : Int) == 48) = true := by rw [z0]; rfl
  have mqz : Y0[0].toNat = 48 := by rw [z0]; rfl
  clear z0
  go_enter Tryz.func23, Tryz.ntmps23
  go_wp2_with fail
  obtain ⟨W1, hW1⟩ : ∃ W1, W1 = w.alloc (.cells #[.int .i64 0, .int .i64 0, .int .i64 0] 23) := ⟨_, rfl⟩
  have uW1 : Dn w W1 := by rw [hW1]; exact (Dn.refl _).alloc _
  have c2 : W1.cell? ⟨w.heap.size, 0, none⟩ = some (.int .i64 0) := by rw [hW1]; simp [go_sem]
  have c3 : W1.cell? ⟨w.heap.size, 1, none⟩ = some (.int .i64 0) := by rw [hW1]; simp [go_sem]
  have c4 : W1.cell? ⟨w.heap.size, 2, none⟩ = some (.int .i64 0) := by rw [hW1]; simp [go_sem]
  have l5 : w.heap.size < W1.heap.size := by rw [hW1]; simp <;> omega
  have f6 : W1.frozen? ⟨w.heap.size, 0, none⟩ = false := by rw [hW1]; simp [go_sem]
  have f7 : W1.frozen? ⟨w.heap.size, 1, none⟩ = false := by rw [hW1]; simp [go_sem]
  have f8 : W1.frozen? ⟨w.heap.size, 2, none⟩ = false := by rw [hW1]; simp [go_sem]
  rw [← hW1]
  clear hW1
  refine (HD2.out _).mono ?_
  rintro e w1 ⟨rfl, rfl⟩
  go_wp2_with fail
  refine (HD5.out _).mono ?_
  rintro e w2 ⟨rfl, rfl⟩
  go_wp2_with fail
  refine (HDY.out _).mono ?_
  rintro e w3 ⟨rfl, rfl⟩
  go_wp2_with fail
  exact bodyPost_ret (v := .tuple #[.agg #[.int .i64 0, .int .i64 0, .int .i64 0], .int .i64 5]) (by simp [results, Tryz.results23, go_sem, c2, c3, c4, f6, f7, f8] <;> omega) rfl ⟨rfl, (((uW1.setCell (by simp <;> omega) _).setCell (by simp <;> omega) _).setCell (by simp <;> omega) _)⟩
set_option maxHeartbeats 4000000 in
set_option maxRecDepth 100000 in
theorem rp6_5n (s Y0 Y1 S2 S5 : ByteArray) (n1 n2 n3 n4 n5 n6 : Nat) (hs : s.size ≤ 100) (h10 : ¬ s.size < 10) (i1 : (s.size : Int) - 1 = n1) (i2 : (s.size : Int) - 2 = n2) (i3 : (s.size : Int) - 3 = n3) (i4 : (s.size : Int) - 4 = n4) (i5 : (s.size : Int) - 5 = n5) (i6 : (s.size : Int) - 6 = n6) (b1 : n1 < s.size) (b2 : n2 < s.size) (b3 : n3 < s.size) (b4 : n4 < s.size) (b5 : n5 < s.size) (b6 : n6 < s.size) (X2 : s.extract n2 s.size = S2) (X5 : s.extract n5 n3 = S5) (X0 : s.extract 0 n6 = Y0) (h : s[n3] = 45) (h6 : s[n6] = 45) (HD2 : Hid (∀ W, Calls Tryz.prog 52 #[.string S2] W fun e w' => e = .returned (.bool true) ∧ W = w')) (HD5 : Hid (∀ W, Calls Tryz.prog 52 #[.string S5] W fun e w' => e = .returned (.bool true) ∧ W = w')) (y0 : 0 < Y0.size) (g : Y0[0] = 45) (X1 : Y0.extract 1 Y0.size = Y1) (v0 : 1 ≤ Y0.size) (l : Y1.size < 4) (w : World) :
    Calls Tryz.prog 23 #[.string s] w fun ro w' => ro = .returned (.tuple #[.agg #[.int .i64 0, .int .i64 0, .int .i64 0], .int .i64 5]) ∧ Dn w w' := by
  have t10 : decide ((s.size : Int) < 10) = false := by simp; omega
  have u2 : n2 ≤ s.size := by omega
  have u3 : n3 ≤ s.size := by omega
  have u5 : n5 ≤ n3 := by omega
  have u6 : n6 ≤ s.size := by omega
  have q3 : ((s[n3].toNat : Int) == 45) = true := by rw [h]; rfl
  have mq3 : s[n3].toNat = 45 := by rw [h]; rfl
  have q6 : ((s[n6].toNat : Int) == 45) = true := by rw [h6]; rfl
  have mq6 : s[n6].toNat = 45 := by rw [h6]; rfl
  clear h h6
  have qn : ((Y0[0].toNat : Int) == 45) = true := by rw [g]; rfl
  have mqn : Y0[0].toNat = 45 := by rw [g]; rfl
  clear g
  have k1 : decide ((Y1.size : Int) < 4) = true := by simp; omega
  go_enter Tryz.func23, Tryz.ntmps23
  go_wp2_with fail
  obtain ⟨W1, hW1⟩ : ∃ W1, W1 = w.alloc (.cells #[.int .i64 0, .int .i64 0, .int .i64 0] 23) := ⟨_, rfl⟩
  have uW1 : Dn w W1 := by rw [hW1]; exact (Dn.refl _).alloc _
  have c2 : W1.cell? ⟨w.heap.size, 0, none⟩ = some (.int .i64 0) := by rw [hW1]; simp [go_sem]
  have c3 : W1.cell? ⟨w.heap.size, 1, none⟩ = some (.int .i64 0) := by rw [hW1]; simp [go_sem]
  have c4 : W1.cell? ⟨w.heap.size, 2, none⟩ = some (.int .i64 0) := by rw [hW1]; simp [go_sem]
  have l5 : w.heap.size < W1.heap.size := by rw [hW1]; simp <;> omega
  have f6 : W1.frozen? ⟨w.heap.size, 0, none⟩ = false := by rw [hW1]; simp [go_sem]
  have f7 : W1.frozen? ⟨w.heap.size, 1, none⟩ = false := by rw [hW1]; simp [go_sem]
  have f8 : W1.frozen? ⟨w.heap.size, 2, none⟩ = false := by rw [hW1]; simp [go_sem]
  rw [← hW1]
  clear hW1
  refine (HD2.out _).mono ?_
  rintro e w1 ⟨rfl, rfl⟩
  go_wp2_with fail
  refine (HD5.out _).mono ?_
  rintro e w2 ⟨rfl, rfl⟩
  go_wp2_with fail
  exact bodyPost_ret (v := .tuple #[.agg #[.int .i64 0, .int .i64 0, .int .i64 0], .int .i64 5]) (by simp [results, Tryz.results23, go_sem, c2, c3, c4, f6, f7, f8] <;> omega) rfl ⟨rfl, (((uW1.setCell (by simp <;> omega) _).setCell (by simp <;> omega) _).setCell (by simp <;> omega) _)⟩
set_option maxHeartbeats 4000000 in
set_option maxRecDepth 100000 in
theorem rp6_6n (s Y0 Y1 S2 S5 : ByteArray) (n1 n2 n3 n4 n5 n6 : Nat) (hs : s.size ≤ 100) (h10 : ¬ s.size < 10) (i1 : (s.size : Int) - 1 = n1) (i2 : (s.size : Int) - 2 = n2) (i3 : (s.size : Int) - 3 = n3) (i4 : (s.size : Int) - 4 = n4) (i5 : (s.size : Int) - 5 = n5) (i6 : (s.size : Int) - 6 = n6) (b1 : n1 < s.size) (b2 : n2 < s.size) (b3 : n3 < s.size) (b4 : n4 < s.size) (b5 : n5 < s.size) (b6 : n6 < s.size) (X2 : s.extract n2 s.size = S2) (X5 : s.extract n5 n3 = S5) (X0 : s.extract 0 n6 = Y0) (h : s[n3] = 45) (h6 : s[n6] = 45) (HD2 : Hid (∀ W, Calls Tryz.prog 52 #[.string S2] W fun e w' => e = .returned (.bool true) ∧ W = w')) (HD5 : Hid (∀ W, Calls Tryz.prog 52 #[.string S5] W fun e w' => e = .returned (.bool true) ∧ W = w')) (y0 : 0 < Y0.size) (g : Y0[0] = 45) (X1 : Y0.extract 1 Y0.size = Y1) (v0 : 1 ≤ Y0.size) (l : ¬ Y1.size < 4) (HDY : Hid (∀ W, Calls Tryz.prog 52 #[.string Y1] W fun e w' => e = .returned (.bool false) ∧ W = w')) (w : World) :
    Calls Tryz.prog 23 #[.string s] w fun ro w' => ro = .returned (.tuple #[.agg #[.int .i64 0, .int .i64 0, .int .i64 0], .int .i64 5]) ∧ Dn w w' := by
  have t10 : decide ((s.size : Int) < 10) = false := by simp; omega
  have u2 : n2 ≤ s.size := by omega
  have u3 : n3 ≤ s.size := by omega
  have u5 : n5 ≤ n3 := by omega
  have u6 : n6 ≤ s.size := by omega
  have q3 : ((s[n3].toNat : Int) == 45) = true := by rw [h]; rfl
  have mq3 : s[n3].toNat = 45 := by rw [h]; rfl
  have q6 : ((s[n6].toNat : Int) == 45) = true := by rw [h6]; rfl
  have mq6 : s[n6].toNat = 45 := by rw [h6]; rfl
  clear h h6
  have qn : ((Y0[0].toNat : Int) == 45) = true := by rw [g]; rfl
  have mqn : Y0[0].toNat = 45 := by rw [g]; rfl
  clear g
  have k1 : decide ((Y1.size : Int) < 4) = false := by simp; omega
  have k2 : ¬ Y1.size < 4 := l
  go_enter Tryz.func23, Tryz.ntmps23
  go_wp2_with fail
  obtain ⟨W1, hW1⟩ : ∃ W1, W1 = w.alloc (.cells #[.int .i64 0, .int .i64 0, .int .i64 0] 23) := ⟨_, rfl⟩
  have uW1 : Dn w W1 := by rw [hW1]; exact (Dn.refl _).alloc _
  have c2 : W1.cell? ⟨w.heap.size, 0, none⟩ = some (.int .i64 0) := by rw [hW1]; simp [go_sem]
  have c3 : W1.cell? ⟨w.heap.size, 1, none⟩ = some (.int .i64 0) := by rw [hW1]; simp [go_sem]
  have c4 : W1.cell? ⟨w.heap.size, 2, none⟩ = some (.int .i64 0) := by rw [hW1]; simp [go_sem]
  have l5 : w.heap.size < W1.heap.size := by rw [hW1]; simp <;> omega
  have f6 : W1.frozen? ⟨w.heap.size, 0, none⟩ = false := by rw [hW1]; simp [go_sem]
  have f7 : W1.frozen? ⟨w.heap.size, 1, none⟩ = false := by rw [hW1]; simp [go_sem]
  have f8 : W1.frozen? ⟨w.heap.size, 2, none⟩ = false := by rw [hW1]; simp [go_sem]
  rw [← hW1]
  clear hW1
  refine (HD2.out _).mono ?_
  rintro e w1 ⟨rfl, rfl⟩
  go_wp2_with fail
  refine (HD5.out _).mono ?_
  rintro e w2 ⟨rfl, rfl⟩
  go_wp2_with fail
  refine (HDY.out _).mono ?_
  rintro e w3 ⟨rfl, rfl⟩
  go_wp2_with fail
  exact bodyPost_ret (v := .tuple #[.agg #[.int .i64 0, .int .i64 0, .int .i64 0], .int .i64 5]) (by simp [results, Tryz.results23, go_sem, c2, c3, c4, f6, f7, f8] <;> omega) rfl ⟨rfl, (((uW1.setCell (by simp <;> omega) _).setCell (by simp <;> omega) _).setCell (by simp <;> omega) _)⟩
set_option maxHeartbeats 4000000 in
set_option maxRecDepth 100000 in
theorem rp6_7n (s Y0 Y1 S2 S5 : ByteArray) (n1 n2 n3 n4 n5 n6 : Nat) (hs : s.size ≤ 100) (h10 : ¬ s.size < 10) (i1 : (s.size : Int) - 1 = n1) (i2 : (s.size : Int) - 2 = n2) (i3 : (s.size : Int) - 3 = n3) (i4 : (s.size : Int) - 4 = n4) (i5 : (s.size : Int) - 5 = n5) (i6 : (s.size : Int) - 6 = n6) (b1 : n1 < s.size) (b2 : n2 < s.size) (b3 : n3 < s.size) (b4 : n4 < s.size) (b5 : n5 < s.size) (b6 : n6 < s.size) (X2 : s.extract n2 s.size = S2) (X5 : s.extract n5 n3 = S5) (X0 : s.extract 0 n6 = Y0) (h : s[n3] = 45) (h6 : s[n6] = 45) (HD2 : Hid (∀ W, Calls Tryz.prog 52 #[.string S2] W fun e w' => e = .returned (.bool true) ∧ W = w')) (HD5 : Hid (∀ W, Calls Tryz.prog 52 #[.string S5] W fun e w' => e = .returned (.bool true) ∧ W = w')) (y0 : 0 < Y0.size) (g : Y0[0] = 45) (X1 : Y0.extract 1 Y0.size = Y1) (v0 : 1 ≤ Y0.size) (l : ¬ Y1.size < 4) (HDY : Hid (∀ W, Calls Tryz.prog 52 #[.string Y1] W fun e w' => e = .returned (.bool true) ∧ W = w')) (l4 : 4 < Y1.size) (z0 : Y1[0]'(by omega) = 48) (w : World) :
    Calls Tryz.prog 23 #[.string s] w fun ro w' => ro = .returned (.tuple #[.agg #[.int .i64 0, .int .i64 0, .int .i64 0], .int .i64 5]) ∧ Dn w w' := by
  have t10 : decide ((s.size : Int) < 10) = false := by simp; omega
  have u2 : n2 ≤ s.size := by omega
  have u3 : n3 ≤ s.size := by omega
  have u5 : n5 ≤ n3 := by omega
  have u6 : n6 ≤ s.size := by omega
  have q3 : ((s[n3].toNat : Int) == 45) = true := by rw [h]; rfl
  have mq3 : s[n3].toNat = 45 := by rw [h]; rfl
  have q6 : ((s[n6].toNat : Int) == 45) = true := by rw [h6]; rfl
  have mq6 : s[n6].toNat = 45 := by rw [h6]; rfl
  clear h h6
  have qn : ((Y0[0].toNat : Int) == 45) = true := by rw [g]; rfl
  have mqn : Y0[0].toNat = 45 := by rw [g]; rfl
  clear g
  have k1 : decide ((Y1.size : Int) < 4) = false := by simp; omega
  have k2 : ¬ Y1.size < 4 := l
  have l0 : 0 < Y1.size := by omega
  have k3 : decide (4 < (Y1.size : Int)) = true := by simp; omega
  have qz : ((Y1[0].toNat : Int) == 48) = true := by rw [z0]; rfl
  have mqz : Y1[0].toNat = 48 := by rw [z0]; rfl
  clear z0
  go_enter Tryz.func23, Tryz.ntmps23
  go_wp2_with fail
  obtain ⟨W1, hW1⟩ : ∃ W1, W1 = w.alloc (.cells #[.int .i64 0, .int .i64 0, .int .i64 0] 23) := ⟨_, rfl⟩
  have uW1 : Dn w W1 := by rw [hW1]; exact (Dn.refl _).alloc _
  have c2 : W1.cell? ⟨w.heap.size, 0, none⟩ = some (.int .i64 0) := by rw [hW1]; simp [go_sem]
  have c3 : W1.cell? ⟨w.heap.size, 1, none⟩ = some (.int .i64 0) := by rw [hW1]; simp [go_sem]
  have c4 : W1.cell? ⟨w.heap.size, 2, none⟩ = some (.int .i64 0) := by rw [hW1]; simp [go_sem]
  have l5 : w.heap.size < W1.heap.size := by rw [hW1]; simp <;> omega
  have f6 : W1.frozen? ⟨w.heap.size, 0, none⟩ = false := by rw [hW1]; simp [go_sem]
  have f7 : W1.frozen? ⟨w.heap.size, 1, none⟩ = false := by rw [hW1]; simp [go_sem]
  have f8 : W1.frozen? ⟨w.heap.size, 2, none⟩ = false := by rw [hW1]; simp [go_sem]
  rw [← hW1]
  clear hW1
  refine (HD2.out _).mono ?_
  rintro e w1 ⟨rfl, rfl⟩
  go_wp2_with fail
  refine (HD5.out _).mono ?_
  rintro e w2 ⟨rfl, rfl⟩
  go_wp2_with fail
  refine (HDY.out _).mono ?_
  rintro e w3 ⟨rfl, rfl⟩
  go_wp2_with fail
  exact bodyPost_ret (v := .tuple #[.agg #[.int .i64 0, .int .i64 0, .int .i64 0], .int .i64 5]) (by simp [results, Tryz.results23, go_sem, c2, c3, c4, f6, f7, f8] <;> omega) rfl ⟨rfl, (((uW1.setCell (by simp <;> omega) _).setCell (by simp <;> omega) _).setCell (by simp <;> omega) _)⟩
set_option maxHeartbeats 4000000 in
set_option maxRecDepth 100000 in
theorem rp6_8n (s Y0 Y1 S2 S5 : ByteArray) (n1 n2 n3 n4 n5 n6 : Nat) (hs : s.size ≤ 100) (h10 : ¬ s.size < 10) (i1 : (s.size : Int) - 1 = n1) (i2 : (s.size : Int) - 2 = n2) (i3 : (s.size : Int) - 3 = n3) (i4 : (s.size : Int) - 4 = n4) (i5 : (s.size : Int) - 5 = n5) (i6 : (s.size : Int) - 6 = n6) (b1 : n1 < s.size) (b2 : n2 < s.size) (b3 : n3 < s.size) (b4 : n4 < s.size) (b5 : n5 < s.size) (b6 : n6 < s.size) (X2 : s.extract n2 s.size = S2) (X5 : s.extract n5 n3 = S5) (X0 : s.extract 0 n6 = Y0) (h : s[n3] = 45) (h6 : s[n6] = 45) (HD2 : Hid (∀ W, Calls Tryz.prog 52 #[.string S2] W fun e w' => e = .returned (.bool true) ∧ W = w')) (HD5 : Hid (∀ W, Calls Tryz.prog 52 #[.string S5] W fun e w' => e = .returned (.bool true) ∧ W = w')) (y0 : 0 < Y0.size) (g : Y0[0] = 45) (X1 : Y0.extract 1 Y0.size = Y1) (v0 : 1 ≤ Y0.size) (l : ¬ Y1.size < 4) (HDY : Hid (∀ W, Calls Tryz.prog 52 #[.string Y1] W fun e w' => e = .returned (.bool true) ∧ W = w')) (l4 : Y1.size = 4) (z0 : Y1.toList = [48, 48, 48, 48]) (w : World) :
    Calls Tryz.prog 23 #[.string s] w fun ro w' => ro = .returned (.tuple #[.agg #[.int .i64 0, .int .i64 0, .int .i64 0], .int .i64 5]) ∧ Dn w w' := by
  have t10 : decide ((s.size : Int) < 10) = false := by simp; omega
  have u2 : n2 ≤ s.size := by omega
  have u3 : n3 ≤ s.size := by omega
  have u5 : n5 ≤ n3 := by omega
  have u6 : n6 ≤ s.size := by omega
  have q3 : ((s[n3].toNat : Int) == 45) = true := by rw [h]; rfl
  have mq3 : s[n3].toNat = 45 := by rw [h]; rfl
  have q6 : ((s[n6].toNat : Int) == 45) = true := by rw [h6]; rfl
  have mq6 : s[n6].toNat = 45 := by rw [h6]; rfl
  clear h h6
  have qn : ((Y0[0].toNat : Int) == 45) = true := by rw [g]; rfl
  have mqn : Y0[0].toNat = 45 := by rw [g]; rfl
  clear g
  have k1 : decide ((Y1.size : Int) < 4) = false := by simp; omega
  have k2 : ¬ Y1.size < 4 := l
  have k3 : decide (4 < (Y1.size : Int)) = false := by simp; omega
  have k4 : ¬ 4 < Y1.size := by omega
  have k5 : (Y1.toList == [48, 48, 48, 48]) = true := by simp [z0]
  go_enter Tryz.func23, Tryz.ntmps23
  go_wp2_with fail
  obtain ⟨W1, hW1⟩ : ∃ W1, W1 = w.alloc (.cells #[.int .i64 0, .int .i64 0, .int .i64 0] 23) := ⟨_, rfl⟩
  have uW1 : Dn w W1 := by rw [hW1]; exact (Dn.refl _).alloc _
  have c2 : W1.cell? ⟨w.heap.size, 0, none⟩ = some (.int .i64 0) := by rw [hW1]; simp [go_sem]
  have c3 : W1.cell? ⟨w.heap.size, 1, none⟩ = some (.int .i64 0) := by rw [hW1]; simp [go_sem]
  have c4 : W1.cell? ⟨w.heap.size, 2, none⟩ = some (.int .i64 0) := by rw [hW1]; simp [go_sem]
  have l5 : w.heap.size < W1.heap.size := by rw [hW1]; simp <;> omega
  have f6 : W1.frozen? ⟨w.heap.size, 0, none⟩ = false := by rw [hW1]; simp [go_sem]
  have f7 : W1.frozen? ⟨w.heap.size, 1, none⟩ = false := by rw [hW1]; simp [go_sem]
  have f8 : W1.frozen? ⟨w.heap.size, 2, none⟩ = false := by rw [hW1]; simp [go_sem]
  rw [← hW1]
  clear hW1
  refine (HD2.out _).mono ?_
  rintro e w1 ⟨rfl, rfl⟩
  go_wp2_with fail
  refine (HD5.out _).mono ?_
  rintro e w2 ⟨rfl, rfl⟩
  go_wp2_with fail
  refine (HDY.out _).mono ?_
  rintro e w3 ⟨rfl, rfl⟩
  go_wp2_with fail
  exact bodyPost_ret (v := .tuple #[.agg #[.int .i64 0, .int .i64 0, .int .i64 0], .int .i64 5]) (by simp [results, Tryz.results23, go_sem, c2, c3, c4, f6, f7, f8] <;> omega) rfl ⟨rfl, (((uW1.setCell (by simp <;> omega) _).setCell (by simp <;> omega) _).setCell (by simp <;> omega) _)⟩
end Go.Proofs.YtopbbcbpanfigaaGreatDoor
