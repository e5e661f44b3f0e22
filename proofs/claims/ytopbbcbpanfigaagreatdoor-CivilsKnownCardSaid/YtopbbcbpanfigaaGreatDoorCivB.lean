/-
  WALKS OF circa/civils: the reader's minus, the closure that recovers, padded; strings.Cut at a minus sign.
-/
import Derived.Test.YtopbbcbpanfigaaGreatDoorCivA
import Derived.Test.YtopbbcbpanfigaaGreatDoorCivP
import Derived.Defers
import Derived.Recover
namespace Go.Proofs.YtopbbcbpanfigaaGreatDoor
open Go.RowKit
set_option linter.unusedVariables false
set_option linter.unusedSimpArgs false
abbrev bA (l : List UInt8) : ByteArray := ⟨l.toArray⟩
theorem bA_app (a b : List UInt8) : bA a ++ bA b = bA (a ++ b) := by
  apply ByteArray.ext
  simp [bA]
theorem bA_self (s : ByteArray) : bA s.data.toList = s := rfl
theorem bA_size (l : List UInt8) : (bA l).size = l.length := by simp [bA, ByteArray.size]
/-- The panics of the reader: errors. -/
abbrev pF (e : Int) : List PanicEntry := [{ v := .iface 72 (.int .i64 e), recovered := false }]
theorem cvMin_ok (B : Nat) (x : List UInt8) (w : World) (hB : w.cell? ⟨B, 0, none⟩ = some (.string (bA (45 :: x)))) (hz : w.frozen? ⟨B, 0, none⟩ = false) :
    Calls Tryz.prog 47 #[.pointer (some ⟨B, 0, none⟩)] w fun e w' => e = .returned (.tuple #[]) ∧ w' = w.setCell ⟨B, 0, none⟩ (.string (bA x)) := by
  have HC := Lib.hid (Tryz.strings_CutPrefix (bA (45 :: x)) ⟨#[45]⟩ w)
  have e1 : Lib.hasPrefix (bA (45 :: x)).data.toList (⟨#[45]⟩ : ByteArray).data.toList = true := by simp [Lib.hasPrefix]
  have e2 : Lib.trimPrefix (bA (45 :: x)).data.toList (⟨#[45]⟩ : ByteArray).data.toList = x := by unfold Lib.trimPrefix; rw [e1]; rfl
  rw [e1, e2] at HC
  clear e1 e2
  go_enter Tryz.func47, Tryz.ntmps47
  go_wp2_with fail
  refine HC.out.mono ?_
  rintro e w1 ⟨rfl, rfl⟩
  go_wp2_with fail
  exact ⟨rfl, .tuple #[], by simp [results, Tryz.results47, go_sem], rfl, rfl⟩
theorem cvMin_bad (B : Nat) (x : List UInt8) (w : World) (hB : w.cell? ⟨B, 0, none⟩ = some (.string (bA x))) (hx : isNeg x = false) :
    Calls Tryz.prog 47 #[.pointer (some ⟨B, 0, none⟩)] w fun e w' => e = .panicked (pF 5) ∧ w' = w := by
  have HC := Lib.hid (Tryz.strings_CutPrefix (bA x) ⟨#[45]⟩ w)
  have e1 : Lib.hasPrefix (bA x).data.toList (⟨#[45]⟩ : ByteArray).data.toList = false := (has_neg x).trans hx
  rw [e1] at HC
  clear e1 hx
  go_enter Tryz.func47, Tryz.ntmps47
  go_wp2_with fail
  refine HC.out.mono ?_
  rintro e w1 ⟨rfl, rfl⟩
  go_wp2_with fail
  exact ⟨rfl, rfl, rfl⟩
theorem neq_nil (e : Int) (w : World) : (binOp BinOp.neq 20 (.iface 72 (.int .i64 e)) .nilIface).run Tryz.prog w = .ok (.bool true) w := by kernel_rfl
theorem ta_run (e : Int) (w : World) : (Instr.typeAssert (.iface 72 (.int .i64 e)) 20 72 false).run Tryz.prog w = .ok (.int .i64 e) w := by kernel_rfl
theorem frm (a b x : Value) : (#[a, b] ++ ((Array.replicate 7 undef).setIfInBounds 1 x).setIfInBounds 0 x) = #[a, b, x, x, undef, undef, undef, undef, undef] := rfl
theorem catch_panicking (p q : Nat) (y m d e0 e : Int) (older : List PanicEntry) (w : World) (h0 : w.cell? ⟨p, 0, none⟩ = some (.int .i64 y)) (h1 : w.cell? ⟨p, 1, none⟩ = some (.int .i64 m)) (h2 : w.cell? ⟨p, 2, none⟩ = some (.int .i64 d)) (h3 : w.cell? ⟨q, 0, none⟩ = some (.int .i64 e0))
    (z0 : w.frozen? ⟨p, 0, none⟩ = false) (z1 : w.frozen? ⟨p, 1, none⟩ = false) (z2 : w.frozen? ⟨p, 2, none⟩ = false) (z3 : w.frozen? ⟨q, 0, none⟩ = false) (hpq : p ≠ q) :
    CallsD Tryz.prog 45 #[.pointer (some ⟨p, 0, none⟩), .pointer (some ⟨q, 0, none⟩)] (.panicking ({ v := .iface 72 (.int .i64 e), recovered := false } :: older)) w fun o u' w' =>
      o = .returned (.tuple #[]) ∧ u' = .panicking ({ v := .iface 72 (.int .i64 e), recovered := true } :: older) ∧
      (w'.cell? ⟨p, 0, none⟩ = some (.int .i64 0) ∧ w'.cell? ⟨p, 1, none⟩ = some (.int .i64 0) ∧ w'.cell? ⟨p, 2, none⟩ = some (.int .i64 0) ∧ w'.cell? ⟨q, 0, none⟩ = some (.int .i64 e)) ∧ ∀ w0 : World, Dn w0 w → w0.heap.size ≤ p → w0.heap.size ≤ q → Dn w0 w' := by
  have hn := neq_nil e
  have ht := ta_run e
  refine callsD_of_wpS Tryz.func45 rfl fun c₀ cs hu => ?_
  apply wpS_seq
  apply wpS_region
  simp [wpOpsS, go_sem, recoverD, hu, Tryz.ntmps45, Exit.thenS]
  refine wpS_of_wp ?_
  rw [frm]
  go_wp2_with fail
  go_region
  all_goals
    refine ⟨rfl, _, rfl, .tuple #[], by simp [results, Tryz.results45], rfl, rfl, ⟨?_, ?_, ?_, ?_⟩, fun w0 k hp hq => ?_⟩
    · simp [go_sem, h0, h1, h2, h3, z0, z1, z2, z3, hpq, Ne.symm hpq]
    · simp [go_sem, h0, h1, h2, h3, z0, z1, z2, z3, hpq, Ne.symm hpq]
    · simp [go_sem, h0, h1, h2, h3, z0, z1, z2, z3, hpq, Ne.symm hpq]
    · simp [go_sem, h0, h1, h2, h3, z0, z1, z2, z3, hpq, Ne.symm hpq]
    · exact ((((k.trans (Dn.refl _).drew).setCell hp _).setCell hp _).setCell hp _).setCell hq _
theorem catch_idle (p q : Addr) (w : World) :
    CallsD Tryz.prog 45 #[.pointer (some p), .pointer (some q)] .returning w fun e u' w' => e = .returned (.tuple #[]) ∧ u' = .returning ∧ w' = w := by
  refine callsD_of_wpS Tryz.func45 rfl fun c₀ cs hu => ?_
  apply wpS_seq
  apply wpS_region
  simp [wpOpsS, go_sem, recoverD, hu, Tryz.ntmps45, Exit.thenS]
  refine wpS_of_wp ?_
  rw [frm]
  go_wp2_with fail
  cases c₀
  simp_all [bodyPostS, results, Tryz.results45]
theorem nd45 (c : UInt8) : nd c = !(c == 45) := rfl
theorem ib45 (l : List UInt8) : (l.dropWhile nd = [] → Lib.indexByte l 45 = -1 ∧ l.takeWhile nd = l) ∧ (l.dropWhile nd ≠ [] → Lib.indexByte l 45 = (l.takeWhile nd).length) := by
  induction l with
  | nil => exact ⟨fun _ => ⟨rfl, rfl⟩, fun h => absurd rfl h⟩
  | cons x l ih =>
    by_cases hx : x = 45
    · subst hx
      exact ⟨fun h => by simp [nd] at h, fun _ => by simp [Lib.indexByte, nd]⟩
    · have h1 : nd x = true := by simpa [nd] using hx
      have h2 : (x == 45) = false := by simpa using hx
      refine ⟨fun h => ?_, fun h => ?_⟩
      · simp only [List.dropWhile_cons, h1, if_true] at h
        obtain ⟨a, b⟩ := ih.1 h
        exact ⟨by simp [Lib.indexByte, h2, a], by simp [List.takeWhile_cons, h1, b]⟩
      · simp only [List.dropWhile_cons, h1, if_true] at h
        have a := ih.2 h
        simp [Lib.indexByte, h2, a, List.takeWhile_cons, h1]
theorem cut45 (l : List UInt8) : Lib.cut l [45] = (l.takeWhile nd, (l.dropWhile nd).drop 1, !(l.dropWhile nd).isEmpty) := by
  unfold Lib.cut
  rw [Lib.index_one]
  have hl := tw_split nd l
  by_cases h : l.dropWhile nd = []
  · obtain ⟨a, b⟩ := (ib45 l).1 h
    rw [a, h, b]
    rfl
  · have a := (ib45 l).2 h
    rw [a, if_pos (by omega)]
    have e : ((l.takeWhile nd).length : Int).toNat = (l.takeWhile nd).length := by omega
    have hne : (!(l.dropWhile nd).isEmpty) = true := by simp [h]
    rw [e, hne]
    clear a e hne h
    generalize l.takeWhile nd = A at *
    generalize l.dropWhile nd = R at *
    subst hl
    simp [List.drop_append]
theorem repL (c : Nat) : Lib.repeatL [48] c = List.replicate c 48 := by
  induction c with
  | zero => rfl
  | succ c ih => simp [Lib.repeatL, ih, List.replicate_succ]
theorem cvPad (s : ByteArray) (k : Int) (hk : k = 2 ∨ k = 4) (hs : s.size ≤ 1000) (w : World) :
    Calls Tryz.prog 44 #[.string s, .int .i64 k] w fun o w' => o = .returned (.string (bA (padd k.toNat s.data.toList))) ∧ Dn w w' := by
  obtain ⟨c, hc⟩ : ∃ c : Nat, (c : Int) = max 0 (k - s.size) := ⟨(max 0 (k - s.size)).toNat, by omega⟩
  have hc4 : c ≤ 4 := by omega
  have HR := Tryz.strings_Repeat ⟨#[48]⟩ c w (by omega) (by show 1 * c ≤ _; omega)
  rw [show (⟨#[48]⟩ : ByteArray).data.toList = [48] from rfl, repL] at HR
  obtain ⟨R, hR⟩ : ∃ R : ByteArray, R = ⟨(List.replicate c (48 : UInt8)).toArray⟩ := ⟨_, rfl⟩
  rw [← hR] at HR
  have hRs : R.size = c := by rw [hR]; simp [ByteArray.size]
  have HV := Lib.hid (show R ++ s = bA (padd k.toNat s.data.toList) by
    rw [hR, show padd k.toNat s.data.toList = List.replicate c 48 ++ s.data.toList by unfold padd; rw [len_is, show k.toNat - s.size = c by omega]]; exact bA_app _ _)
  have HH := Lib.hid HR
  have z1 : ¬ (9223372036854775807 < R.size + s.size) := by omega
  have z2 := hc.symm
  clear HR hR hc hRs
  go_enter Tryz.func44, Tryz.ntmps44
  go_wp2_with fail
  refine HH.out.mono ?_
  rintro e w1 ⟨rfl, q⟩
  go_wp2_with fail
  go_ret
  exact ⟨by rw [HV.out]; rfl, ⟨q⟩⟩
end Go.Proofs.YtopbbcbpanfigaaGreatDoor
