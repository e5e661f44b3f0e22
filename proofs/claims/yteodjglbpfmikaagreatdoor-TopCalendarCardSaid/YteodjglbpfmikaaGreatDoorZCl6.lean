/- Walks and laws that the claim's theorem leans on: part 6. -/
import Derived.Test.YteodjglbpfmikaaGreatDoorZCl1
import Derived.Test.YteodjglbpfmikaaGreatDoorZCl5
namespace Go.Proofs.YteodjglbpfmikaaGreatDoor
open Go.RowKit
set_option linter.unusedVariables false
set_option linter.unusedSimpArgs false
theorem tl_bA (l : List UInt8) : (bA l).toList = l := by rw [ByteArray.toList_eq]
theorem cutC (x : List UInt8) (hx : x.length ≤ 1000) (W : World) (hE : EnvK W) :
  Calls Tryz.prog 130 #[.string (bA x), .string ⟨#[45]⟩] W fun e w' => e = .returned (.tuple #[.string (bA (x.takeWhile nd)), .string (bA ((x.dropWhile nd).drop 1)), .bool (!(x.dropWhile nd).isEmpty)]) ∧ Dn W w' := by
 obtain ⟨m, hm⟩ := hE.ml
 have h := Tryz.strings_Cut (bA x) ⟨#[45]⟩ m W (by rw [bA_size]; omega) hm
 refine h.mono ?_
 rintro e w' ⟨he, n, rfl⟩
 refine ⟨he.trans ?_, (Dn.refl _).drewN n⟩
 have e1 : Lib.cut (bA x).data.toList (⟨#[45]⟩ : ByteArray).data.toList = (x.takeWhile nd, (x.dropWhile nd).drop 1, !(x.dropWhile nd).isEmpty) := cut45 x
 rw [e1]
theorem trimC (p : List UInt8) (W : World) :
  Calls Tryz.prog 131 #[.string (bA p), .string ⟨#[48]⟩] W fun e w' => e = .returned (.string (bA (p.dropWhile (· == 48)))) ∧ W = w' :=
 (Tryz.strings_TrimLeft_one (bA p) 48 (by decide) W).mono fun _ _ ⟨he, hw⟩ => ⟨he, hw.symm⟩
def PR (t : ByteArray) (v r : Int) : Prop := ∀ W, EnvK W → Calls Tryz.prog 132 #[.string t] W fun e w' => e = .returned (.tuple #[.int .i64 v, .int .i64 r]) ∧ Dn W w'
theorem pr_ok {t : List UInt8} {n : Int} (hl : t.length ≤ 1000) (hp : pOk t) (hv : pVal t = n) (hi : I64 n) : PR (bA t) n 0 := fun W hE => iparse_ok (bA t) n W (by rw [bA_size]; exact hl) hp hv hi hE.i
theorem pr_over {t : List UInt8} (hl : t.length ≤ 1000) (hp : pOk t) (hi : ¬ I64 (pVal t)) : PR (bA t) 0 15 := fun W hE => iparse_over (bA t) W (by rw [bA_size]; exact hl) hp hi hE.i
theorem pr_bad {t : List UInt8} (hl : t.length ≤ 1000) (hp : ¬ pOk t) : PR (bA t) 0 5 := fun W hE => iparse_bad (bA t) W (by rw [bA_size]; exact hl) hp hE.i
theorem tw_nd (x : List UInt8) : ∀ c ∈ x.takeWhile nd, nd c = true := by
 induction x with
 | nil => simp
 | cons a x ih =>
   intro c hc
   by_cases h : nd a = true
   · simp only [List.takeWhile_cons, h, if_true, List.mem_cons] at hc
     rcases hc with rfl | hc
     · exact h
     · exact ih c hc
   · simp [List.takeWhile_cons, h] at hc
theorem trim_sub {p : List UInt8} {c : UInt8} (h : c ∈ p.dropWhile (· == 48)) : c ∈ p := by
 obtain ⟨j, hj⟩ := dw48_split p
 rw [hj]; exact List.mem_append_right _ h
theorem trim_len (p : List UInt8) : (p.dropWhile (· == 48)).length ≤ p.length := by
 obtain ⟨j, hj⟩ := dw48_split p
 have := congrArg List.length hj
 rw [List.length_append] at this
 omega
theorem trim_val (p : List UInt8) : Dg.nvA 0 (p.dropWhile (· == 48)) = Dg.nvA 0 p := by
 obtain ⟨j, hj⟩ := dw48_split p
 conv => rhs; rw [hj]
 rw [nvA_zeros]
theorem trim_nil {p : List UInt8} (h : p.dropWhile (· == 48) = []) : Dg.nvA 0 p = 0 ∧ AllD p := by
 refine ⟨by rw [← trim_val, h]; rfl, ?_⟩
 obtain ⟨j, hj⟩ := dw48_split p
 rw [h, List.append_nil] at hj
 intro c hc
 rw [hj, List.mem_replicate] at hc
 obtain ⟨_, rfl⟩ := hc
 unfold Dg.isD; decide
theorem trim_ok {p : List UInt8} (h : AllD p) (hne : p.dropWhile (· == 48) ≠ []) : pOk (p.dropWhile (· == 48)) ∧ pVal (p.dropWhile (· == 48)) = Dg.nvA 0 p := by
 obtain ⟨a, b⟩ := pOk_of (fun c hc => h c (trim_sub hc)) hne (dw48_head p)
 exact ⟨a, by rw [b, trim_val]⟩
theorem trim_bad {p : List UInt8} (hn : ∀ c ∈ p, nd c = true) (h : ¬ AllD p) : ¬ pOk (p.dropWhile (· == 48)) := by
 rintro ⟨_, _, h3⟩
 apply h
 have hneg : isNeg (p.dropWhile (· == 48)) = false := by
   cases hd : p.dropWhile (· == 48) with
   | nil => rfl
   | cons a r =>
     have := hn a (trim_sub (by rw [hd]; simp))
     unfold isNeg nd at *
     simpa using this
 rw [(ds_len _).2 hneg] at h3
 obtain ⟨j, hj⟩ := dw48_split p
 intro c hc
 rw [hj] at hc
 rcases List.mem_append.1 hc with hc | hc
 · rw [List.mem_replicate] at hc; obtain ⟨_, rfl⟩ := hc; unfold Dg.isD; decide
 · exact h3 c hc
def clampV (n : Nat) : Int := if (n : Int) ≤ 9223372036854775807 then n else 9223372036854775807
theorem zeroP : PR ⟨#[48]⟩ 0 0 := by
 have h := itoa_ok 0
 rw [itoa_zero] at h
 exact pr_ok (t := [48]) (by decide) h.1 h.2 (by unfold I64; decide)
theorem rest_t {x : List UInt8} (h : x.dropWhile nd ≠ []) : (⟨#[45]⟩ : ByteArray) ++ bA ((x.dropWhile nd).drop 1) = bA (x.dropWhile nd) := by
 have := bA_app [45] ((x.dropWhile nd).drop 1)
 rw [show ([45] : List UInt8) ++ (x.dropWhile nd).drop 1 = x.dropWhile nd from (dw_head x h).symm] at this
 exact this
theorem rest_f {x : List UInt8} (h : x.dropWhile nd = []) : bA ((x.dropWhile nd).drop 1) = bA (x.dropWhile nd) := by rw [h]; rfl
theorem head48 {p : List UInt8} (h : 0 < (bA p).size) : (bA p)[0] = 48 ↔ p.head? = some 48 := by
 cases p with
 | nil => exact absurd h (by decide)
 | cons a r => show a = 48 ↔ some a = some 48; simp
theorem dw_len (x : List UInt8) : ((x.dropWhile nd).drop 1).length ≤ x.length ∧ (x.takeWhile nd).length ≤ x.length ∧ (x.dropWhile nd).length ≤ x.length := by
 have := congrArg List.length (tw_split nd x)
 rw [List.length_append] at this
 rw [List.length_drop]
 omega
theorem cvNum4_ok (B : Nat) (x : List UInt8) (w : World) (hB : w.cell? ⟨B, 0, none⟩ = some (.string (bA x))) (hz : w.frozen? ⟨B, 0, none⟩ = false) (hl : B < w.heap.size) (hE : EnvK w) (hx : x.length ≤ 1000) (hp : Part (x.takeWhile nd) 4 true) :
   Calls Tryz.prog 88 #[.pointer (some ⟨B, 0, none⟩), .int .i64 4, .bool true] w fun e w' => e = .returned (.int .i64 (clampV (Dg.nvA 0 (x.takeWhile nd)))) ∧ ∃ W, Dn w W ∧ w' = W.setCell ⟨B, 0, none⟩ (.string (bA (x.dropWhile nd))) := by
 obtain ⟨l1, l2, l3⟩ := dw_len x
 have HC := fun W hE => cutC x hx W hE
 have HT := fun W => trimC (x.takeWhile nd) W
 have hn := tw_nd x
 have hlt := trim_len (x.takeWhile nd)
 have s1 : (bA (x.takeWhile nd)).size ≤ 1000 := by rw [bA_size]; omega
 have s2 : (bA ((x.dropWhile nd).drop 1)).size ≤ 1000 := by rw [bA_size]; omega
 obtain ⟨p1, p2, p3⟩ := hp
 rw [← bA_size] at p1
 by_cases hd : x.dropWhile nd = []
 · have hf : (!(x.dropWhile nd).isEmpty) = false := by rw [hd]; rfl
   have hr := rest_f hd
   rw [hf] at HC
   by_cases p0 : (bA (x.takeWhile nd)).size = 4
   · by_cases ht : (x.takeWhile nd).dropWhile (· == 48) = []
     · have e0 : clampV (Dg.nvA 0 (x.takeWhile nd)) = 0 := by rw [(trim_nil ht).1]; rfl
       rw [ht] at HT
       rw [e0, ← hr]
       exact nm4f_eq_e B (bA x) _ _ ⟨#[]⟩ 0 w hB hz hl hE s1 s2 (Lib.hid HC) p0 (Lib.hid HT) (Lib.hid zeroP)
     · obtain ⟨o1, o2⟩ := trim_ok p3 ht
       have ht2 : (bA ((x.takeWhile nd).dropWhile (· == 48))).toList ≠ [] := by rw [tl_bA]; exact ht
       by_cases hi : (Dg.nvA 0 (x.takeWhile nd) : Int) ≤ 9223372036854775807
       · rw [show clampV (Dg.nvA 0 (x.takeWhile nd)) = (Dg.nvA 0 (x.takeWhile nd) : Int) from if_pos hi, ← hr]
         exact nm4f_eq_ok B (bA x) _ _ _ _ w hB hz hl hE s1 s2 (Lib.hid HC) p0 ht2 (Lib.hid HT) (Lib.hid (pr_ok (by omega) o1 o2 ⟨by omega, hi⟩))
       · rw [show clampV (Dg.nvA 0 (x.takeWhile nd)) = 9223372036854775807 from if_neg hi, ← hr]
         exact nm4f_eq_over B (bA x) _ _ _ 0 w hB hz hl hE s1 s2 (Lib.hid HC) p0 ht2 (Lib.hid HT) (Lib.hid (pr_over (by omega) o1 (by rw [o2]; exact fun h => hi h.2)))
   · have p0' : 4 < (bA (x.takeWhile nd)).size := by omega
     have hh : (bA (x.takeWhile nd))[0]'(by omega) ≠ 48 := fun e => p2 ⟨by rw [← bA_size]; exact p0', Or.inr ((head48 (by omega)).1 e)⟩
     by_cases ht : (x.takeWhile nd).dropWhile (· == 48) = []
     · have e0 : clampV (Dg.nvA 0 (x.takeWhile nd)) = 0 := by rw [(trim_nil ht).1]; rfl
       rw [ht] at HT
       rw [e0, ← hr]
       exact nm4f_gt_e B (bA x) _ _ ⟨#[]⟩ 0 w hB hz hl hE s1 s2 (Lib.hid HC) p0' hh (Lib.hid HT) (Lib.hid zeroP)
     · obtain ⟨o1, o2⟩ := trim_ok p3 ht
       have ht2 : (bA ((x.takeWhile nd).dropWhile (· == 48))).toList ≠ [] := by rw [tl_bA]; exact ht
       by_cases hi : (Dg.nvA 0 (x.takeWhile nd) : Int) ≤ 9223372036854775807
       · rw [show clampV (Dg.nvA 0 (x.takeWhile nd)) = (Dg.nvA 0 (x.takeWhile nd) : Int) from if_pos hi, ← hr]
         exact nm4f_gt_ok B (bA x) _ _ _ _ w hB hz hl hE s1 s2 (Lib.hid HC) p0' hh ht2 (Lib.hid HT) (Lib.hid (pr_ok (by omega) o1 o2 ⟨by omega, hi⟩))
       · rw [show clampV (Dg.nvA 0 (x.takeWhile nd)) = 9223372036854775807 from if_neg hi, ← hr]
         exact nm4f_gt_over B (bA x) _ _ _ 0 w hB hz hl hE s1 s2 (Lib.hid HC) p0' hh ht2 (Lib.hid HT) (Lib.hid (pr_over (by omega) o1 (by rw [o2]; exact fun h => hi h.2)))
 · have hf : (!(x.dropWhile nd).isEmpty) = true := by simp [hd]
   have hr := rest_t hd
   rw [hf] at HC
   by_cases p0 : (bA (x.takeWhile nd)).size = 4
   · by_cases ht : (x.takeWhile nd).dropWhile (· == 48) = []
     · have e0 : clampV (Dg.nvA 0 (x.takeWhile nd)) = 0 := by rw [(trim_nil ht).1]; rfl
       rw [ht] at HT
       rw [e0, ← hr]
       exact nm4t_eq_e B (bA x) _ _ ⟨#[]⟩ 0 w hB hz hl hE s1 s2 (Lib.hid HC) p0 (Lib.hid HT) (Lib.hid zeroP)
     · obtain ⟨o1, o2⟩ := trim_ok p3 ht
       have ht2 : (bA ((x.takeWhile nd).dropWhile (· == 48))).toList ≠ [] := by rw [tl_bA]; exact ht
       by_cases hi : (Dg.nvA 0 (x.takeWhile nd) : Int) ≤ 9223372036854775807
       · rw [show clampV (Dg.nvA 0 (x.takeWhile nd)) = (Dg.nvA 0 (x.takeWhile nd) : Int) from if_pos hi, ← hr]
         exact nm4t_eq_ok B (bA x) _ _ _ _ w hB hz hl hE s1 s2 (Lib.hid HC) p0 ht2 (Lib.hid HT) (Lib.hid (pr_ok (by omega) o1 o2 ⟨by omega, hi⟩))
       · rw [show clampV (Dg.nvA 0 (x.takeWhile nd)) = 9223372036854775807 from if_neg hi, ← hr]
         exact nm4t_eq_over B (bA x) _ _ _ 0 w hB hz hl hE s1 s2 (Lib.hid HC) p0 ht2 (Lib.hid HT) (Lib.hid (pr_over (by omega) o1 (by rw [o2]; exact fun h => hi h.2)))
   · have p0' : 4 < (bA (x.takeWhile nd)).size := by omega
     have hh : (bA (x.takeWhile nd))[0]'(by omega) ≠ 48 := fun e => p2 ⟨by rw [← bA_size]; exact p0', Or.inr ((head48 (by omega)).1 e)⟩
     by_cases ht : (x.takeWhile nd).dropWhile (· == 48) = []
     · have e0 : clampV (Dg.nvA 0 (x.takeWhile nd)) = 0 := by rw [(trim_nil ht).1]; rfl
       rw [ht] at HT
       rw [e0, ← hr]
       exact nm4t_gt_e B (bA x) _ _ ⟨#[]⟩ 0 w hB hz hl hE s1 s2 (Lib.hid HC) p0' hh (Lib.hid HT) (Lib.hid zeroP)
     · obtain ⟨o1, o2⟩ := trim_ok p3 ht
       have ht2 : (bA ((x.takeWhile nd).dropWhile (· == 48))).toList ≠ [] := by rw [tl_bA]; exact ht
       by_cases hi : (Dg.nvA 0 (x.takeWhile nd) : Int) ≤ 9223372036854775807
       · rw [show clampV (Dg.nvA 0 (x.takeWhile nd)) = (Dg.nvA 0 (x.takeWhile nd) : Int) from if_pos hi, ← hr]
         exact nm4t_gt_ok B (bA x) _ _ _ _ w hB hz hl hE s1 s2 (Lib.hid HC) p0' hh ht2 (Lib.hid HT) (Lib.hid (pr_ok (by omega) o1 o2 ⟨by omega, hi⟩))
       · rw [show clampV (Dg.nvA 0 (x.takeWhile nd)) = 9223372036854775807 from if_neg hi, ← hr]
         exact nm4t_gt_over B (bA x) _ _ _ 0 w hB hz hl hE s1 s2 (Lib.hid HC) p0' hh ht2 (Lib.hid HT) (Lib.hid (pr_over (by omega) o1 (by rw [o2]; exact fun h => hi h.2)))
theorem cvNum4_bad (B : Nat) (x : List UInt8) (w : World) (hB : w.cell? ⟨B, 0, none⟩ = some (.string (bA x))) (hz : w.frozen? ⟨B, 0, none⟩ = false) (hl : B < w.heap.size) (hE : EnvK w) (hx : x.length ≤ 1000) (hp : ¬ Part (x.takeWhile nd) 4 true) :
   Calls Tryz.prog 88 #[.pointer (some ⟨B, 0, none⟩), .int .i64 4, .bool true] w fun e w' => e = .panicked (pF 5) ∧ Dn w w' := by
 obtain ⟨l1, l2, l3⟩ := dw_len x
 have HC := fun W hE => cutC x hx W hE
 have HT := fun W => trimC (x.takeWhile nd) W
 have hn := tw_nd x
 have hlt := trim_len (x.takeWhile nd)
 have s1 : (bA (x.takeWhile nd)).size ≤ 1000 := by rw [bA_size]; omega
 have s2 : (bA ((x.dropWhile nd).drop 1)).size ≤ 1000 := by rw [bA_size]; omega
 by_cases hd : x.dropWhile nd = []
 · have hf : (!(x.dropWhile nd).isEmpty) = false := by rw [hd]; rfl
   rw [hf] at HC
   by_cases q1 : (bA (x.takeWhile nd)).size < 4
   · exact nm4f_lt B (bA x) _ _ ⟨#[]⟩ 0 w hB hz hl hE s1 s2 (Lib.hid HC) q1
   · by_cases q2 : 4 < (bA (x.takeWhile nd)).size
     · by_cases q3 : (bA (x.takeWhile nd))[0]'(by omega) = 48
       · exact nm4f_zero B (bA x) _ _ ⟨#[]⟩ 0 w hB hz hl hE s1 s2 (Lib.hid HC) q2 q3
       · have hA : ¬ AllD (x.takeWhile nd) := fun hA => hp ⟨by rw [← bA_size]; omega, fun h => q3 ((head48 (by omega)).2 (h.2.resolve_left (by simp))), hA⟩
         have hb := trim_bad hn hA
         have ht : (x.takeWhile nd).dropWhile (· == 48) ≠ [] := fun h => hA (trim_nil h).2
         have ht2 : (bA ((x.takeWhile nd).dropWhile (· == 48))).toList ≠ [] := by rw [tl_bA]; exact ht
         exact nm4f_gt_bad B (bA x) _ _ _ 0 w hB hz hl hE s1 s2 (Lib.hid HC) q2 q3 ht2 (Lib.hid HT) (Lib.hid (pr_bad (by omega) hb))
     · have p0 : (bA (x.takeWhile nd)).size = 4 := by omega
       have hA : ¬ AllD (x.takeWhile nd) := fun hA => hp ⟨by rw [← bA_size]; omega, fun h => by have := h.1; rw [← bA_size] at this; omega, hA⟩
       have hb := trim_bad hn hA
       have ht : (x.takeWhile nd).dropWhile (· == 48) ≠ [] := fun h => hA (trim_nil h).2
       have ht2 : (bA ((x.takeWhile nd).dropWhile (· == 48))).toList ≠ [] := by rw [tl_bA]; exact ht
       exact nm4f_eq_bad B (bA x) _ _ _ 0 w hB hz hl hE s1 s2 (Lib.hid HC) p0 ht2 (Lib.hid HT) (Lib.hid (pr_bad (by omega) hb))
 · have hf : (!(x.dropWhile nd).isEmpty) = true := by simp [hd]
   rw [hf] at HC
   by_cases q1 : (bA (x.takeWhile nd)).size < 4
   · exact nm4t_lt B (bA x) _ _ ⟨#[]⟩ 0 w hB hz hl hE s1 s2 (Lib.hid HC) q1
   · by_cases q2 : 4 < (bA (x.takeWhile nd)).size
     · by_cases q3 : (bA (x.takeWhile nd))[0]'(by omega) = 48
       · exact nm4t_zero B (bA x) _ _ ⟨#[]⟩ 0 w hB hz hl hE s1 s2 (Lib.hid HC) q2 q3
       · have hA : ¬ AllD (x.takeWhile nd) := fun hA => hp ⟨by rw [← bA_size]; omega, fun h => q3 ((head48 (by omega)).2 (h.2.resolve_left (by simp))), hA⟩
         have hb := trim_bad hn hA
         have ht : (x.takeWhile nd).dropWhile (· == 48) ≠ [] := fun h => hA (trim_nil h).2
         have ht2 : (bA ((x.takeWhile nd).dropWhile (· == 48))).toList ≠ [] := by rw [tl_bA]; exact ht
         exact nm4t_gt_bad B (bA x) _ _ _ 0 w hB hz hl hE s1 s2 (Lib.hid HC) q2 q3 ht2 (Lib.hid HT) (Lib.hid (pr_bad (by omega) hb))
     · have p0 : (bA (x.takeWhile nd)).size = 4 := by omega
       have hA : ¬ AllD (x.takeWhile nd) := fun hA => hp ⟨by rw [← bA_size]; omega, fun h => by have := h.1; rw [← bA_size] at this; omega, hA⟩
       have hb := trim_bad hn hA
       have ht : (x.takeWhile nd).dropWhile (· == 48) ≠ [] := fun h => hA (trim_nil h).2
       have ht2 : (bA ((x.takeWhile nd).dropWhile (· == 48))).toList ≠ [] := by rw [tl_bA]; exact ht
       exact nm4t_eq_bad B (bA x) _ _ _ 0 w hB hz hl hE s1 s2 (Lib.hid HC) p0 ht2 (Lib.hid HT) (Lib.hid (pr_bad (by omega) hb))
theorem cvNum2_ok (B : Nat) (x : List UInt8) (w : World) (hB : w.cell? ⟨B, 0, none⟩ = some (.string (bA x))) (hz : w.frozen? ⟨B, 0, none⟩ = false) (hl : B < w.heap.size) (hE : EnvK w) (hx : x.length ≤ 1000) (hp : Part (x.takeWhile nd) 2 false) :
   Calls Tryz.prog 88 #[.pointer (some ⟨B, 0, none⟩), .int .i64 2, .bool false] w fun e w' => e = .returned (.int .i64 (clampV (Dg.nvA 0 (x.takeWhile nd)))) ∧ ∃ W, Dn w W ∧ w' = W.setCell ⟨B, 0, none⟩ (.string (bA (x.dropWhile nd))) := by
 obtain ⟨l1, l2, l3⟩ := dw_len x
 have HC := fun W hE => cutC x hx W hE
 have HT := fun W => trimC (x.takeWhile nd) W
 have hn := tw_nd x
 have hlt := trim_len (x.takeWhile nd)
 have s1 : (bA (x.takeWhile nd)).size ≤ 1000 := by rw [bA_size]; omega
 have s2 : (bA ((x.dropWhile nd).drop 1)).size ≤ 1000 := by rw [bA_size]; omega
 obtain ⟨p1, p2, p3⟩ := hp
 rw [← bA_size] at p1
 by_cases hd : x.dropWhile nd = []
 · have hf : (!(x.dropWhile nd).isEmpty) = false := by rw [hd]; rfl
   have hr := rest_f hd
   rw [hf] at HC
   have p0 : (bA (x.takeWhile nd)).size = 2 := by
     have := (part2 _).1 ⟨by rw [← bA_size]; exact p1, p2, p3⟩
     rw [bA_size]; exact this.1
   by_cases ht : (x.takeWhile nd).dropWhile (· == 48) = []
   · have e0 : clampV (Dg.nvA 0 (x.takeWhile nd)) = 0 := by rw [(trim_nil ht).1]; rfl
     rw [ht] at HT
     rw [e0, ← hr]
     exact nm2f_eq_e B (bA x) _ _ ⟨#[]⟩ 0 w hB hz hl hE s1 s2 (Lib.hid HC) p0 (Lib.hid HT) (Lib.hid zeroP)
   · obtain ⟨o1, o2⟩ := trim_ok p3 ht
     have ht2 : (bA ((x.takeWhile nd).dropWhile (· == 48))).toList ≠ [] := by rw [tl_bA]; exact ht
     by_cases hi : (Dg.nvA 0 (x.takeWhile nd) : Int) ≤ 9223372036854775807
     · rw [show clampV (Dg.nvA 0 (x.takeWhile nd)) = (Dg.nvA 0 (x.takeWhile nd) : Int) from if_pos hi, ← hr]
       exact nm2f_eq_ok B (bA x) _ _ _ _ w hB hz hl hE s1 s2 (Lib.hid HC) p0 ht2 (Lib.hid HT) (Lib.hid (pr_ok (by omega) o1 o2 ⟨by omega, hi⟩))
     · have hv := nv_len _ p3
       rw [show (x.takeWhile nd).length = 2 by rw [← bA_size]; exact p0, show Dg.p10 2 = 100 by decide] at hv
       omega
 · have hf : (!(x.dropWhile nd).isEmpty) = true := by simp [hd]
   have hr := rest_t hd
   rw [hf] at HC
   have p0 : (bA (x.takeWhile nd)).size = 2 := by
     have := (part2 _).1 ⟨by rw [← bA_size]; exact p1, p2, p3⟩
     rw [bA_size]; exact this.1
   by_cases ht : (x.takeWhile nd).dropWhile (· == 48) = []
   · have e0 : clampV (Dg.nvA 0 (x.takeWhile nd)) = 0 := by rw [(trim_nil ht).1]; rfl
     rw [ht] at HT
     rw [e0, ← hr]
     exact nm2t_eq_e B (bA x) _ _ ⟨#[]⟩ 0 w hB hz hl hE s1 s2 (Lib.hid HC) p0 (Lib.hid HT) (Lib.hid zeroP)
   · obtain ⟨o1, o2⟩ := trim_ok p3 ht
     have ht2 : (bA ((x.takeWhile nd).dropWhile (· == 48))).toList ≠ [] := by rw [tl_bA]; exact ht
     by_cases hi : (Dg.nvA 0 (x.takeWhile nd) : Int) ≤ 9223372036854775807
     · rw [show clampV (Dg.nvA 0 (x.takeWhile nd)) = (Dg.nvA 0 (x.takeWhile nd) : Int) from if_pos hi, ← hr]
       exact nm2t_eq_ok B (bA x) _ _ _ _ w hB hz hl hE s1 s2 (Lib.hid HC) p0 ht2 (Lib.hid HT) (Lib.hid (pr_ok (by omega) o1 o2 ⟨by omega, hi⟩))
     · have hv := nv_len _ p3
       rw [show (x.takeWhile nd).length = 2 by rw [← bA_size]; exact p0, show Dg.p10 2 = 100 by decide] at hv
       omega
theorem cvNum2_bad (B : Nat) (x : List UInt8) (w : World) (hB : w.cell? ⟨B, 0, none⟩ = some (.string (bA x))) (hz : w.frozen? ⟨B, 0, none⟩ = false) (hl : B < w.heap.size) (hE : EnvK w) (hx : x.length ≤ 1000) (hp : ¬ Part (x.takeWhile nd) 2 false) :
   Calls Tryz.prog 88 #[.pointer (some ⟨B, 0, none⟩), .int .i64 2, .bool false] w fun e w' => e = .panicked (pF 5) ∧ Dn w w' := by
 obtain ⟨l1, l2, l3⟩ := dw_len x
 have HC := fun W hE => cutC x hx W hE
 have HT := fun W => trimC (x.takeWhile nd) W
 have hn := tw_nd x
 have hlt := trim_len (x.takeWhile nd)
 have s1 : (bA (x.takeWhile nd)).size ≤ 1000 := by rw [bA_size]; omega
 have s2 : (bA ((x.dropWhile nd).drop 1)).size ≤ 1000 := by rw [bA_size]; omega
 by_cases hd : x.dropWhile nd = []
 · have hf : (!(x.dropWhile nd).isEmpty) = false := by rw [hd]; rfl
   rw [hf] at HC
   by_cases q1 : (bA (x.takeWhile nd)).size < 2
   · exact nm2f_lt B (bA x) _ _ ⟨#[]⟩ 0 w hB hz hl hE s1 s2 (Lib.hid HC) q1
   · by_cases q2 : 2 < (bA (x.takeWhile nd)).size
     · exact nm2f_gt B (bA x) _ _ ⟨#[]⟩ 0 w hB hz hl hE s1 s2 (Lib.hid HC) q2
     · have p0 : (bA (x.takeWhile nd)).size = 2 := by omega
       have hA : ¬ AllD (x.takeWhile nd) := fun hA => hp ⟨by rw [← bA_size]; omega, fun h => by have := h.1; rw [← bA_size] at this; omega, hA⟩
       have hb := trim_bad hn hA
       have ht : (x.takeWhile nd).dropWhile (· == 48) ≠ [] := fun h => hA (trim_nil h).2
       have ht2 : (bA ((x.takeWhile nd).dropWhile (· == 48))).toList ≠ [] := by rw [tl_bA]; exact ht
       exact nm2f_eq_bad B (bA x) _ _ _ 0 w hB hz hl hE s1 s2 (Lib.hid HC) p0 ht2 (Lib.hid HT) (Lib.hid (pr_bad (by omega) hb))
 · have hf : (!(x.dropWhile nd).isEmpty) = true := by simp [hd]
   rw [hf] at HC
   by_cases q1 : (bA (x.takeWhile nd)).size < 2
   · exact nm2t_lt B (bA x) _ _ ⟨#[]⟩ 0 w hB hz hl hE s1 s2 (Lib.hid HC) q1
   · by_cases q2 : 2 < (bA (x.takeWhile nd)).size
     · exact nm2t_gt B (bA x) _ _ ⟨#[]⟩ 0 w hB hz hl hE s1 s2 (Lib.hid HC) q2
     · have p0 : (bA (x.takeWhile nd)).size = 2 := by omega
       have hA : ¬ AllD (x.takeWhile nd) := fun hA => hp ⟨by rw [← bA_size]; omega, fun h => by have := h.1; rw [← bA_size] at this; omega, hA⟩
       have hb := trim_bad hn hA
       have ht : (x.takeWhile nd).dropWhile (· == 48) ≠ [] := fun h => hA (trim_nil h).2
       have ht2 : (bA ((x.takeWhile nd).dropWhile (· == 48))).toList ≠ [] := by rw [tl_bA]; exact ht
       exact nm2t_eq_bad B (bA x) _ _ _ 0 w hB hz hl hE s1 s2 (Lib.hid HC) p0 ht2 (Lib.hid HT) (Lib.hid (pr_bad (by omega) hb))
end Go.Proofs.YteodjglbpfmikaaGreatDoor
