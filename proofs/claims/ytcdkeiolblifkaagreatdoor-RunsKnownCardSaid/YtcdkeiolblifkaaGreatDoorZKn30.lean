/- Walks and laws that the claim's theorem leans on: part 30. -/
import Derived.Test.YtcdkeiolblifkaaGreatDoorZKn1
import Derived.Test.YtcdkeiolblifkaaGreatDoorZKn3
import Derived.Test.YtcdkeiolblifkaaGreatDoorZKn4
import Derived.Test.YtcdkeiolblifkaaGreatDoorZKn11
import Derived.Test.YtcdkeiolblifkaaGreatDoorZKn12
import Derived.Test.YtcdkeiolblifkaaGreatDoorZKn13
import Derived.Test.YtcdkeiolblifkaaGreatDoorZKn23
import Derived.Test.YtcdkeiolblifkaaGreatDoorZKn24
import Derived.Test.YtcdkeiolblifkaaGreatDoorZKn26
import Derived.Test.YtcdkeiolblifkaaGreatDoorZKn27
import Derived.Test.YtcdkeiolblifkaaGreatDoorZKn28
import Derived.Test.YtcdkeiolblifkaaGreatDoorZKn29
import Derived.ProofKit
import Derived.LaidMore
import Derived.OpenShut
import Derived.Stop.Joined
import Derived.Lib.LaidTab
import Derived.Shelf.Vars
namespace Go.Proofs.YtcdkeiolblifkaaGreatDoor
open Go.RowKit
set_option linter.unusedVariables false
set_option linter.unusedSimpArgs false
theorem lenR_ex (a b c d : Int) (hb : I64 b) (hd : I64 d) : ∃ n e, LenR a b c d n e := by
 by_cases h0 : RnOk a b c d
 · by_cases h1 : a ≠ 0 ∨ c ≠ 0
   · exact ⟨0, 16, Or.inr (Or.inl ⟨h0, h1, rfl, rfl⟩)⟩
   · obtain ⟨s, e, hf⟩ := fits_ex (d - b + 1)
     exact ⟨s, e, Or.inr (Or.inr ⟨h0, by omega, by omega, hf⟩)⟩
 · exact ⟨0, _, Or.inl ⟨h0, rfl, rfl⟩⟩
theorem sft_ex (i d k : Int) (hd : I64 d) : ∃ j f r, Sft i d k j f r ∧ I64 f := by
 by_cases h : i = 0
 · obtain ⟨s, e, hf⟩ := fits_ex (d + k)
   exact ⟨0, s, e, Or.inr ⟨h, rfl, hf⟩, hf.i64⟩
 · exact ⟨i, d, 0, Or.inl ⟨h, rfl, rfl, rfl⟩, hd⟩
theorem rnErr_run {a b c d : Int} (hb : I64 b) (hd : I64 d) (k : Int) {j1 f1 j2 f2 : Int} (h0 : rnErr a b c d = 0) (s1 : Sft a b k j1 f1 0) (s2 : Sft c d k j2 f2 0) (i1 : I64 f1) (i2 : I64 f2) : rnErr j1 f1 j2 f2 = 0 := by
 rw [rnErr_ok hb hd] at h0
 rw [rnErr_ok i1 i2]
 obtain ⟨o1, o2, o3, o4, o5⟩ := h0
 unfold key eOk I64 at *
 unfold RnOk eOk key
 rcases s1 with ⟨n1, rfl, rfl, _⟩ | ⟨rfl, rfl, ⟨_, rfl, _⟩ | ⟨_, _, h⟩⟩ <;> rcases s2 with ⟨n2, rfl, rfl, _⟩ | ⟨rfl, rfl, ⟨_, rfl, _⟩ | ⟨_, _, h'⟩⟩ <;> first | omega | (refine ⟨?_, ?_, ?_, ?_, ?_⟩ <;> omega)
theorem sft_back {i d k j f : Int} (hd : I64 d) (h : Sft i d k j f 0) : Sft j f (-k) i d 0 := by
 rcases h with ⟨h0, rfl, rfl, _⟩ | ⟨rfl, rfl, ⟨_, rfl, _⟩ | ⟨_, _, h⟩⟩
 · exact Or.inl ⟨h0, rfl, rfl, rfl⟩
 · exact Or.inr ⟨rfl, rfl, Or.inl ⟨by rw [show d + k + -k = d by omega]; exact hd, by omega, rfl⟩⟩
 · cases h
theorem runsOne_true (a b c d k z0 z1 : Int) (w : World) (hb : I64 b) (hd : I64 d) (hk : I64 k) (hz0 : I64 z0) (hz1 : I64 z1) (hE : EnvR w) :
   Calls Tryz.prog 6 #[.agg #[.int .i8 a, .int .i64 b, .int .i8 c, .int .i64 d], .int .i64 k, .agg #[.int .i64 z0, .int .i64 z1]] w fun ro w' => ro = .returned (.bool true) ∧ Dn w w' := by
 obtain ⟨n, e, hL⟩ := lenR_ex a b c d hb hd
 have HC := Lib.hid (rfChk a b c d)
 have HL := Lib.hid (fun W => rnLen a b c d n e W hb hd hL)
 have hok := rnErr_ok (a := a) (c := c) hb hd
 by_cases hm : rnErr a b c d = 0
 · have hR := Lib.hid (fun W => rfLen a b c d n e W hb hd (hok.1 hm) hL)
   rw [hm] at HC
   obtain ⟨j1, f1, r1, s1, i1⟩ := sft_ex a b k hb
   obtain ⟨j2, f2, r2, s2, i2⟩ := sft_ex c d k hd
   by_cases h1 : r1 = 0 ∧ r2 = 0
   · obtain ⟨rfl, rfl⟩ := h1
     have hS : ShR a b c d k j1 f1 j2 f2 0 := Or.inr ⟨hm, j1, f1, 0, j2, f2, 0, s1, s2, Or.inr (Or.inr ⟨rfl, rfl, rfl, rfl, rfl, rfl, rfl⟩)⟩
     have HS := Lib.hid (fun W => rnShift a b c d k _ _ _ _ _ W hb hd hk hS)
     have HRS := Lib.hid (fun W => rfShift a b c d k _ _ _ _ _ W hb hd hk hm hS)
     by_cases hmin : k = (-9223372036854775808)
     · by_cases hz : z1 < z0
       · exact one_min1 a b c d k z0 z1 0 n e 0 _ _ _ _ HC HL HS (Lib.hid fun W => rnOf_no z0 z1 W hz) hz hR HRS hmin w hE
       · exact one_min0 a b c d k z0 z1 0 n e 0 _ _ _ _ HC HL HS (Lib.hid fun W => rnOf_yes z0 z1 hz W) (by omega) hR HRS hmin w hE
     · have hB : ShR j1 f1 j2 f2 (-k) a b c d 0 := Or.inr ⟨rnErr_run hb hd k hm s1 s2 i1 i2, a, b, 0, c, d, 0, sft_back hb s1, sft_back hd s2, Or.inr (Or.inr ⟨rfl, rfl, rfl, rfl, rfl, rfl, rfl⟩)⟩
       have HB := Lib.hid (fun W => rnShift j1 f1 j2 f2 (-k) _ _ _ _ _ W i1 i2 (by unfold I64 at *; omega) hB)
       by_cases hz : z1 < z0
       · exact one_back1 a b c d k z0 z1 0 n e 0 _ _ _ _ HC HL HS (Lib.hid fun W => rnOf_no z0 z1 W hz) hz hR HRS hmin hk HB w hE
       · exact one_back0 a b c d k z0 z1 0 n e 0 _ _ _ _ HC HL HS (Lib.hid fun W => rnOf_yes z0 z1 hz W) (by omega) hR HRS hmin hk HB w hE
   · have hS : ∃ r, r ≠ 0 ∧ ShR a b c d k 0 0 0 0 r := by
       by_cases h2 : r1 = 0
       · exact ⟨r2, by omega, Or.inr ⟨hm, j1, f1, r1, j2, f2, r2, s1, s2, Or.inr (Or.inl ⟨h2, by omega, rfl, rfl, rfl, rfl, rfl⟩)⟩⟩
       · exact ⟨r1, h2, Or.inr ⟨hm, j1, f1, r1, j2, f2, r2, s1, s2, Or.inl ⟨h2, rfl, rfl, rfl, rfl, rfl⟩⟩⟩
     obtain ⟨r, hr, hS⟩ := hS
     have HS := Lib.hid (fun W => rnShift a b c d k _ _ _ _ _ W hb hd hk hS)
     have HRS := Lib.hid (fun W => rfShift a b c d k _ _ _ _ _ W hb hd hk hm hS)
     by_cases hz : z1 < z0
     · exact one_none1 a b c d k z0 z1 0 n e r 0 0 0 0 HC HL HS (Lib.hid fun W => rnOf_no z0 z1 W hz) hz hR HRS (Lib.hid hr) w hE
     · exact one_none0 a b c d k z0 z1 0 n e r 0 0 0 0 HC HL HS (Lib.hid fun W => rnOf_yes z0 z1 hz W) (by omega) hR HRS (Lib.hid hr) w hE
 · have hn : n = 0 ∧ e = rnErr a b c d := by
     rcases hL with ⟨_, h1, h2⟩ | ⟨h1, _⟩ | ⟨h1, _⟩
     · exact ⟨h1, h2⟩
     · exact absurd (hok.2 h1) hm
     · exact absurd (hok.2 h1) hm
   obtain ⟨rfl, rfl⟩ := hn
   have HS := Lib.hid (fun W => rnShift a b c d k 0 0 0 0 _ W hb hd hk (Or.inl ⟨hm, rfl, rfl, rfl, rfl, rfl⟩))
   by_cases hz : z1 < z0
   · exact one_bad1 a b c d k z0 z1 _ 0 0 0 0 0 0 0 HC HL HS (Lib.hid fun W => rnOf_no z0 z1 W hz) hz (Lib.hid hm) w hE
   · exact one_bad0 a b c d k z0 z1 _ 0 0 0 0 0 0 0 HC HL HS (Lib.hid fun W => rnOf_yes z0 z1 hz W) (by omega) (Lib.hid hm) w hE
abbrev Rn := Int × Int × Int × Int
def rc (r : Rn) : List Value := [.int .i8 r.1, .int .i64 r.2.1, .int .i8 r.2.2.1, .int .i64 r.2.2.2]
theorem infoRun : (Tryz.prog.info? 28).map (fun i => (i.zero, i.size, i.bytes)) = some (some (.agg #[.int .i8 0, .int .i64 0, .int .i8 0, .int .i64 0]), 4, 32) := by kernel_rfl
structure OwnR (w : World) (base : Nat) (v : Value) (rs : List Rn) : Prop where
 own : w.ownsRow base 28 4 v rs.length (rs.flatMap rc)
 ok : ∀ r ∈ rs, I64 r.2.1 ∧ I64 r.2.2.2
theorem OwnR.nil (w : World) (base : Nat) : OwnR w base (.slice none 0 0) [] := ⟨World.ownsRow_nil _ _ _ _, fun _ h => by cases h⟩
theorem OwnR.kept {w w' : World} {base : Nat} {v : Value} {rs : List Rn} {row : Option Nat} (h : OwnR w base v rs) (hg : w.grownBy w' row) (hr : ∀ k, row = some k → k < base) : OwnR w' base v rs :=
 ⟨h.own.kept hg (by
  cases hv : v.ownBlock with
  | none => exact Or.inl rfl
  | some g =>
    right
    intro e
    have := (h.own.lt g hv).1
    have := hr g e.symm
    omega), h.ok⟩
theorem OwnR.dn {w w' : World} {base : Nat} {v : Value} {rs : List Rn} (h : OwnR w base v rs) (k : Dn w w') : OwnR w' base v rs := h.kept (grown_dn k none) (fun _ e => by cases e)
theorem OwnR.row {w : World} {base : Nat} {v : Value} {rs : List Rn} (h : OwnR w base v rs) : ∀ k, v.ownBlock = some k → base ≤ k := fun k hk => (h.own.lt k hk).1
theorem rc_get : ∀ (rs : List Rn) (i j : Nat) (r : Rn), rs[i]? = some r → j < 4 → (rs.flatMap rc)[i * 4 + j]? = (rc r)[j]?
 | [], i, j, r, h, _ => by simp at h
 | x :: rs, 0, j, r, h, hj => by
   simp at h
   subst h
   simp only [List.flatMap_cons]
   rw [List.getElem?_append_left (by simp [rc]; omega)]
   simp
 | x :: rs, i + 1, j, r, h, hj => by
   have := rc_get rs i j r (by simpa using h) hj
   simp only [List.flatMap_cons]
   rw [List.getElem?_append_right (by simp [rc]; omega)]
   have e : (i + 1) * 4 + j - (rc x).length = i * 4 + j := by simp [rc]; omega
   rw [e]; exact this
theorem OwnR.form {w : World} {base : Nat} {v : Value} {rs : List Rn} (h : OwnR w base v rs) (hn : rs ≠ []) : ∃ g cap, v = .slice (some ⟨g, 0, none⟩) rs.length cap ∧ base ≤ g ∧ rs.length ≤ cap ∧
   ∀ (i : Nat) (r : Rn), rs[i]? = some r → ∀ j u, (rc r)[j]? = some u → w.cell? ⟨g, i * 4 + j, none⟩ = some u := by
 rcases h.own.2 with ⟨rfl, h0⟩ | ⟨g, cap, cur, rfl, hb, hg, h1, h2, h3, h4⟩
 · exact absurd (List.length_eq_zero_iff.1 h0) hn
 · refine ⟨g, cap, rfl, hb, h1, fun i r hi j u hu => ?_⟩
   have hj : j < 4 := by
    rcases Nat.lt_or_ge j 4 with h | h
    · exact h
    · rw [List.getElem?_eq_none (by simp [rc]; omega)] at hu; cases hu
   have := h.own.cells (g := g) rfl (i * 4 + j) u (by rw [rc_get rs i j r hi hj]; exact hu)
   have hadd : (⟨g, 0, none⟩ : Addr).add (i * 4 + j) = ⟨g, i * 4 + j, none⟩ := by unfold Addr.add; split <;> simp_all
   rwa [hadd] at this
theorem step_run {ops : Array Oper} {o : Oper} {a : Act} {K : Act → World → Prop} {Q : Exit → Act → World → Prop} {E : Prop} (hgd : o.guard = none) (s x : Operand)
   (ho : o.op = .call { callee := .builtin .append, args := #[s, x], argTypes := #[26, 26] }) (w : World) (base : Nat) (v : Value) (rs : List Rn) (a0 b0 c0 d0 : Int) (hs : a.eval s = v) (hown : OwnR w base v rs)
   (hx : a.eval x = .slice (some ⟨w.heap.size, 0, none⟩) 1 1) (hl : rs.length ≤ 1000000) (hb : base ≤ w.heap.size) (h1 : I64 b0) (h2 : I64 d0)
   (h : ∀ v' w', OwnR w' base v' (rs ++ [(a0, b0, c0, d0)]) → w.grownBy w' v.ownBlock → K (a.put o.dst v') w') :
   if Region.wanted o (yielded ops a.tmps) = true then Oper.wp Tryz.prog o a ((w.alloc (.cells #[.int .i8 a0, .int .i64 b0, .int .i8 c0, .int .i64 d0] 28)).drew) K Q else E := by
 have hw : Region.wanted o (yielded ops a.tmps) = true := by simp [Region.wanted, hgd]
 rw [if_pos hw]
 obtain ⟨i0, hi, hz0, hz1, hz2⟩ := info_parts infoRun
 refine wp_append_own ((w.alloc (.cells #[.int .i8 a0, .int .i64 b0, .int .i8 c0, .int .i64 d0] 28)).drew) s x 26 ho base 28 i0 _ 4 32 Tryz.underlying26 hi hz0 hz1 hz2 rfl (by decide) v _ _ hs (World.ownsRow.drew (hown.own.alloc _)) ⟨w.heap.size, 0, none⟩ 1 1 (rc (a0, b0, c0, d0)) hx rfl ?_ ?_ ?_ ?_ ?_ ?_
 · intro j u hj
   match j, hj with
   | 0, hj => simp [rc] at hj; subst hj; simp [Addr.add]
   | 1, hj => simp [rc] at hj; subst hj; simp [Addr.add]
   | 2, hj => simp [rc] at hj; subst hj; simp [Addr.add]
   | 3, hj => simp [rc] at hj; subst hj; simp [Addr.add]
   | n + 4, hj => simp [rc] at hj
 · intro u hu; simp [rc] at hu; rcases hu with rfl | rfl | rfl | rfl <;> rfl
 · unfold maxLen; omega
 · omega
 · simp; omega
 · intro v' w' k1 k2 _
   refine h v' w' ⟨?_, ?_⟩ ?_
   · simpa using k1
   · intro r hr
     rcases List.mem_append.1 hr with hr | hr
     · exact hown.ok r hr
     · simp at hr; subst hr; exact ⟨h1, h2⟩
   · have := World.grownBy_alloc w (.cells #[.int .i8 a0, .int .i64 b0, .int .i8 c0, .int .i64 d0] 28) v.ownBlock
     exact grown_trans (b := (w.alloc (.cells #[.int .i8 a0, .int .i64 b0, .int .i8 c0, .int .i64 d0] 28)).drew) ⟨this.os, this.tape, this.output, this.size, this.block⟩ k2
set_option maxHeartbeats 4000000
set_option maxRecDepth 100000
def EndsAt (w : World) (B : Nat) : Prop := ∀ i : Nat, i < 9 → ∃ p q, w.cell? ⟨B, i * 2, none⟩ = some (.int .i8 p) ∧ w.cell? ⟨B, i * 2 + 1, none⟩ = some (.int .i64 q) ∧ I64 q
theorem EndsAt.dn {w w' : World} {B : Nat} (h : EndsAt w B) (k : Dn w w') : EndsAt w' B := fun i hi => by
 obtain ⟨p, q, h1, h2, h3⟩ := h i hi
 exact ⟨p, q, k.cell h1, k.cell h2, h3⟩
theorem EndsAt.kept {w w' : World} {B : Nat} {row : Option Nat} (h : EndsAt w B) (hg : w.grownBy w' row) (hne : row ≠ some B) : EndsAt w' B := fun i hi => by
 obtain ⟨p, q, h1, h2, h3⟩ := h i hi
 refine ⟨p, q, ?_, ?_, h3⟩
 · rw [hg.cell_far _ (lt_of_cell h1) (fun e => hne e.symm)]; exact h1
 · rw [hg.cell_far _ (lt_of_cell h2) (fun e => hne e.symm)]; exact h2
theorem dn_grown {w a b : World} {row : Option Nat} (h : Dn w a) (hg : a.grownBy b row) (hr : ∀ k, row = some k → w.heap.size ≤ k) : Dn w b := h.grown hg hr
def RowAt (w : World) (g : Nat) (rs : List Rn) : Prop := ∀ (i : Nat) (r : Rn), rs[i]? = some r → ∀ j u, (rc r)[j]? = some u → w.cell? ⟨g, i * 4 + j, none⟩ = some u
theorem RowAt.dn {w w' : World} {g : Nat} {rs : List Rn} (h : RowAt w g rs) (k : Dn w w') : RowAt w' g rs := fun i r hr j u hu => k.cell (h i r hr j u hu)
theorem RowAt.at {w : World} {g : Nat} {rs : List Rn} (h : RowAt w g rs) {i : Nat} {a b c d : Int} (hr : rs[i]? = some (a, b, c, d)) :
  w.cell? ⟨g, i * 4, none⟩ = some (.int .i8 a) ∧ w.cell? ⟨g, i * 4 + 1, none⟩ = some (.int .i64 b) ∧ w.cell? ⟨g, i * 4 + 2, none⟩ = some (.int .i8 c) ∧ w.cell? ⟨g, i * 4 + 3, none⟩ = some (.int .i64 d) :=
 ⟨h i _ hr 0 _ rfl, h i _ hr 1 _ rfl, h i _ hr 2 _ rfl, h i _ hr 3 _ rfl⟩
theorem kdKn_8 {W w1 w2 : World} {a0 a1 a2 a3 a4 a5 a6 a7 : Addr} {v0 v1 v2 v3 v4 v5 v6 v7 : Value} (k : Dn w1 w2) (h : Dn W w1 ∧ w1.cell? a0 = some v0 ∧ w1.cell? a1 = some v1 ∧ w1.cell? a2 = some v2 ∧ w1.cell? a3 = some v3 ∧ w1.cell? a4 = some v4 ∧ w1.cell? a5 = some v5 ∧ w1.cell? a6 = some v6 ∧ w1.cell? a7 = some v7) :
  Dn W w2 ∧ w2.cell? a0 = some v0 ∧ w2.cell? a1 = some v1 ∧ w2.cell? a2 = some v2 ∧ w2.cell? a3 = some v3 ∧ w2.cell? a4 = some v4 ∧ w2.cell? a5 = some v5 ∧ w2.cell? a6 = some v6 ∧ w2.cell? a7 = some v7 := by
 obtain ⟨h1, c0, c1, c2, c3, c4, c5, c6, c7⟩ := h
 exact ⟨h1.trans k, k.cell c0, k.cell c1, k.cell c2, k.cell c3, k.cell c4, k.cell c5, k.cell c6, k.cell c7⟩
theorem preKn61x1 (w : World) : ∃ W1, W1 = ((((w.alloc (.cells #[.int .i8 (-1), .int .i64 0] 24)).alloc (.cells #[.int .i8 1, .int .i64 0] 24)).alloc (.cells #[.int .i8 0, .int .i64 (-9223372036854775808)] 24)).alloc (.cells #[.int .i8 0, .int .i64 9223372036854775807] 24)).alloc (.cells #[.int .i8 (-1), .int .i64 0, .int .i8 0, .int .i64 (-9223372036854775808), .int .i8 0, .int .i64 (-9223372036854775807), .int .i8 0, .int .i64 (-1), .int .i8 0, .int .i64 0, .int .i8 0, .int .i64 9223372036854775806, .int .i8 0, .int .i64 9223372036854775807, .int .i8 1, .int .i64 0, .int .i8 3, .int .i64 0] 24) ∧ (Dn w W1) ∧ (W1.cell? ⟨w.heap.size, 0, none⟩ = some (.int .i8 (-1))) ∧ (W1.cell? ⟨w.heap.size, 1, none⟩ = some (.int .i64 0)) ∧ (w.heap.size < W1.heap.size) ∧ (W1.cell? ⟨w.heap.size + 1, 0, none⟩ = some (.int .i8 1)) ∧ (W1.cell? ⟨w.heap.size + 1, 1, none⟩ = some (.int .i64 0)) ∧ (w.heap.size + 1 < W1.heap.size) ∧ (W1.cell? ⟨w.heap.size + 1 + 1, 0, none⟩ = some (.int .i8 0)) ∧ (W1.cell? ⟨w.heap.size + 1 + 1, 1, none⟩ = some (.int .i64 (-9223372036854775808))) ∧ (w.heap.size + 1 + 1 < W1.heap.size) ∧ (W1.cell? ⟨w.heap.size + 1 + 1 + 1, 0, none⟩ = some (.int .i8 0)) ∧ (W1.cell? ⟨w.heap.size + 1 + 1 + 1, 1, none⟩ = some (.int .i64 9223372036854775807)) ∧ (w.heap.size + 1 + 1 + 1 < W1.heap.size) ∧ (W1.cell? ⟨w.heap.size + 1 + 1 + 1 + 1, 0, none⟩ = some (.int .i8 (-1))) ∧ (W1.cell? ⟨w.heap.size + 1 + 1 + 1 + 1, 1, none⟩ = some (.int .i64 0)) ∧ (W1.cell? ⟨w.heap.size + 1 + 1 + 1 + 1, 2, none⟩ = some (.int .i8 0)) ∧ (W1.cell? ⟨w.heap.size + 1 + 1 + 1 + 1, 3, none⟩ = some (.int .i64 (-9223372036854775808))) ∧ (W1.cell? ⟨w.heap.size + 1 + 1 + 1 + 1, 4, none⟩ = some (.int .i8 0)) ∧ (W1.cell? ⟨w.heap.size + 1 + 1 + 1 + 1, 5, none⟩ = some (.int .i64 (-9223372036854775807))) ∧ (W1.cell? ⟨w.heap.size + 1 + 1 + 1 + 1, 6, none⟩ = some (.int .i8 0)) ∧ (W1.cell? ⟨w.heap.size + 1 + 1 + 1 + 1, 7, none⟩ = some (.int .i64 (-1))) ∧ (W1.cell? ⟨w.heap.size + 1 + 1 + 1 + 1, 8, none⟩ = some (.int .i8 0)) ∧ (W1.cell? ⟨w.heap.size + 1 + 1 + 1 + 1, 9, none⟩ = some (.int .i64 0)) ∧ (W1.cell? ⟨w.heap.size + 1 + 1 + 1 + 1, 10, none⟩ = some (.int .i8 0)) ∧ (W1.cell? ⟨w.heap.size + 1 + 1 + 1 + 1, 11, none⟩ = some (.int .i64 9223372036854775806)) ∧ (W1.cell? ⟨w.heap.size + 1 + 1 + 1 + 1, 12, none⟩ = some (.int .i8 0)) ∧ (W1.cell? ⟨w.heap.size + 1 + 1 + 1 + 1, 13, none⟩ = some (.int .i64 9223372036854775807)) ∧ (W1.cell? ⟨w.heap.size + 1 + 1 + 1 + 1, 14, none⟩ = some (.int .i8 1)) ∧ (W1.cell? ⟨w.heap.size + 1 + 1 + 1 + 1, 15, none⟩ = some (.int .i64 0)) ∧ (W1.cell? ⟨w.heap.size + 1 + 1 + 1 + 1, 16, none⟩ = some (.int .i8 3)) ∧ (W1.cell? ⟨w.heap.size + 1 + 1 + 1 + 1, 17, none⟩ = some (.int .i64 0)) ∧ (w.heap.size + 1 + 1 + 1 + 1 < W1.heap.size) := by
  obtain ⟨W1, hW1⟩ : ∃ W1, W1 = ((((w.alloc (.cells #[.int .i8 (-1), .int .i64 0] 24)).alloc (.cells #[.int .i8 1, .int .i64 0] 24)).alloc (.cells #[.int .i8 0, .int .i64 (-9223372036854775808)] 24)).alloc (.cells #[.int .i8 0, .int .i64 9223372036854775807] 24)).alloc (.cells #[.int .i8 (-1), .int .i64 0, .int .i8 0, .int .i64 (-9223372036854775808), .int .i8 0, .int .i64 (-9223372036854775807), .int .i8 0, .int .i64 (-1), .int .i8 0, .int .i64 0, .int .i8 0, .int .i64 9223372036854775806, .int .i8 0, .int .i64 9223372036854775807, .int .i8 1, .int .i64 0, .int .i8 3, .int .i64 0] 24) := ⟨_, rfl⟩
  exact ⟨W1, hW1, (by rw [hW1]; exact (((((Dn.refl _).alloc _).alloc _).alloc _).alloc _).alloc _), (by rw [hW1]; simp [go_sem]), (by rw [hW1]; simp [go_sem]), (by rw [hW1]; simp <;> omega), (by rw [hW1]; simp [go_sem]), (by rw [hW1]; simp [go_sem]), (by rw [hW1]; simp <;> omega), (by rw [hW1]; simp [go_sem]), (by rw [hW1]; simp [go_sem]), (by rw [hW1]; simp <;> omega), (by rw [hW1]; simp [go_sem]), (by rw [hW1]; simp [go_sem]), (by rw [hW1]; simp <;> omega), (by rw [hW1]; simp [go_sem]), (by rw [hW1]; simp [go_sem]), (by rw [hW1]; simp [go_sem]), (by rw [hW1]; simp [go_sem]), (by rw [hW1]; simp [go_sem]), (by rw [hW1]; simp [go_sem]), (by rw [hW1]; simp [go_sem]), (by rw [hW1]; simp [go_sem]), (by rw [hW1]; simp [go_sem]), (by rw [hW1]; simp [go_sem]), (by rw [hW1]; simp [go_sem]), (by rw [hW1]; simp [go_sem]), (by rw [hW1]; simp [go_sem]), (by rw [hW1]; simp [go_sem]), (by rw [hW1]; simp [go_sem]), (by rw [hW1]; simp [go_sem]), (by rw [hW1]; simp [go_sem]), (by rw [hW1]; simp [go_sem]), (by rw [hW1]; simp <;> omega)⟩
theorem runsKnown_true (w : World) (hE : EnvR w) :
  Calls Tryz.prog 3 #[] w fun ro w' => ro = .returned (.bool true) ∧ Dn w w' := by
 go_enter Tryz.func3, Tryz.ntmps3
 go_wp2_with fail
 obtain ⟨W1, hW1, uW1, c2, c3, l4, c5, c6, l7, c8, c9, aJ, aK, aL, aM, a0, a1, a2, a3, a4, a5, a6, a7, a8, a9, aA, aB, aC, aD, aE, aF, aG, aH, aI⟩ := preKn61x1 w 
 rw [← hW1]
 clear hW1
 have hX : EndsAt W1 (w.heap.size + 1 + 1 + 1 + 1) := by
  intro i hi
  rcases (show i = 0 ∨ i = 1 ∨ i = 2 ∨ i = 3 ∨ i = 4 ∨ i = 5 ∨ i = 6 ∨ i = 7 ∨ i = 8 by omega) with rfl | rfl | rfl | rfl | rfl | rfl | rfl | rfl | rfl
  · exact ⟨_, _, a0, a1, by decide⟩
  · exact ⟨_, _, a2, a3, by decide⟩
  · exact ⟨_, _, a4, a5, by decide⟩
  · exact ⟨_, _, a6, a7, by decide⟩
  · exact ⟨_, _, a8, a9, by decide⟩
  · exact ⟨_, _, aA, aB, by decide⟩
  · exact ⟨_, _, aC, aD, by decide⟩
  · exact ⟨_, _, aE, aF, by decide⟩
  · exact ⟨_, _, aG, aH, by decide⟩
 have hBW : w.heap.size + 1 + 1 + 1 + 1 + 1 ≤ W1.heap.size := by have := aI; omega
 clear c2 c3 l4
 clear c5 c6 l7
 clear c8 c9 aJ
 clear aK aL aM
 clear a0 a1 a2 a3 a4 a5 a6 a7 a8 a9 aA aB aC aD aE aF aG aH aI
 go_loopw [6, 7] (fun s6 s7 wr => ∃ (i : Nat) (ii : Int) (rs : List Rn) (v : Value), ii = (i : Int) ∧ s7 = .int .i64 ii ∧ i ≤ 9 ∧ rs.length = 9 * i ∧ v = s6 ∧ OwnR wr (w.heap.size + 1 + 1 + 1 + 1 + 1) v rs ∧ EndsAt wr (w.heap.size + 1 + 1 + 1 + 1) ∧ Dn w wr ∧ w.heap.size + 1 + 1 + 1 + 1 + 1 ≤ wr.heap.size) (fun _ s7 _ => (9 - intOf s7).toNat)
 case atStart => exact ⟨0, 0, [], _, rfl, rfl, by decide, rfl, rfl, OwnR.nil _ _, hX, uW1, hBW⟩
 case round =>
  clear hX hBW uW1
  obtain ⟨i, ii, rs, v, hii, rfl, hi9, hlen, rfl, hown, hX, ud, hBW⟩ := hrel
  obtain rfl : ii = (i : Int) := hii
  by_cases hi : i < 9
  · have t0 : decide ((i : Int) < 9) = true := by simp; omega
    have t1 : (i : Int) < 9 := by omega
    go_wp2_with fail
    go_loopw [6, 8] (fun s6 s8 wr => ∃ (k : Nat) (kk : Int) (rs : List Rn) (v : Value), kk = (k : Int) ∧ s8 = .int .i64 kk ∧ k ≤ 9 ∧ rs.length = 9 * i + k ∧ v = s6 ∧ OwnR wr (w.heap.size + 1 + 1 + 1 + 1 + 1) v rs ∧ EndsAt wr (w.heap.size + 1 + 1 + 1 + 1) ∧ Dn w wr ∧ w.heap.size + 1 + 1 + 1 + 1 + 1 ≤ wr.heap.size) (fun _ s8 _ => (9 - intOf s8).toNat)
    case atStart => exact ⟨0, 0, rs, _, rfl, rfl, by decide, hlen, rfl, hown, hX, ud, hBW⟩
    case round =>
     clear hown hX ud hBW hlen
     obtain ⟨k, kk, rs, v, hkk, rfl, hk9, hlen, rfl, hown, hX, ud, hBW⟩ := hrel
     obtain rfl : kk = (k : Int) := hkk
     by_cases hk : k < 9
     · have t2 : decide ((k : Int) < 9) = true := by simp; omega
       have t3 : (k : Int) < 9 := by omega
       obtain ⟨p1, q1, x1, x2, x3⟩ := hX i hi
       obtain ⟨p2, q2, y1, y2, y3⟩ := hX k hk
       have HOWN := Lib.hid hown
       have HXX := Lib.hid hX
       have HBW := Lib.hid hBW
       have HUD := Lib.hid ud
       have HX3 := Lib.hid x3
       have HY3 := Lib.hid y3
       have HLEN := Lib.hid hlen
       have HN := Lib.hid (show rs.length ≤ 1000000 by omega)
       have HK := Lib.hid hk
       have HW1 := Lib.hid (show IntKind.i64.wrap ((k : Int) + 1) = ((k + 1 : Nat) : Int) by rw [IntWalk.i64_in _ (by omega)]; omega)
       clear hown hX hBW ud x3 y3 hlen
       go_wp2_with fail
       go_region_law (refine step_run (by rfl) _ _ (by rfl) _ (w.heap.size + 1 + 1 + 1 + 1 + 1) v rs p1 q1 p2 q2 (by rfl) HOWN.out (by rfl) HN.out HBW.out HX3.out HY3.out ?_; intro v2 w2 hown2 hg)
       all_goals
        have hrow : ∀ j, v.ownBlock = some j → w.heap.size + 1 + 1 + 1 + 1 + 1 ≤ j := HOWN.out.row
        have HR := Lib.hid (show OwnR w2 (w.heap.size + 1 + 1 + 1 + 1 + 1) v2 (rs ++ [(p1, q1, p2, q2)]) ∧ EndsAt w2 (w.heap.size + 1 + 1 + 1 + 1) ∧ Dn w w2 ∧ w.heap.size + 1 + 1 + 1 + 1 + 1 ≤ w2.heap.size from
          ⟨hown2, HXX.out.kept hg (fun e => by have := hrow _ e; omega), dn_grown HUD.out hg (fun j e => by have := hrow _ e; omega), Nat.le_trans HBW.out hg.size⟩)
        clear hown2 hg hrow
        go_wp2_with fail
        go_roundw
        case rel => exact ⟨k + 1, ((k + 1 : Nat) : Int), _, _, rfl, by simp, HK.out, by rw [List.length_append, HLEN.out]; simp; omega, rfl, HR.out⟩
        case measure => simp [intOf]; have := HK.out; omega
     · obtain rfl : k = 9 := by omega
       have HS := Lib.hid (And.intro hlen (And.intro hown (And.intro hX (And.intro ud hBW))))
       have HI := Lib.hid hi
       have HW1 := Lib.hid (show IntKind.i64.wrap ((i : Int) + 1) = ((i + 1 : Nat) : Int) by rw [IntWalk.i64_in _ (by omega)]; omega)
       clear hlen hown hX ud hBW
       go_wp2_with fail
       go_roundw
       case rel => exact ⟨i + 1, ((i + 1 : Nat) : Int), rs, _, rfl, by simp, HI.out, by have := HS.out.1; omega, rfl, HS.out.2⟩
       case measure => simp [intOf]; have := HI.out; omega
  · obtain rfl : i = 9 := by omega
    have hl : rs.length = 81 := by omega
    obtain ⟨g, cap, hv, hgb, hcap, hrow⟩ := hown.form (by intro e; rw [e] at hl; simp at hl)
    have HOK := Lib.hid hown.ok
    rw [hl] at hv hcap
    subst hv
    have hro : RowAt wr g rs := hrow
    have HRO := Lib.hid hro
    have HUD := Lib.hid ud
    have HL := Lib.hid hl
    clear hrow hro hown hX ud hBW hlen hl hi hi9 hgb
    go_wp2_with fail
    go_loopw [9] (fun s9 wr => ∃ (i : Nat) (ii : Int), ii = (i : Int) ∧ s9 = .int .i64 ii ∧ i ≤ 81 ∧ RowAt wr g rs ∧ Dn w wr) (fun s9 _ => (81 - intOf s9).toNat)
    case atStart => exact ⟨0, 0, rfl, rfl, by decide, HRO.out, HUD.out⟩
    case round =>
     clear HRO HUD
     obtain ⟨i, ii, hii, rfl, hi9, hro, ud⟩ := hrel
     obtain rfl : ii = (i : Int) := hii
     by_cases hi : i < 81
     · have t0 : decide ((i : Int) < 81) = true := by simp; omega
       have t1 : (i : Int) < 81 := by omega
       obtain ⟨⟨r1, r2, r3, r4⟩, hr⟩ : ∃ r, rs[i]? = some r := ⟨rs[i]'(by rw [HL.out]; exact hi), List.getElem?_eq_getElem _⟩
       obtain ⟨i1, i2⟩ := HOK.out _ (List.mem_of_getElem? hr)
       have HI1 : Hid (I64 r2) := Lib.hid i1
       have HI2 : Hid (I64 r4) := Lib.hid i2
       have HRI := Lib.hid hr
       have HRO := Lib.hid hro
       have HUD := Lib.hid ud
       have HII := Lib.hid hi
       clear i1 i2 hr hro ud hi hi9
       go_wp2_with fail
       go_loopw [10] (fun s10 wr => ∃ (k : Nat) (kk : Int), kk = (k : Int) ∧ s10 = .int .i64 kk ∧ k ≤ 81 ∧ RowAt wr g rs ∧ Dn w wr) (fun s10 _ => (81 - intOf s10).toNat)
       case atStart => exact ⟨0, 0, rfl, rfl, by decide, HRO.out, HUD.out⟩
       case round =>
        clear HRO HUD
        obtain ⟨k, kk, hkk, rfl, hk9, hro, ud⟩ := hrel
        obtain rfl : kk = (k : Int) := hkk
        obtain ⟨c1, c2, c3, c4⟩ := hro.at HRI.out
        by_cases hk : k < 81
        · have t2 : decide ((k : Int) < 81) = true := by simp; omega
          have t3 : (k : Int) < 81 := by omega
          obtain ⟨⟨t1', t2', t3', t4'⟩, ht⟩ : ∃ r, rs[k]? = some r := ⟨rs[k]'(by rw [HL.out]; exact hk), List.getElem?_eq_getElem _⟩
          obtain ⟨t1, t2, t3, t4, hte⟩ : ∃ t1 t2 t3 t4 : Int, rs[k]? = some (t1, t2, t3, t4) := ⟨_, _, _, _, ht⟩
          obtain ⟨i3, i4⟩ := HOK.out _ (List.mem_of_getElem? hte)
          obtain ⟨d1, d2, d3, d4⟩ := hro.at hte
          have HI3 : Hid (I64 t2) := Lib.hid i3
          have HI4 : Hid (I64 t4) := Lib.hid i4
          have HIK := Lib.hid (show I64 ((i : Int) - (k : Int)) by unfold I64; have := HII.out; omega)
          have w2 : IntKind.i64.wrap ((i : Int) - (k : Int)) = (i : Int) - (k : Int) := IntWalk.i64_in _ (by have := HII.out; omega)
          have HW1 := Lib.hid (show IntKind.i64.wrap ((k : Int) + 1) = ((k + 1 : Nat) : Int) by rw [IntWalk.i64_in _ (by omega)]; omega)
          have HK := Lib.hid hk
          have HRO := Lib.hid hro
          have HUD := Lib.hid ud
          have hS := kdKn_8 (W := wr) (Dn.refl wr) ⟨Dn.refl wr, c1, c2, c3, c4, d1, d2, d3, d4⟩
          clear i3 i4 ht hte hro ud hk hk9 c1 c2 c3 c4 d1 d2 d3 d4
          go_wp2_with fail
          go_region_held3 (fun w' => Dn wr w' ∧ w'.cell? ⟨g, i * 4, none⟩ = some (.int .i8 r1) ∧ w'.cell? ⟨g, i * 4 + 1, none⟩ = some (.int .i64 r2) ∧ w'.cell? ⟨g, i * 4 + 2, none⟩ = some (.int .i8 r3) ∧ w'.cell? ⟨g, i * 4 + 3, none⟩ = some (.int .i64 r4) ∧ w'.cell? ⟨g, k * 4, none⟩ = some (.int .i8 t1) ∧ w'.cell? ⟨g, k * 4 + 1, none⟩ = some (.int .i64 t2) ∧ w'.cell? ⟨g, k * 4 + 2, none⟩ = some (.int .i8 t3) ∧ w'.cell? ⟨g, k * 4 + 3, none⟩ = some (.int .i64 t4))
           (first | exact kdKn_8 ((Dn.refl _).drew) hS | exact kdKn_8 ‹Dn _ _› ‹_› | assumption)
           (first | (go_at_call 4; refine (runsPairs_true r1 r2 r3 r4 t1 t2 t3 t4 ((i : Int) - (k : Int)) _ HI1.out HI2.out HI3.out HI4.out HIK.out (hE.dn (Dn.trans HUD.out (‹Dn wr _ ∧ _› : _ ∧ _).1))).mono ?_; rintro e wa ⟨rfl, qa⟩))
          all_goals
           have hf : Dn wr _ := (‹Dn wr _ ∧ _› : _ ∧ _).1
           have HF := Lib.hid hf
           clear hf hS
           go_wp2_with fail
           go_roundw
           case rel => (repeat apply Exists.intro); exact ⟨⟨k + 1, ((k + 1 : Nat) : Int), rfl, by simp, HK.out, HRO.out.dn HF.out, HUD.out.trans HF.out⟩, rfl⟩
           case measure => simp [intOf]; have := HK.out; omega
        · obtain rfl : k = 81 := by omega
          have HRO := Lib.hid hro
          have HUD := Lib.hid ud
          have HI64 := Lib.hid (show I64 (i : Int) by unfold I64; have := HII.out; omega)
          have HW1 := Lib.hid (show IntKind.i64.wrap ((i : Int) + 1) = ((i + 1 : Nat) : Int) by rw [IntWalk.i64_in _ (by omega)]; omega)
          clear hro ud hk hk9
          go_wp2_with fail
          refine (runsText_true r1 r2 r3 r4 _ HI1.out HI2.out (hE.dn HUD.out)).mono ?_
          rintro e wb ⟨rfl, q1⟩
          have Q1 := Lib.hid q1
          obtain ⟨e1, e2, e3, e4⟩ := mv4 q1.cell c1 c2 c3 c4
          clear q1 c1 c2 c3 c4
          go_wp2_with fail
          refine (runsOne_true r1 r2 r3 r4 1 i 40 _ HI1.out HI2.out (by decide) HI64.out (by decide) (hE.dn (HUD.out.trans Q1.out))).mono ?_
          rintro e wc ⟨rfl, q2⟩
          have Q2 := Lib.hid (Q1.out.trans q2)
          obtain ⟨f1, f2, f3, f4⟩ := mv4 q2.cell e1 e2 e3 e4
          clear q2 e1 e2 e3 e4
          go_wp2_with fail
          refine (runsOne_true r1 r2 r3 r4 (-9223372036854775808) 40 i _ HI1.out HI2.out (by decide) (by decide) HI64.out (hE.dn (HUD.out.trans Q2.out))).mono ?_
          rintro e wd ⟨rfl, q3⟩
          have Q3 := Lib.hid (Q2.out.trans q3)
          clear q3 f1 f2 f3 f4
          go_wp2_with fail
          go_roundw
          case rel => (repeat apply Exists.intro); exact ⟨⟨i + 1, ((i + 1 : Nat) : Int), rfl, by simp, HII.out, HRO.out.dn Q3.out, HUD.out.trans Q3.out⟩, rfl⟩
          case measure => simp [intOf]; have := HII.out; omega
     · obtain rfl : i = 81 := by omega
       clear hro hi hi9 HOK HL
       go_wp2_with fail
       refine (runsParse_true ⟨#[]⟩ _ (by decide) (hE.dn ud)).mono ?_
       rintro e z1 ⟨rfl, qz1⟩
       have uz1 := ud.trans qz1
       clear qz1 ud
       go_wp2_with fail
       refine (runsParse_true ⟨#[46, 46]⟩ _ (by decide) (hE.dn uz1)).mono ?_
       rintro e z2 ⟨rfl, qz2⟩
       have uz2 := uz1.trans qz2
       clear qz2 uz1
       go_wp2_with fail
       refine (runsParse_true ⟨#[49, 46, 46]⟩ _ (by decide) (hE.dn uz2)).mono ?_
       rintro e z3 ⟨rfl, qz3⟩
       have uz3 := uz2.trans qz3
       clear qz3 uz2
       go_wp2_with fail
       refine (runsParse_true ⟨#[46, 46, 49]⟩ _ (by decide) (hE.dn uz3)).mono ?_
       rintro e z4 ⟨rfl, qz4⟩
       have uz4 := uz3.trans qz4
       clear qz4 uz3
       go_wp2_with fail
       refine (runsParse_true ⟨#[49, 46, 50]⟩ _ (by decide) (hE.dn uz4)).mono ?_
       rintro e z5 ⟨rfl, qz5⟩
       have uz5 := uz4.trans qz5
       clear qz5 uz4
       go_wp2_with fail
       refine (runsParse_true ⟨#[49, 46, 46, 50, 46, 46, 51]⟩ _ (by decide) (hE.dn uz5)).mono ?_
       rintro e z6 ⟨rfl, qz6⟩
       have uz6 := uz5.trans qz6
       clear qz6 uz5
       go_wp2_with fail
       refine (runsParse_true ⟨#[57, 50, 50, 51, 51, 55, 50, 48, 51, 54, 56, 53, 52, 55, 55, 53, 56, 48, 56, 46, 46, 120]⟩ _ (by decide) (hE.dn uz6)).mono ?_
       rintro e z7 ⟨rfl, qz7⟩
       have uz7 := uz6.trans qz7
       clear qz7 uz6
       go_wp2_with fail
       refine (runsParse_true ⟨#[49, 46, 46, 57, 50, 50, 51, 51, 55, 50, 48, 51, 54, 56, 53, 52, 55, 55, 53, 56, 48, 56]⟩ _ (by decide) (hE.dn uz7)).mono ?_
       rintro e z8 ⟨rfl, qz8⟩
       have uz8 := uz7.trans qz8
       clear qz8 uz7
       go_wp2_with fail
       refine (runsParse_true ⟨#[105, 110, 102, 46, 46, 45, 105, 110, 102]⟩ _ (by decide) (hE.dn uz8)).mono ?_
       rintro e z9 ⟨rfl, qz9⟩
       have uz9 := uz8.trans qz9
       clear qz9 uz8
       go_wp2_with fail
       refine (runsParse_true ⟨#[32, 49, 46, 46, 50]⟩ _ (by decide) (hE.dn uz9)).mono ?_
       rintro e z10 ⟨rfl, qz10⟩
       have uz10 := uz9.trans qz10
       clear qz10 uz9
       go_wp2_with fail
       refine (lives9 _ (hE.dn uz10)).mono ?_
       rintro e z11 ⟨rfl, qz11⟩
       have uz11 := uz10.trans qz11
       clear qz11 uz10
       go_wp2_with fail
       go_ret
       exact ⟨rfl, uz11⟩
open Go.ChangeShapes Go.WideShapes Go.ChangeAt Go.RowKit
theorem gTab : Tryz.prog.globalNamed "internal/strconv.uint64pow10" = some 1 := by kernel_rfl
theorem tTab : (Tryz.prog.globals[1]?).map (·.type) = some 143 := by kernel_rfl
theorem gErr : Tryz.prog.globalNamed "strconv.ErrRange" = some 3 := by kernel_rfl
theorem tErr : (Tryz.prog.globals[3]?).map (·.type) = some 119 := by kernel_rfl
theorem cU64 : Tryz.prog.cellsOf 117 = 1 := by kernel_rfl
theorem cTab : Tryz.prog.cellsOf 143 = 20 := by kernel_rfl
theorem iface_cells {P : Program} {W : World} {t : TypeId} {ms : Array (String × TypeId)} {sp : Nat → Bool} {fuel : Nat} {cs : List Value} {nm : String} {d : DataW Unit} {pl : List MemPlace}
   (ht : P.underlying t = some (.interface ms)) (h : DataW.trod (fun _ => ()) P W 0 sp false fuel t cs = some (.iface nm d, pl)) : ∃ u v, cs = [.iface u v] := by
 cases fuel with
 | zero => simp [DataW.trod] at h
 | succ fuel =>
   unfold DataW.trod at h
   rw [ht] at h
   split at h <;> simp_all
theorem envI_of_laid {W : World} {rest : List (String × DataW Unit)} (hp : (("math/bits.deBruijn32tab", Rows.laid_math_bits_deBruijn32tab) :: ("math/bits.deBruijn64tab", Rows.laid_math_bits_deBruijn64tab) :: ("internal/strconv.uint64pow10", Rows.laid_internal_strconv_uint64pow10) :: ("strconv.ErrRange", Rows.laid_strconv_ErrRange) :: rest : List (String × DataW Unit)).all (fun x => x.2.handleName?.isNone) = true)
   (h : laidMetH Tryz.prog (("math/bits.deBruijn32tab", Rows.laid_math_bits_deBruijn32tab) :: ("math/bits.deBruijn64tab", Rows.laid_math_bits_deBruijn64tab) :: ("internal/strconv.uint64pow10", Rows.laid_internal_strconv_uint64pow10) :: ("strconv.ErrRange", Rows.laid_strconv_ErrRange) :: rest) W) : EnvI W := by
 rw [MakeChecks.laidMetH_plain _ _ _ hp] at h
 obtain ⟨ps, hl, _⟩ := h
 obtain ⟨g, t, cs, fuel, p, q, _, _, _, _, h2, _⟩ := hl
 obtain ⟨g, t, cs, fuel, p, q, _, _, _, _, h3, _⟩ := h2
 obtain ⟨g, t, cs, fuel, p, q, hg, ht, hv, hd, h4, _⟩ := h3
 obtain rfl := Option.some.inj (gTab.symm.trans hg)
 obtain rfl := Option.some.inj (tTab.symm.trans ht)
 refine ⟨?_, ?_⟩
 · have hd' : DataW.trod (fun _ => ()) Tryz.prog W 0 (fun _ => true) false fuel 143 cs.toList = some (Lib.tabData .u64 Lib.pow10Tab, p) := hd
   have e := Lib.cells_of_tab Tryz.underlying143 Tryz.underlying117 cU64 cTab hd'
   unfold Lib.TabIs
   rw [hv, ← e]
 · obtain ⟨g, t, cs, fuel, p, q, hg, ht, hv, hd, _, _⟩ := h4
   obtain rfl := Option.some.inj (gErr.symm.trans hg)
   obtain rfl := Option.some.inj (tErr.symm.trans ht)
   obtain ⟨u, v, e⟩ := iface_cells Tryz.underlying119 hd
   refine ⟨u, v, ?_⟩
   rw [hv]
   congr 1
   apply Array.ext'
   exact e
open Go.ChangeShapes Go.WideShapes Go.ChangeAt Go.RowKit
theorem envR_of_laid {W : World} {rest : List (String × DataW Unit)} (hp : (("math/bits.deBruijn32tab", Rows.laid_math_bits_deBruijn32tab) :: ("math/bits.deBruijn64tab", Rows.laid_math_bits_deBruijn64tab) :: ("internal/strconv.uint64pow10", Rows.laid_internal_strconv_uint64pow10) :: ("strconv.ErrRange", Rows.laid_strconv_ErrRange) :: rest : List (String × DataW Unit)).all (fun x => x.2.handleName?.isNone) = true)
  (h : laidMetH Tryz.prog (("math/bits.deBruijn32tab", Rows.laid_math_bits_deBruijn32tab) :: ("math/bits.deBruijn64tab", Rows.laid_math_bits_deBruijn64tab) :: ("internal/strconv.uint64pow10", Rows.laid_internal_strconv_uint64pow10) :: ("strconv.ErrRange", Rows.laid_strconv_ErrRange) :: rest) W) (hs : W.ShapedOpen Tryz.prog) : EnvR W :=
 ⟨envI_of_laid hp h, cell_of_shapedOpen_int (t := 3) (zero := #[.int .i64 0]) hs (by decide +kernel) (by kernel_rfl) rfl (by kernel_rfl) (by kernel_rfl) Tryz.underlying3⟩
theorem handed_shaped {H : Type} {enc : TypeId × Value → H} {a : Assume} {C : Checked} {os : Os} {f : FuncId} {fn : Func} {s : ChangeSpec} {conds : List PathCond} {apart fresh handsOn again : Bool} {X : World → Array Value → Prop}
  (hX : ∀ (w w' : World) (args : Array Value), w.heap = w'.heap → X w args → X w' args)
  (own : ownKnob C.prog.godebug = none) (started : os.Started) (noInit : C.prog.inits.idxOf? f = none) (hfn : C.prog.funcs[f]? = some fn)
  (witness : ∃ (w : World) (tape : Tape) (i : Input), w.os = os ∧ (w.forCall tape i).Shaped C.prog ∧ i.vars = [] ∧ Input.okWide C.prog (w.forCall tape i) .any w.heap.size f i ∧
   ((s.pre enc C.prog fn conds apart (w.forCall tape i).memory i.args ∧ X (w.forCall tape i).memory i.args) ∧ sizedMet enc C.prog fn (OpenSpec.ofChange s) apart (w.forCall tape i).memory i.args) ∧ a.holds C.prog (lone (Frame.enter C.prog f i.args .normal) [] (w.forCall tape i)))
  (contract : ∀ (W : World) (base : Nat) (args : Array Value) (ds gs : List (DataW H)) (before : List MemPlace), W.ShapedOpen C.prog →
   (∀ (j : Nat) t v, fn.params[j]? = some t → args[j]? = some v → Value.okWide C.prog W .any base t v) →
   DataW.Whole enc C.prog fn.params.toList s.vars apart W args.toList ds gs before →
   conds.all (PathCond.test C.prog ⟨fn.params.toList, ds, s.plain.varTypes C.prog, gs⟩) = true →
   (DataW.weightsEach C.prog (fn.params.toList ++ s.plain.varTypes C.prog) (ds ++ gs)).all (· ≤ reachBytes) = true → X W args →
   a.holds C.prog (lone (Frame.enter C.prog f args .normal) [] W) →
   Calls C.prog f args W fun e W' => ∃ v, e = .returned v ∧ s.post enc C.prog fn apart fresh handsOn again W args v W') :
  ReturnsInHanded a C os f .any (fun w args => (s.pre enc C.prog fn conds apart w args ∧ X w args) ∧ sizedMet enc C.prog fn (OpenSpec.ofChange s) apart w args) (s.post enc C.prog fn apart fresh handsOn again) := by
 refine returnsInHanded_of_calls own started noInit witness fun w tape i _ hsh _ hok hpre hholds => ?_
 obtain ⟨_, _, _, fn', hfn', _, _, _, _, hval⟩ := hok
 obtain rfl : fn' = fn := Option.some.inj (hfn'.symm.trans hfn)
 obtain ⟨⟨⟨ds, gs, before, hw, hc⟩, hx⟩, hz⟩ := hpre
 refine (contract _ w.heap.size i.args ds gs before hsh hval (DataW.Whole.of_heap (w' := w.forCall tape i) (by rfl) hw) hc (hz.weights hw) (hX _ _ _ (by rfl) hx) hholds).mono fun e W' ⟨v, he, hp⟩ => ?_
 subst he
 exact ChangeSpec.post_blind hp
end Go.Proofs.YtcdkeiolblifkaaGreatDoor
