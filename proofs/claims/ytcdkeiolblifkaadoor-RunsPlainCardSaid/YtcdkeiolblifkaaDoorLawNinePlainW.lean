/-
  WALKS OF circalaw09: RunsPlain: the walk. (Printed by wip/gen/law9q.py.)
-/
import Derived.Test.YtcdkeiolblifkaaDoorLawNine
import Derived.Test.YtcdkeiolblifkaaDoorRegInv
namespace Go.Proofs.YtcdkeiolblifkaaDoor
open Go.RowKit
set_option linter.unusedVariables false
set_option linter.unusedSimpArgs false
theorem kdQ_8 {W w1 w2 : World} {a0 a1 a2 a3 a4 a5 a6 a7 : Addr} {v0 v1 v2 v3 v4 v5 v6 v7 : Value} (k : Dn w1 w2) (h : Dn W w1 ∧ w1.cell? a0 = some v0 ∧ w1.cell? a1 = some v1 ∧ w1.cell? a2 = some v2 ∧ w1.cell? a3 = some v3 ∧ w1.cell? a4 = some v4 ∧ w1.cell? a5 = some v5 ∧ w1.cell? a6 = some v6 ∧ w1.cell? a7 = some v7) :
    Dn W w2 ∧ w2.cell? a0 = some v0 ∧ w2.cell? a1 = some v1 ∧ w2.cell? a2 = some v2 ∧ w2.cell? a3 = some v3 ∧ w2.cell? a4 = some v4 ∧ w2.cell? a5 = some v5 ∧ w2.cell? a6 = some v6 ∧ w2.cell? a7 = some v7 := by
  obtain ⟨h1, c0, c1, c2, c3, c4, c5, c6, c7⟩ := h
  exact ⟨h1.trans k, k.cell c0, k.cell c1, k.cell c2, k.cell c3, k.cell c4, k.cell c5, k.cell c6, k.cell c7⟩
theorem ex_step {P : Int → Prop} {day : Int} {v v' : Bool} (h : v = true ↔ ∃ t, -60 ≤ t ∧ t < day ∧ P t) (h0 : -60 ≤ day) (hv : v' = true ↔ v = true ∨ P day) : v' = true ↔ ∃ t, -60 ≤ t ∧ t < day + 1 ∧ P t := by
  rw [hv, h]
  constructor
  · rintro (⟨t, h1, h2, h3⟩ | h3)
    · exact ⟨t, h1, by omega, h3⟩
    · exact ⟨day, h0, by omega, h3⟩
  · rintro ⟨t, h1, h2, h3⟩
    by_cases e : t = day
    · subst e; exact Or.inr h3
    · exact Or.inl ⟨t, h1, by omega, h3⟩
theorem ex_none {P : Int → Prop} : false = true ↔ ∃ t, -60 ≤ t ∧ t < (-60 : Int) ∧ P t := by
  constructor
  · intro h; cases h
  · rintro ⟨t, h1, h2, _⟩; omega
def PB (hA hB : Int → Bool) (t : Int) : Prop := hA t = true ∧ hB t = true
def PN (hA hB : Int → Bool) (t : Int) : Prop := hA t = true ∧ (hB (t - 1) = true ∨ hB (t + 1) = true)
def PO (hA hB : Int → Bool) (t : Int) : Prop := hA t = true ∧ hB t = false
/-- What the loop has seen ahead of a day. -/
structure Seen (hA hB : Int → Bool) (day : Int) (near both out : Bool) : Prop where
  n : near = true ↔ ∃ t, -60 ≤ t ∧ t < day ∧ PN hA hB t
  b : both = true ↔ ∃ t, -60 ≤ t ∧ t < day ∧ PB hA hB t
  o : out = true ↔ ∃ t, -60 ≤ t ∧ t < day ∧ PO hA hB t
theorem Seen.step {hA hB : Int → Bool} {day : Int} {near both out near' both' out' : Bool} (h : Seen hA hB day near both out) (h0 : -60 ≤ day)
    (hn : near' = true ↔ near = true ∨ PN hA hB day) (hb : both' = true ↔ both = true ∨ PB hA hB day) (ho : out' = true ↔ out = true ∨ PO hA hB day) : Seen hA hB (day + 1) near' both' out' :=
  ⟨ex_step h.n h0 hn, ex_step h.b h0 hb, ex_step h.o h0 ho⟩
set_option maxHeartbeats 16000000 in
set_option maxRecDepth 100000 in
theorem pl_walk (k n lo k' n' lo' a b c d e f g h j0 j1 j2 j3 c0 c1 c2 c3 : Int) (hA hB : Int → Bool) (T M Wn : Bool) (hk : 0 ≤ k ∧ k ≤ 255) (hn : 0 ≤ n ∧ n ≤ 255) (hl : -32768 ≤ lo ∧ lo ≤ 32767) (hk' : 0 ≤ k' ∧ k' ≤ 255) (hn' : 0 ≤ n' ∧ n' ≤ 255) (hl' : -32768 ≤ lo' ∧ lo' ≤ 32767) (HO1 : Hid (∀ W, Calls Tryd.prog 8 #[.agg #[.int .u8 k, .int .u8 n, .int .i16 (lo.tmod 40)]] W fun o w' => o = .returned (.agg #[.int .i8 a, .int .i64 b, .int .i8 c, .int .i64 d]) ∧ Dn W w')) (HO2 : Hid (∀ W, Calls Tryd.prog 8 #[.agg #[.int .u8 k', .int .u8 n', .int .i16 (lo'.tmod 40)]] W fun o w' => o = .returned (.agg #[.int .i8 e, .int .i64 f, .int .i8 g, .int .i64 h]) ∧ Dn W w')) (HA : Hid (∀ W t, I64 t → Calls Tryd.prog 9 #[.agg #[.int .i8 a, .int .i64 b, .int .i8 c, .int .i64 d], .int .i64 t] W fun o w' => o = .returned (.bool (hA t)) ∧ Dn W w')) (HB : Hid (∀ W t, I64 t → Calls Tryd.prog 9 #[.agg #[.int .i8 e, .int .i64 f, .int .i8 g, .int .i64 h], .int .i64 t] W fun o w' => o = .returned (.bool (hB t)) ∧ Dn W w')) (HJ : Hid (∀ W, Calls Tryd.prog 10 #[.agg #[.int .i8 a, .int .i64 b, .int .i8 c, .int .i64 d], .agg #[.int .i8 e, .int .i64 f, .int .i8 g, .int .i64 h]] W fun o w' => o = .returned (.tuple #[.agg #[.int .i8 j0, .int .i64 j1, .int .i8 j2, .int .i64 j3], .bool T]) ∧ Dn W w')) (HC : Hid (∀ W, Calls Tryd.prog 11 #[.agg #[.int .i8 a, .int .i64 b, .int .i8 c, .int .i64 d], .agg #[.int .i8 e, .int .i64 f, .int .i8 g, .int .i64 h]] W fun o w' => o = .returned (.tuple #[.agg #[.int .i8 c0, .int .i64 c1, .int .i8 c2, .int .i64 c3], .bool M]) ∧ Dn W w')) (HT : Hid (∀ W, Calls Tryd.prog 12 #[.agg #[.int .i8 a, .int .i64 b, .int .i8 c, .int .i64 d], .agg #[.int .i8 e, .int .i64 f, .int .i8 g, .int .i64 h]] W fun o w' => o = .returned (.bool T) ∧ Dn W w')) (HW : Hid (∀ W, Calls Tryd.prog 13 #[.agg #[.int .i8 a, .int .i64 b, .int .i8 c, .int .i64 d], .agg #[.int .i8 e, .int .i64 f, .int .i8 g, .int .i64 h]] W fun o w' => o = .returned (.bool Wn) ∧ Dn W w')) (HF : ∀ near both out : Bool, Seen hA hB 61 near both out → T = (both || near) ∧ M = both ∧ Wn = !out) (w : World) (hE : EnvR w) :
    Calls Tryd.prog 3 #[.agg #[.int .u8 k, .int .u8 n, .int .i16 lo], .agg #[.int .u8 k', .int .u8 n', .int .i16 lo']] w fun ro w' => ro = .returned (.bool true) ∧ Dn w w' := by
  go_enter Tryd.func3, Tryd.ntmps3
  have HF2 := Lib.hid HF
  clear HF
  go_wp2_with fail
  obtain ⟨W1, hW1⟩ : ∃ W1, W1 = (w.alloc (.cells #[.int .u8 k, .int .u8 n, .int .i16 (lo.tmod 40)] 24)).alloc (.cells #[.int .u8 k', .int .u8 n', .int .i16 (lo'.tmod 40)] 24) := ⟨_, rfl⟩
  have uW1 : Dn w W1 := by rw [hW1]; exact ((Dn.refl _).alloc _).alloc _
  have c2 : W1.cell? ⟨w.heap.size, 0, none⟩ = some (.int .u8 k) := by rw [hW1]; simp [go_sem]
  have c3 : W1.cell? ⟨w.heap.size, 1, none⟩ = some (.int .u8 n) := by rw [hW1]; simp [go_sem]
  have c4 : W1.cell? ⟨w.heap.size, 2, none⟩ = some (.int .i16 (lo.tmod 40)) := by rw [hW1]; simp [go_sem]
  have l5 : w.heap.size < W1.heap.size := by rw [hW1]; simp <;> omega
  have c6 : W1.cell? ⟨w.heap.size + 1, 0, none⟩ = some (.int .u8 k') := by rw [hW1]; simp [go_sem]
  have c7 : W1.cell? ⟨w.heap.size + 1, 1, none⟩ = some (.int .u8 n') := by rw [hW1]; simp [go_sem]
  have c8 : W1.cell? ⟨w.heap.size + 1, 2, none⟩ = some (.int .i16 (lo'.tmod 40)) := by rw [hW1]; simp [go_sem]
  have l9 : w.heap.size + 1 < W1.heap.size := by rw [hW1]; simp <;> omega
  rw [← hW1]
  clear hW1
  refine region_inv (fun A l a' w' => ∃ (b0 b1 b2 b3 b4 b5 b6 b7 : Bool) (x25 x26 x27 x28 x5 x6 : Value), l = #[b0, b1, b2, b3, b4, b5, b6, b7] ∧ a' = ((((((A.put (some 25) x25).put (some 26) x26).put (some 27) x27).put (some 28) x28).put (some 5) x5).put (some 6) x6) ∧ Dn W1 w' ∧ (b0 = true → x25 = .agg #[.int .u8 k, .int .u8 n, .int .i16 (lo.tmod 40)]) ∧ (b1 = true → x26 = .agg #[.int .i8 a, .int .i64 b, .int .i8 c, .int .i64 d]) ∧ (b2 = true → x27 = .agg #[.int .u8 k', .int .u8 n', .int .i16 (lo'.tmod 40)]) ∧ (b3 = true → x28 = .agg #[.int .i8 e, .int .i64 f, .int .i8 g, .int .i64 h]) ∧ (b6 = true → b4 = true) ∧ (b7 = true → b5 = true) ∧ Bl W1.heap.size w' b4 b6 x5 (.int .i8 a) (.int .i64 b) (.int .i8 c) (.int .i64 d) ∧ Bl W1.heap.size w' b5 b7 x6 (.int .i8 e) (.int .i64 f) (.int .i8 g) (.int .i64 h) ∧ Ap b4 b5 x5 x6) (by kernel_rfl) ?_ ?_ ?_
  · exact ⟨false, false, false, false, false, false, false, false, undef, undef, undef, undef, undef, undef, rfl, by simp only [Act.put, List.getElem_toArray, List.getElem_cons_succ, List.getElem_cons_zero, List.setIfInBounds_toArray, List.set_cons_zero, List.set_cons_succ], (Dn.refl _).drew, (fun h => by cases h), (fun h => by cases h), (fun h => by cases h), (fun h => by cases h), (fun h => by cases h), (fun h => by cases h), Bl.no, Bl.no, Ap.nol⟩
  · rintro l a' w' i ⟨b0, b1, b2, b3, b4, b5, b6, b7, x25, x26, x27, x28, x5, x6, rfl, rfl, q, hv0, hv1, hv2, hv3, hs4, hs5, hk4, hk5, hp4_5⟩ hun hdep hi
    simp only [Act.put, List.getElem_toArray, List.getElem_cons_succ, List.getElem_cons_zero, List.setIfInBounds_toArray, List.set_cons_zero, List.set_cons_succ]
    have hi' : i < 8 := hi
    rcases (show i = 0 ∨ i = 1 ∨ i = 2 ∨ i = 3 ∨ i = 4 ∨ i = 5 ∨ i = 6 ∨ i = 7 by omega) with rfl | rfl | rfl | rfl | rfl | rfl | rfl | rfl
    ·
      have f0 : b0 = false := by simpa using hun
      subst f0
      have g11 := q.cell c2
      have g12 := q.cell c3
      have g13 := q.cell c4
      refine wpOp_step rfl (fun K hK => ?_)
      replace hK := Lib.hid hK
      go_simp
      exact hK.out _ _ ⟨true, b1, b2, b3, b4, b5, b6, b7, .agg #[.int .u8 k, .int .u8 n, .int .i16 (lo.tmod 40)], x26, x27, x28, x5, x6, rfl, by simp only [Act.put, List.getElem_toArray, List.getElem_cons_succ, List.getElem_cons_zero, List.setIfInBounds_toArray, List.set_cons_zero, List.set_cons_succ], q, fun _ => rfl, hv1, hv2, hv3, hs4, hs5, hk4, hk5, hp4_5⟩
    ·
      have e0 : b0 = true := hdep _ rfl ⟨0, .data⟩ (by simp) rfl
      have f1 : b1 = false := by simpa using hun
      subst f1 e0
      obtain rfl := hv0 rfl
      refine wpOp_step rfl (fun K hK => ?_)
      replace hK := Lib.hid hK
      go_simp
      go_at_call 8
      refine (HO1.out _).mono ?_
      rintro e wa ⟨rfl, qa⟩
      try go_wp2_with fail
      exact hK.out _ _ ⟨true, true, b2, b3, b4, b5, b6, b7, .agg #[.int .u8 k, .int .u8 n, .int .i16 (lo.tmod 40)], .agg #[.int .i8 a, .int .i64 b, .int .i8 c, .int .i64 d], x27, x28, x5, x6, rfl, by simp only [Act.put, List.getElem_toArray, List.getElem_cons_succ, List.getElem_cons_zero, List.setIfInBounds_toArray, List.set_cons_zero, List.set_cons_succ], q.trans qa, fun _ => rfl, fun _ => rfl, hv2, hv3, hs4, hs5, hk4.dn qa, hk5.dn qa, hp4_5⟩
    ·
      have f2 : b2 = false := by simpa using hun
      subst f2
      have g14 := q.cell c6
      have g15 := q.cell c7
      have g16 := q.cell c8
      refine wpOp_step rfl (fun K hK => ?_)
      replace hK := Lib.hid hK
      go_simp
      exact hK.out _ _ ⟨b0, b1, true, b3, b4, b5, b6, b7, x25, x26, .agg #[.int .u8 k', .int .u8 n', .int .i16 (lo'.tmod 40)], x28, x5, x6, rfl, by simp only [Act.put, List.getElem_toArray, List.getElem_cons_succ, List.getElem_cons_zero, List.setIfInBounds_toArray, List.set_cons_zero, List.set_cons_succ], q, hv0, hv1, fun _ => rfl, hv3, hs4, hs5, hk4, hk5, hp4_5⟩
    ·
      have e2 : b2 = true := hdep _ rfl ⟨2, .data⟩ (by simp) rfl
      have f3 : b3 = false := by simpa using hun
      subst f3 e2
      obtain rfl := hv2 rfl
      refine wpOp_step rfl (fun K hK => ?_)
      replace hK := Lib.hid hK
      go_simp
      go_at_call 8
      refine (HO2.out _).mono ?_
      rintro e wa ⟨rfl, qa⟩
      try go_wp2_with fail
      exact hK.out _ _ ⟨b0, b1, true, true, b4, b5, b6, b7, x25, x26, .agg #[.int .u8 k', .int .u8 n', .int .i16 (lo'.tmod 40)], .agg #[.int .i8 e, .int .i64 f, .int .i8 g, .int .i64 h], x5, x6, rfl, by simp only [Act.put, List.getElem_toArray, List.getElem_cons_succ, List.getElem_cons_zero, List.setIfInBounds_toArray, List.set_cons_zero, List.set_cons_succ], q.trans qa, hv0, hv1, fun _ => rfl, fun _ => rfl, hs4, hs5, hk4.dn qa, hk5.dn qa, hp4_5⟩
    ·
      have f4 : b4 = false := by simpa using hun
      subst f4
      obtain rfl : b6 = false := by
        cases b6 with
        | false => rfl
        | true => exact absurd (hs4 rfl) (by simp)
      refine wpOp_step rfl (fun K hK => ?_)
      replace hK := Lib.hid hK
      go_simp
      exact hK.out _ _ ⟨b0, b1, b2, b3, true, b5, false, b7, x25, x26, x27, x28, .pointer (some ⟨w'.heap.size, 0, none⟩), x6, rfl, by simp only [Act.put, List.getElem_toArray, List.getElem_cons_succ, List.getElem_cons_zero, List.setIfInBounds_toArray, List.set_cons_zero, List.set_cons_succ], q.alloc _, hv0, hv1, hv2, hv3, fun _ => rfl, hs5, Bl.new q.size _, hk5.dn ((Dn.refl _).alloc _), (hk5.ap).symm⟩
    ·
      have f5 : b5 = false := by simpa using hun
      subst f5
      obtain rfl : b7 = false := by
        cases b7 with
        | false => rfl
        | true => exact absurd (hs5 rfl) (by simp)
      refine wpOp_step rfl (fun K hK => ?_)
      replace hK := Lib.hid hK
      go_simp
      exact hK.out _ _ ⟨b0, b1, b2, b3, b4, true, b6, false, x25, x26, x27, x28, x5, .pointer (some ⟨w'.heap.size, 0, none⟩), rfl, by simp only [Act.put, List.getElem_toArray, List.getElem_cons_succ, List.getElem_cons_zero, List.setIfInBounds_toArray, List.set_cons_zero, List.set_cons_succ], q.alloc _, hv0, hv1, hv2, hv3, hs4, fun _ => rfl, hk4.dn ((Dn.refl _).alloc _), Bl.new q.size _, hk4.ap⟩
    ·
      have e4 : b4 = true := hdep _ rfl ⟨4, .data⟩ (by simp) rfl
      have e1 : b1 = true := hdep _ rfl ⟨1, .data⟩ (by simp) rfl
      have f6 : b6 = false := by simpa using hun
      subst f6 e4 e1
      obtain rfl := hv1 rfl
      obtain ⟨B, rfl, hL, hz, _⟩ := hk4 rfl
      have hB := hz rfl
      have z0 := hB.c0
      have y0 := hB.f0
      have z1 := hB.c1
      have y1 := hB.f1
      have z2 := hB.c2
      have y2 := hB.f2
      have z3 := hB.c3
      have y3 := hB.f3
      have zl := hB.lt
      refine wpOp_step rfl (fun K hK => ?_)
      replace hK := Lib.hid hK
      go_simp
      exact hK.out _ _ ⟨b0, true, b2, b3, true, b5, true, b7, x25, .agg #[.int .i8 a, .int .i64 b, .int .i8 c, .int .i64 d], x27, x28, .pointer (some ⟨B, 0, none⟩), x6, rfl, by simp only [Act.put, List.getElem_toArray, List.getElem_cons_succ, List.getElem_cons_zero, List.setIfInBounds_toArray, List.set_cons_zero, List.set_cons_succ], (Dn.setCell (Dn.setCell (Dn.setCell (Dn.setCell q (by simpa using hL) _) (by simpa using hL) _) (by simpa using hL) _) (by simpa using hL) _), hv0, fun _ => rfl, hv2, hv3, fun _ => rfl, hs5, fun _ => ⟨B, rfl, hL, (fun k => by cases k), fun _ => hB.fill _ _ _ _⟩, hk5.far hp4_5 _ _ _ _, hp4_5⟩
    ·
      have e5 : b5 = true := hdep _ rfl ⟨5, .data⟩ (by simp) rfl
      have e3 : b3 = true := hdep _ rfl ⟨3, .data⟩ (by simp) rfl
      have f7 : b7 = false := by simpa using hun
      subst f7 e5 e3
      obtain rfl := hv3 rfl
      obtain ⟨B, rfl, hL, hz, _⟩ := hk5 rfl
      have hB := hz rfl
      have z0 := hB.c0
      have y0 := hB.f0
      have z1 := hB.c1
      have y1 := hB.f1
      have z2 := hB.c2
      have y2 := hB.f2
      have z3 := hB.c3
      have y3 := hB.f3
      have zl := hB.lt
      refine wpOp_step rfl (fun K hK => ?_)
      replace hK := Lib.hid hK
      go_simp
      exact hK.out _ _ ⟨b0, b1, b2, true, b4, true, b6, true, x25, x26, x27, .agg #[.int .i8 e, .int .i64 f, .int .i8 g, .int .i64 h], x5, .pointer (some ⟨B, 0, none⟩), rfl, by simp only [Act.put, List.getElem_toArray, List.getElem_cons_succ, List.getElem_cons_zero, List.setIfInBounds_toArray, List.set_cons_zero, List.set_cons_succ], (Dn.setCell (Dn.setCell (Dn.setCell (Dn.setCell q (by simpa using hL) _) (by simpa using hL) _) (by simpa using hL) _) (by simpa using hL) _), hv0, hv1, hv2, fun _ => rfl, hs4, fun _ => rfl, hk4.far hp4_5.symm _ _ _ _, fun _ => ⟨B, rfl, hL, (fun k => by cases k), fun _ => hB.fill _ _ _ _⟩, hp4_5⟩
  · rintro l a' W17 ⟨b0, b1, b2, b3, b4, b5, b6, b7, x25, x26, x27, x28, x5, x6, rfl, rfl, qW17, hv0, hv1, hv2, hv3, hs4, hs5, hk4, hk5, hp4_5⟩ hall
    obtain rfl : b0 = true := by
      cases b0 with
      | true => rfl
      | false => exact absurd (by intro e he hb; simp at he <;> (repeat' (rcases he with rfl | he)) <;> first | rfl | exact absurd hb (by decide)) (hall 0 _ rfl rfl)
    obtain rfl : b1 = true := by
      cases b1 with
      | true => rfl
      | false => exact absurd (by intro e he hb; simp at he <;> (repeat' (rcases he with rfl | he)) <;> first | rfl | exact absurd hb (by decide)) (hall 1 _ rfl rfl)
    obtain rfl : b2 = true := by
      cases b2 with
      | true => rfl
      | false => exact absurd (by intro e he hb; simp at he <;> (repeat' (rcases he with rfl | he)) <;> first | rfl | exact absurd hb (by decide)) (hall 2 _ rfl rfl)
    obtain rfl : b3 = true := by
      cases b3 with
      | true => rfl
      | false => exact absurd (by intro e he hb; simp at he <;> (repeat' (rcases he with rfl | he)) <;> first | rfl | exact absurd hb (by decide)) (hall 3 _ rfl rfl)
    obtain rfl : b4 = true := by
      cases b4 with
      | true => rfl
      | false => exact absurd (by intro e he hb; simp at he <;> (repeat' (rcases he with rfl | he)) <;> first | rfl | exact absurd hb (by decide)) (hall 4 _ rfl rfl)
    obtain rfl : b5 = true := by
      cases b5 with
      | true => rfl
      | false => exact absurd (by intro e he hb; simp at he <;> (repeat' (rcases he with rfl | he)) <;> first | rfl | exact absurd hb (by decide)) (hall 5 _ rfl rfl)
    obtain rfl : b6 = true := by
      cases b6 with
      | true => rfl
      | false => exact absurd (by intro e he hb; simp at he <;> (repeat' (rcases he with rfl | he)) <;> first | rfl | exact absurd hb (by decide)) (hall 6 _ rfl rfl)
    obtain rfl : b7 = true := by
      cases b7 with
      | true => rfl
      | false => exact absurd (by intro e he hb; simp at he <;> (repeat' (rcases he with rfl | he)) <;> first | rfl | exact absurd hb (by decide)) (hall 7 _ rfl rfl)
    obtain rfl := hv0 rfl
    obtain rfl := hv1 rfl
    obtain rfl := hv2 rfl
    obtain rfl := hv3 rfl
    obtain ⟨Bt5, rfl, ot5, _, gt5⟩ := hk4 rfl
    obtain ⟨t5c0, t5c1, t5c2, t5c3, t5f0, t5f1, t5f2, t5f3, lt5⟩ := gt5 rfl
    clear gt5
    obtain ⟨Bt6, rfl, ot6, _, gt6⟩ := hk5 rfl
    obtain ⟨t6c0, t6c1, t6c2, t6c3, t6f0, t6f1, t6f2, t6f3, lt6⟩ := gt6 rfl
    clear gt6
    have l18 := Nat.lt_of_lt_of_le l5 qW17.size
    have c19 := qW17.cell c2
    have c20 := qW17.cell c3
    have c21 := qW17.cell c4
    have l22 := Nat.lt_of_lt_of_le l9 qW17.size
    have c23 := qW17.cell c6
    have c24 := qW17.cell c7
    have c25 := qW17.cell c8
    clear l5 c2 c3 c4 l9 c6 c7 c8
    clear t5f0 t5f1 t5f2 t5f3
    clear t6f0 t6f1 t6f2 t6f3
    have vW17 := uW1.trans qW17
    clear hp4_5 hv0 hv1 hv2 hv3 hs4 hs5 hk4 ot5 hk5 ot6 hall
    simp only [Act.put, List.getElem_toArray, List.getElem_cons_succ, List.getElem_cons_zero, List.setIfInBounds_toArray, List.set_cons_zero, List.set_cons_succ]
    clear c19 c20 c21 l18
    clear c23 c24 c25 l22
    clear hk hn hl hk' hn' hl'
    go_wp2_with fail
    go_loopw [7, 8, 9, 10] (fun s7 s8 s9 s10 wr => ∃ (near both out : Bool) (day : Int), s7 = .bool near ∧ s8 = .bool both ∧ s9 = .bool out ∧ s10 = .int .i64 day ∧ (-60 ≤ day ∧ day ≤ 61) ∧ Seen hA hB day near both out ∧ Dn w wr ∧ Bt5 < wr.heap.size ∧ Bt6 < wr.heap.size ∧ wr.cell? ⟨Bt5, 0, none⟩ = some (.int .i8 a) ∧ wr.cell? ⟨Bt5, 1, none⟩ = some (.int .i64 b) ∧ wr.cell? ⟨Bt5, 2, none⟩ = some (.int .i8 c) ∧ wr.cell? ⟨Bt5, 3, none⟩ = some (.int .i64 d) ∧ wr.cell? ⟨Bt6, 0, none⟩ = some (.int .i8 e) ∧ wr.cell? ⟨Bt6, 1, none⟩ = some (.int .i64 f) ∧ wr.cell? ⟨Bt6, 2, none⟩ = some (.int .i8 g) ∧ wr.cell? ⟨Bt6, 3, none⟩ = some (.int .i64 h)) (fun _ _ _ s10 _ => (61 - intOf s10).toNat)
    case atStart => exact ⟨false, false, false, -60, rfl, rfl, rfl, rfl, ⟨by decide, by decide⟩, ⟨ex_none, ex_none, ex_none⟩, vW17, lt5, lt6, t5c0, t5c1, t5c2, t5c3, t6c0, t6c1, t6c2, t6c3⟩
    case round =>
      obtain ⟨near, both, out, day, rfl, rfl, rfl, rfl, hday, hS, ud, l5, l6, x50, x51, x52, x53, x60, x61, x62, x63⟩ := hrel
      clear vW17 lt5 lt6 t5c0 t5c1 t5c2 t5c3 t6c0 t6c1 t6c2 t6c3
      have HS := Lib.hid hS
      clear hS
      by_cases hle : day ≤ 60
      ·
        have t0 : decide (day ≤ 60) = true := by simpa using hle
        have hd0 : I64 day := by unfold I64; omega
        have hd1 : I64 (day - 1) := by unfold I64; omega
        have hd2 : I64 (day + 1) := by unfold I64; omega
        have hw1 : IntKind.i64.wrap (day - 1) = day - 1 := IntWalk.i64_in _ (by omega)
        have hw2 : IntKind.i64.wrap (day + 1) = day + 1 := IntWalk.i64_in _ (by omega)
        have HD := Lib.hid hday
        have HD0 := Lib.hid hd0
        have HD1 := Lib.hid hd1
        have HD2 := Lib.hid hd2
        have HLE := Lib.hid hle
        clear hday hd0 hd1 hd2 hle
        go_wp2_with fail
        have hS26 := kdQ_8 (W := wr) (Dn.refl _) ⟨Dn.refl _, x50, x51, x52, x53, x60, x61, x62, x63⟩
        have HShS26 := Lib.hid hS26
        clear x50 x51 x52 x53 x60 x61 x62 x63
        go_region_held3 (fun w' => Dn wr w' ∧ w'.cell? ⟨Bt5, 0, none⟩ = some (.int .i8 a) ∧ w'.cell? ⟨Bt5, 1, none⟩ = some (.int .i64 b) ∧ w'.cell? ⟨Bt5, 2, none⟩ = some (.int .i8 c) ∧ w'.cell? ⟨Bt5, 3, none⟩ = some (.int .i64 d) ∧ w'.cell? ⟨Bt6, 0, none⟩ = some (.int .i8 e) ∧ w'.cell? ⟨Bt6, 1, none⟩ = some (.int .i64 f) ∧ w'.cell? ⟨Bt6, 2, none⟩ = some (.int .i8 g) ∧ w'.cell? ⟨Bt6, 3, none⟩ = some (.int .i64 h))
          (first | exact kdQ_8 ((Dn.refl _).drew) hS26 | exact kdQ_8 ‹Dn _ _› ‹_› | exact kdQ_8 (Up.dn ‹Up _ _›) ‹_› | assumption | exact kdQ_8 ((Dn.refl _).alloc _) ‹_›)
          (first
            | (go_at_call 9; (with_reducible refine (HA.out _ day HD0.out).mono ?_); rintro e wa ⟨rfl, qa⟩)
            | (go_at_call 9; (with_reducible refine (HB.out _ day HD0.out).mono ?_); rintro e wa ⟨rfl, qa⟩))
        all_goals
          clear hS26
          obtain ⟨uf35, c27, c28, c29, c30, c31, c32, c33, c34⟩ := (‹Dn wr _ ∧ _› : _ ∧ _)
          obtain ⟨w36, rfl⟩ : ∃ w36 : World, w36 = wa := ⟨_, rfl⟩
          have l37 := Nat.lt_of_lt_of_le l5 uf35.size
          clear l5
          have l38 := Nat.lt_of_lt_of_le l6 uf35.size
          clear l6
          have vuf35 := ud.trans uf35
          clear uf35 ud HShS26
          have HU := Lib.hid vuf35
          have hcases : ∀ G : Prop, (∀ (hp : hA day = false), G) → (∀ (hp : hA day = true) (q : Bool) (hq : hB day = q) (h1 : Bool) (e1 : hB (day - 1) = h1) (h2 : Bool) (e2 : hB (day + 1) = h2), G) → G := fun G f g => by
            cases hp : hA day
            · exact f hp
            · exact g hp _ rfl _ rfl _ rfl
          refine hcases _ (fun ep => ?_) (fun ep q eq h1 e1 h2 e2 => ?_)
          · clear hcases
            cases near <;> cases both <;> cases out
            ·
              go_wp2_with fail
              go_roundw
              case rel => exact ⟨false, false, false, day + 1, rfl, rfl, rfl, rfl, ⟨by have := HD.out; omega, by have := HLE.out; omega⟩, HS.out.step HD.out.1 (by simp [PN, ep]) (by simp [PB, ep]) (by simp [PO, ep]), vuf35, l37, l38, c27, c28, c29, c30, c31, c32, c33, c34⟩
              case measure => have := HD.out; have := HLE.out; simp [intOf]; omega
            ·
              go_wp2_with fail
              go_roundw
              case rel => exact ⟨false, false, true, day + 1, rfl, rfl, rfl, rfl, ⟨by have := HD.out; omega, by have := HLE.out; omega⟩, HS.out.step HD.out.1 (by simp [PN, ep]) (by simp [PB, ep]) (by simp [PO, ep]), vuf35, l37, l38, c27, c28, c29, c30, c31, c32, c33, c34⟩
              case measure => have := HD.out; have := HLE.out; simp [intOf]; omega
            ·
              go_wp2_with fail
              go_roundw
              case rel => exact ⟨false, true, false, day + 1, rfl, rfl, rfl, rfl, ⟨by have := HD.out; omega, by have := HLE.out; omega⟩, HS.out.step HD.out.1 (by simp [PN, ep]) (by simp [PB, ep]) (by simp [PO, ep]), vuf35, l37, l38, c27, c28, c29, c30, c31, c32, c33, c34⟩
              case measure => have := HD.out; have := HLE.out; simp [intOf]; omega
            ·
              go_wp2_with fail
              go_roundw
              case rel => exact ⟨false, true, true, day + 1, rfl, rfl, rfl, rfl, ⟨by have := HD.out; omega, by have := HLE.out; omega⟩, HS.out.step HD.out.1 (by simp [PN, ep]) (by simp [PB, ep]) (by simp [PO, ep]), vuf35, l37, l38, c27, c28, c29, c30, c31, c32, c33, c34⟩
              case measure => have := HD.out; have := HLE.out; simp [intOf]; omega
            ·
              go_wp2_with fail
              go_roundw
              case rel => exact ⟨true, false, false, day + 1, rfl, rfl, rfl, rfl, ⟨by have := HD.out; omega, by have := HLE.out; omega⟩, HS.out.step HD.out.1 (by simp [PN, ep]) (by simp [PB, ep]) (by simp [PO, ep]), vuf35, l37, l38, c27, c28, c29, c30, c31, c32, c33, c34⟩
              case measure => have := HD.out; have := HLE.out; simp [intOf]; omega
            ·
              go_wp2_with fail
              go_roundw
              case rel => exact ⟨true, false, true, day + 1, rfl, rfl, rfl, rfl, ⟨by have := HD.out; omega, by have := HLE.out; omega⟩, HS.out.step HD.out.1 (by simp [PN, ep]) (by simp [PB, ep]) (by simp [PO, ep]), vuf35, l37, l38, c27, c28, c29, c30, c31, c32, c33, c34⟩
              case measure => have := HD.out; have := HLE.out; simp [intOf]; omega
            ·
              go_wp2_with fail
              go_roundw
              case rel => exact ⟨true, true, false, day + 1, rfl, rfl, rfl, rfl, ⟨by have := HD.out; omega, by have := HLE.out; omega⟩, HS.out.step HD.out.1 (by simp [PN, ep]) (by simp [PB, ep]) (by simp [PO, ep]), vuf35, l37, l38, c27, c28, c29, c30, c31, c32, c33, c34⟩
              case measure => have := HD.out; have := HLE.out; simp [intOf]; omega
            ·
              go_wp2_with fail
              go_roundw
              case rel => exact ⟨true, true, true, day + 1, rfl, rfl, rfl, rfl, ⟨by have := HD.out; omega, by have := HLE.out; omega⟩, HS.out.step HD.out.1 (by simp [PN, ep]) (by simp [PB, ep]) (by simp [PO, ep]), vuf35, l37, l38, c27, c28, c29, c30, c31, c32, c33, c34⟩
              case measure => have := HD.out; have := HLE.out; simp [intOf]; omega
          · clear hcases
            cases near
            · cases h1
              · cases h2 <;> cases both <;> cases out <;> cases q
                ·
                  go_wp2_with fail
                  refine (HB.out _ (day - 1) HD1.out).mono ?_
                  rintro e w1 ⟨rfl, qw1⟩
                  have l39 := Nat.lt_of_lt_of_le l37 qw1.size
                  have c40 := qw1.cell c27
                  have c41 := qw1.cell c28
                  have c42 := qw1.cell c29
                  have c43 := qw1.cell c30
                  have l44 := Nat.lt_of_lt_of_le l38 qw1.size
                  have c45 := qw1.cell c31
                  have c46 := qw1.cell c32
                  have c47 := qw1.cell c33
                  have c48 := qw1.cell c34
                  clear l37 c27 c28 c29 c30 l38 c31 c32 c33 c34
                  have uw1 := vuf35.trans qw1
                  clear qw1 vuf35
                  go_wp2_with fail
                  refine (HB.out _ (day + 1) HD2.out).mono ?_
                  rintro e w2 ⟨rfl, qw2⟩
                  have l49 := Nat.lt_of_lt_of_le l39 qw2.size
                  have c50 := qw2.cell c40
                  have c51 := qw2.cell c41
                  have c52 := qw2.cell c42
                  have c53 := qw2.cell c43
                  have l54 := Nat.lt_of_lt_of_le l44 qw2.size
                  have c55 := qw2.cell c45
                  have c56 := qw2.cell c46
                  have c57 := qw2.cell c47
                  have c58 := qw2.cell c48
                  clear l39 c40 c41 c42 c43 l44 c45 c46 c47 c48
                  have uw2 := uw1.trans qw2
                  clear qw2 uw1
                  go_wp2_with fail
                  go_roundw
                  case rel => exact ⟨false, false, true, day + 1, rfl, rfl, rfl, rfl, ⟨by have := HD.out; omega, by have := HLE.out; omega⟩, HS.out.step HD.out.1 (by simp [PN, ep, eq, e1, e2]) (by simp [PB, ep, eq, e1, e2]) (by simp [PO, ep, eq, e1, e2]), uw2, l49, l54, c50, c51, c52, c53, c55, c56, c57, c58⟩
                  case measure => have := HD.out; have := HLE.out; simp [intOf]; omega
                ·
                  go_wp2_with fail
                  refine (HB.out _ (day - 1) HD1.out).mono ?_
                  rintro e w1 ⟨rfl, qw1⟩
                  have l39 := Nat.lt_of_lt_of_le l37 qw1.size
                  have c40 := qw1.cell c27
                  have c41 := qw1.cell c28
                  have c42 := qw1.cell c29
                  have c43 := qw1.cell c30
                  have l44 := Nat.lt_of_lt_of_le l38 qw1.size
                  have c45 := qw1.cell c31
                  have c46 := qw1.cell c32
                  have c47 := qw1.cell c33
                  have c48 := qw1.cell c34
                  clear l37 c27 c28 c29 c30 l38 c31 c32 c33 c34
                  have uw1 := vuf35.trans qw1
                  clear qw1 vuf35
                  go_wp2_with fail
                  refine (HB.out _ (day + 1) HD2.out).mono ?_
                  rintro e w2 ⟨rfl, qw2⟩
                  have l49 := Nat.lt_of_lt_of_le l39 qw2.size
                  have c50 := qw2.cell c40
                  have c51 := qw2.cell c41
                  have c52 := qw2.cell c42
                  have c53 := qw2.cell c43
                  have l54 := Nat.lt_of_lt_of_le l44 qw2.size
                  have c55 := qw2.cell c45
                  have c56 := qw2.cell c46
                  have c57 := qw2.cell c47
                  have c58 := qw2.cell c48
                  clear l39 c40 c41 c42 c43 l44 c45 c46 c47 c48
                  have uw2 := uw1.trans qw2
                  clear qw2 uw1
                  go_wp2_with fail
                  go_roundw
                  case rel => exact ⟨false, true, false, day + 1, rfl, rfl, rfl, rfl, ⟨by have := HD.out; omega, by have := HLE.out; omega⟩, HS.out.step HD.out.1 (by simp [PN, ep, eq, e1, e2]) (by simp [PB, ep, eq, e1, e2]) (by simp [PO, ep, eq, e1, e2]), uw2, l49, l54, c50, c51, c52, c53, c55, c56, c57, c58⟩
                  case measure => have := HD.out; have := HLE.out; simp [intOf]; omega
                ·
                  go_wp2_with fail
                  refine (HB.out _ (day - 1) HD1.out).mono ?_
                  rintro e w1 ⟨rfl, qw1⟩
                  have l39 := Nat.lt_of_lt_of_le l37 qw1.size
                  have c40 := qw1.cell c27
                  have c41 := qw1.cell c28
                  have c42 := qw1.cell c29
                  have c43 := qw1.cell c30
                  have l44 := Nat.lt_of_lt_of_le l38 qw1.size
                  have c45 := qw1.cell c31
                  have c46 := qw1.cell c32
                  have c47 := qw1.cell c33
                  have c48 := qw1.cell c34
                  clear l37 c27 c28 c29 c30 l38 c31 c32 c33 c34
                  have uw1 := vuf35.trans qw1
                  clear qw1 vuf35
                  go_wp2_with fail
                  refine (HB.out _ (day + 1) HD2.out).mono ?_
                  rintro e w2 ⟨rfl, qw2⟩
                  have l49 := Nat.lt_of_lt_of_le l39 qw2.size
                  have c50 := qw2.cell c40
                  have c51 := qw2.cell c41
                  have c52 := qw2.cell c42
                  have c53 := qw2.cell c43
                  have l54 := Nat.lt_of_lt_of_le l44 qw2.size
                  have c55 := qw2.cell c45
                  have c56 := qw2.cell c46
                  have c57 := qw2.cell c47
                  have c58 := qw2.cell c48
                  clear l39 c40 c41 c42 c43 l44 c45 c46 c47 c48
                  have uw2 := uw1.trans qw2
                  clear qw2 uw1
                  go_wp2_with fail
                  go_roundw
                  case rel => exact ⟨false, false, true, day + 1, rfl, rfl, rfl, rfl, ⟨by have := HD.out; omega, by have := HLE.out; omega⟩, HS.out.step HD.out.1 (by simp [PN, ep, eq, e1, e2]) (by simp [PB, ep, eq, e1, e2]) (by simp [PO, ep, eq, e1, e2]), uw2, l49, l54, c50, c51, c52, c53, c55, c56, c57, c58⟩
                  case measure => have := HD.out; have := HLE.out; simp [intOf]; omega
                ·
                  go_wp2_with fail
                  refine (HB.out _ (day - 1) HD1.out).mono ?_
                  rintro e w1 ⟨rfl, qw1⟩
                  have l39 := Nat.lt_of_lt_of_le l37 qw1.size
                  have c40 := qw1.cell c27
                  have c41 := qw1.cell c28
                  have c42 := qw1.cell c29
                  have c43 := qw1.cell c30
                  have l44 := Nat.lt_of_lt_of_le l38 qw1.size
                  have c45 := qw1.cell c31
                  have c46 := qw1.cell c32
                  have c47 := qw1.cell c33
                  have c48 := qw1.cell c34
                  clear l37 c27 c28 c29 c30 l38 c31 c32 c33 c34
                  have uw1 := vuf35.trans qw1
                  clear qw1 vuf35
                  go_wp2_with fail
                  refine (HB.out _ (day + 1) HD2.out).mono ?_
                  rintro e w2 ⟨rfl, qw2⟩
                  have l49 := Nat.lt_of_lt_of_le l39 qw2.size
                  have c50 := qw2.cell c40
                  have c51 := qw2.cell c41
                  have c52 := qw2.cell c42
                  have c53 := qw2.cell c43
                  have l54 := Nat.lt_of_lt_of_le l44 qw2.size
                  have c55 := qw2.cell c45
                  have c56 := qw2.cell c46
                  have c57 := qw2.cell c47
                  have c58 := qw2.cell c48
                  clear l39 c40 c41 c42 c43 l44 c45 c46 c47 c48
                  have uw2 := uw1.trans qw2
                  clear qw2 uw1
                  go_wp2_with fail
                  go_roundw
                  case rel => exact ⟨false, true, true, day + 1, rfl, rfl, rfl, rfl, ⟨by have := HD.out; omega, by have := HLE.out; omega⟩, HS.out.step HD.out.1 (by simp [PN, ep, eq, e1, e2]) (by simp [PB, ep, eq, e1, e2]) (by simp [PO, ep, eq, e1, e2]), uw2, l49, l54, c50, c51, c52, c53, c55, c56, c57, c58⟩
                  case measure => have := HD.out; have := HLE.out; simp [intOf]; omega
                ·
                  go_wp2_with fail
                  refine (HB.out _ (day - 1) HD1.out).mono ?_
                  rintro e w1 ⟨rfl, qw1⟩
                  have l39 := Nat.lt_of_lt_of_le l37 qw1.size
                  have c40 := qw1.cell c27
                  have c41 := qw1.cell c28
                  have c42 := qw1.cell c29
                  have c43 := qw1.cell c30
                  have l44 := Nat.lt_of_lt_of_le l38 qw1.size
                  have c45 := qw1.cell c31
                  have c46 := qw1.cell c32
                  have c47 := qw1.cell c33
                  have c48 := qw1.cell c34
                  clear l37 c27 c28 c29 c30 l38 c31 c32 c33 c34
                  have uw1 := vuf35.trans qw1
                  clear qw1 vuf35
                  go_wp2_with fail
                  refine (HB.out _ (day + 1) HD2.out).mono ?_
                  rintro e w2 ⟨rfl, qw2⟩
                  have l49 := Nat.lt_of_lt_of_le l39 qw2.size
                  have c50 := qw2.cell c40
                  have c51 := qw2.cell c41
                  have c52 := qw2.cell c42
                  have c53 := qw2.cell c43
                  have l54 := Nat.lt_of_lt_of_le l44 qw2.size
                  have c55 := qw2.cell c45
                  have c56 := qw2.cell c46
                  have c57 := qw2.cell c47
                  have c58 := qw2.cell c48
                  clear l39 c40 c41 c42 c43 l44 c45 c46 c47 c48
                  have uw2 := uw1.trans qw2
                  clear qw2 uw1
                  go_wp2_with fail
                  go_roundw
                  case rel => exact ⟨false, true, true, day + 1, rfl, rfl, rfl, rfl, ⟨by have := HD.out; omega, by have := HLE.out; omega⟩, HS.out.step HD.out.1 (by simp [PN, ep, eq, e1, e2]) (by simp [PB, ep, eq, e1, e2]) (by simp [PO, ep, eq, e1, e2]), uw2, l49, l54, c50, c51, c52, c53, c55, c56, c57, c58⟩
                  case measure => have := HD.out; have := HLE.out; simp [intOf]; omega
                ·
                  go_wp2_with fail
                  refine (HB.out _ (day - 1) HD1.out).mono ?_
                  rintro e w1 ⟨rfl, qw1⟩
                  have l39 := Nat.lt_of_lt_of_le l37 qw1.size
                  have c40 := qw1.cell c27
                  have c41 := qw1.cell c28
                  have c42 := qw1.cell c29
                  have c43 := qw1.cell c30
                  have l44 := Nat.lt_of_lt_of_le l38 qw1.size
                  have c45 := qw1.cell c31
                  have c46 := qw1.cell c32
                  have c47 := qw1.cell c33
                  have c48 := qw1.cell c34
                  clear l37 c27 c28 c29 c30 l38 c31 c32 c33 c34
                  have uw1 := vuf35.trans qw1
                  clear qw1 vuf35
                  go_wp2_with fail
                  refine (HB.out _ (day + 1) HD2.out).mono ?_
                  rintro e w2 ⟨rfl, qw2⟩
                  have l49 := Nat.lt_of_lt_of_le l39 qw2.size
                  have c50 := qw2.cell c40
                  have c51 := qw2.cell c41
                  have c52 := qw2.cell c42
                  have c53 := qw2.cell c43
                  have l54 := Nat.lt_of_lt_of_le l44 qw2.size
                  have c55 := qw2.cell c45
                  have c56 := qw2.cell c46
                  have c57 := qw2.cell c47
                  have c58 := qw2.cell c48
                  clear l39 c40 c41 c42 c43 l44 c45 c46 c47 c48
                  have uw2 := uw1.trans qw2
                  clear qw2 uw1
                  go_wp2_with fail
                  go_roundw
                  case rel => exact ⟨false, true, false, day + 1, rfl, rfl, rfl, rfl, ⟨by have := HD.out; omega, by have := HLE.out; omega⟩, HS.out.step HD.out.1 (by simp [PN, ep, eq, e1, e2]) (by simp [PB, ep, eq, e1, e2]) (by simp [PO, ep, eq, e1, e2]), uw2, l49, l54, c50, c51, c52, c53, c55, c56, c57, c58⟩
                  case measure => have := HD.out; have := HLE.out; simp [intOf]; omega
                ·
                  go_wp2_with fail
                  refine (HB.out _ (day - 1) HD1.out).mono ?_
                  rintro e w1 ⟨rfl, qw1⟩
                  have l39 := Nat.lt_of_lt_of_le l37 qw1.size
                  have c40 := qw1.cell c27
                  have c41 := qw1.cell c28
                  have c42 := qw1.cell c29
                  have c43 := qw1.cell c30
                  have l44 := Nat.lt_of_lt_of_le l38 qw1.size
                  have c45 := qw1.cell c31
                  have c46 := qw1.cell c32
                  have c47 := qw1.cell c33
                  have c48 := qw1.cell c34
                  clear l37 c27 c28 c29 c30 l38 c31 c32 c33 c34
                  have uw1 := vuf35.trans qw1
                  clear qw1 vuf35
                  go_wp2_with fail
                  refine (HB.out _ (day + 1) HD2.out).mono ?_
                  rintro e w2 ⟨rfl, qw2⟩
                  have l49 := Nat.lt_of_lt_of_le l39 qw2.size
                  have c50 := qw2.cell c40
                  have c51 := qw2.cell c41
                  have c52 := qw2.cell c42
                  have c53 := qw2.cell c43
                  have l54 := Nat.lt_of_lt_of_le l44 qw2.size
                  have c55 := qw2.cell c45
                  have c56 := qw2.cell c46
                  have c57 := qw2.cell c47
                  have c58 := qw2.cell c48
                  clear l39 c40 c41 c42 c43 l44 c45 c46 c47 c48
                  have uw2 := uw1.trans qw2
                  clear qw2 uw1
                  go_wp2_with fail
                  go_roundw
                  case rel => exact ⟨false, true, true, day + 1, rfl, rfl, rfl, rfl, ⟨by have := HD.out; omega, by have := HLE.out; omega⟩, HS.out.step HD.out.1 (by simp [PN, ep, eq, e1, e2]) (by simp [PB, ep, eq, e1, e2]) (by simp [PO, ep, eq, e1, e2]), uw2, l49, l54, c50, c51, c52, c53, c55, c56, c57, c58⟩
                  case measure => have := HD.out; have := HLE.out; simp [intOf]; omega
                ·
                  go_wp2_with fail
                  refine (HB.out _ (day - 1) HD1.out).mono ?_
                  rintro e w1 ⟨rfl, qw1⟩
                  have l39 := Nat.lt_of_lt_of_le l37 qw1.size
                  have c40 := qw1.cell c27
                  have c41 := qw1.cell c28
                  have c42 := qw1.cell c29
                  have c43 := qw1.cell c30
                  have l44 := Nat.lt_of_lt_of_le l38 qw1.size
                  have c45 := qw1.cell c31
                  have c46 := qw1.cell c32
                  have c47 := qw1.cell c33
                  have c48 := qw1.cell c34
                  clear l37 c27 c28 c29 c30 l38 c31 c32 c33 c34
                  have uw1 := vuf35.trans qw1
                  clear qw1 vuf35
                  go_wp2_with fail
                  refine (HB.out _ (day + 1) HD2.out).mono ?_
                  rintro e w2 ⟨rfl, qw2⟩
                  have l49 := Nat.lt_of_lt_of_le l39 qw2.size
                  have c50 := qw2.cell c40
                  have c51 := qw2.cell c41
                  have c52 := qw2.cell c42
                  have c53 := qw2.cell c43
                  have l54 := Nat.lt_of_lt_of_le l44 qw2.size
                  have c55 := qw2.cell c45
                  have c56 := qw2.cell c46
                  have c57 := qw2.cell c47
                  have c58 := qw2.cell c48
                  clear l39 c40 c41 c42 c43 l44 c45 c46 c47 c48
                  have uw2 := uw1.trans qw2
                  clear qw2 uw1
                  go_wp2_with fail
                  go_roundw
                  case rel => exact ⟨false, true, true, day + 1, rfl, rfl, rfl, rfl, ⟨by have := HD.out; omega, by have := HLE.out; omega⟩, HS.out.step HD.out.1 (by simp [PN, ep, eq, e1, e2]) (by simp [PB, ep, eq, e1, e2]) (by simp [PO, ep, eq, e1, e2]), uw2, l49, l54, c50, c51, c52, c53, c55, c56, c57, c58⟩
                  case measure => have := HD.out; have := HLE.out; simp [intOf]; omega
                ·
                  go_wp2_with fail
                  refine (HB.out _ (day - 1) HD1.out).mono ?_
                  rintro e w1 ⟨rfl, qw1⟩
                  have l39 := Nat.lt_of_lt_of_le l37 qw1.size
                  have c40 := qw1.cell c27
                  have c41 := qw1.cell c28
                  have c42 := qw1.cell c29
                  have c43 := qw1.cell c30
                  have l44 := Nat.lt_of_lt_of_le l38 qw1.size
                  have c45 := qw1.cell c31
                  have c46 := qw1.cell c32
                  have c47 := qw1.cell c33
                  have c48 := qw1.cell c34
                  clear l37 c27 c28 c29 c30 l38 c31 c32 c33 c34
                  have uw1 := vuf35.trans qw1
                  clear qw1 vuf35
                  go_wp2_with fail
                  refine (HB.out _ (day + 1) HD2.out).mono ?_
                  rintro e w2 ⟨rfl, qw2⟩
                  have l49 := Nat.lt_of_lt_of_le l39 qw2.size
                  have c50 := qw2.cell c40
                  have c51 := qw2.cell c41
                  have c52 := qw2.cell c42
                  have c53 := qw2.cell c43
                  have l54 := Nat.lt_of_lt_of_le l44 qw2.size
                  have c55 := qw2.cell c45
                  have c56 := qw2.cell c46
                  have c57 := qw2.cell c47
                  have c58 := qw2.cell c48
                  clear l39 c40 c41 c42 c43 l44 c45 c46 c47 c48
                  have uw2 := uw1.trans qw2
                  clear qw2 uw1
                  go_wp2_with fail
                  go_roundw
                  case rel => exact ⟨true, false, true, day + 1, rfl, rfl, rfl, rfl, ⟨by have := HD.out; omega, by have := HLE.out; omega⟩, HS.out.step HD.out.1 (by simp [PN, ep, eq, e1, e2]) (by simp [PB, ep, eq, e1, e2]) (by simp [PO, ep, eq, e1, e2]), uw2, l49, l54, c50, c51, c52, c53, c55, c56, c57, c58⟩
                  case measure => have := HD.out; have := HLE.out; simp [intOf]; omega
                ·
                  go_wp2_with fail
                  refine (HB.out _ (day - 1) HD1.out).mono ?_
                  rintro e w1 ⟨rfl, qw1⟩
                  have l39 := Nat.lt_of_lt_of_le l37 qw1.size
                  have c40 := qw1.cell c27
                  have c41 := qw1.cell c28
                  have c42 := qw1.cell c29
                  have c43 := qw1.cell c30
                  have l44 := Nat.lt_of_lt_of_le l38 qw1.size
                  have c45 := qw1.cell c31
                  have c46 := qw1.cell c32
                  have c47 := qw1.cell c33
                  have c48 := qw1.cell c34
                  clear l37 c27 c28 c29 c30 l38 c31 c32 c33 c34
                  have uw1 := vuf35.trans qw1
                  clear qw1 vuf35
                  go_wp2_with fail
                  refine (HB.out _ (day + 1) HD2.out).mono ?_
                  rintro e w2 ⟨rfl, qw2⟩
                  have l49 := Nat.lt_of_lt_of_le l39 qw2.size
                  have c50 := qw2.cell c40
                  have c51 := qw2.cell c41
                  have c52 := qw2.cell c42
                  have c53 := qw2.cell c43
                  have l54 := Nat.lt_of_lt_of_le l44 qw2.size
                  have c55 := qw2.cell c45
                  have c56 := qw2.cell c46
                  have c57 := qw2.cell c47
                  have c58 := qw2.cell c48
                  clear l39 c40 c41 c42 c43 l44 c45 c46 c47 c48
                  have uw2 := uw1.trans qw2
                  clear qw2 uw1
                  go_wp2_with fail
                  go_roundw
                  case rel => exact ⟨true, true, false, day + 1, rfl, rfl, rfl, rfl, ⟨by have := HD.out; omega, by have := HLE.out; omega⟩, HS.out.step HD.out.1 (by simp [PN, ep, eq, e1, e2]) (by simp [PB, ep, eq, e1, e2]) (by simp [PO, ep, eq, e1, e2]), uw2, l49, l54, c50, c51, c52, c53, c55, c56, c57, c58⟩
                  case measure => have := HD.out; have := HLE.out; simp [intOf]; omega
                ·
                  go_wp2_with fail
                  refine (HB.out _ (day - 1) HD1.out).mono ?_
                  rintro e w1 ⟨rfl, qw1⟩
                  have l39 := Nat.lt_of_lt_of_le l37 qw1.size
                  have c40 := qw1.cell c27
                  have c41 := qw1.cell c28
                  have c42 := qw1.cell c29
                  have c43 := qw1.cell c30
                  have l44 := Nat.lt_of_lt_of_le l38 qw1.size
                  have c45 := qw1.cell c31
                  have c46 := qw1.cell c32
                  have c47 := qw1.cell c33
                  have c48 := qw1.cell c34
                  clear l37 c27 c28 c29 c30 l38 c31 c32 c33 c34
                  have uw1 := vuf35.trans qw1
                  clear qw1 vuf35
                  go_wp2_with fail
                  refine (HB.out _ (day + 1) HD2.out).mono ?_
                  rintro e w2 ⟨rfl, qw2⟩
                  have l49 := Nat.lt_of_lt_of_le l39 qw2.size
                  have c50 := qw2.cell c40
                  have c51 := qw2.cell c41
                  have c52 := qw2.cell c42
                  have c53 := qw2.cell c43
                  have l54 := Nat.lt_of_lt_of_le l44 qw2.size
                  have c55 := qw2.cell c45
                  have c56 := qw2.cell c46
                  have c57 := qw2.cell c47
                  have c58 := qw2.cell c48
                  clear l39 c40 c41 c42 c43 l44 c45 c46 c47 c48
                  have uw2 := uw1.trans qw2
                  clear qw2 uw1
                  go_wp2_with fail
                  go_roundw
                  case rel => exact ⟨true, false, true, day + 1, rfl, rfl, rfl, rfl, ⟨by have := HD.out; omega, by have := HLE.out; omega⟩, HS.out.step HD.out.1 (by simp [PN, ep, eq, e1, e2]) (by simp [PB, ep, eq, e1, e2]) (by simp [PO, ep, eq, e1, e2]), uw2, l49, l54, c50, c51, c52, c53, c55, c56, c57, c58⟩
                  case measure => have := HD.out; have := HLE.out; simp [intOf]; omega
                ·
                  go_wp2_with fail
                  refine (HB.out _ (day - 1) HD1.out).mono ?_
                  rintro e w1 ⟨rfl, qw1⟩
                  have l39 := Nat.lt_of_lt_of_le l37 qw1.size
                  have c40 := qw1.cell c27
                  have c41 := qw1.cell c28
                  have c42 := qw1.cell c29
                  have c43 := qw1.cell c30
                  have l44 := Nat.lt_of_lt_of_le l38 qw1.size
                  have c45 := qw1.cell c31
                  have c46 := qw1.cell c32
                  have c47 := qw1.cell c33
                  have c48 := qw1.cell c34
                  clear l37 c27 c28 c29 c30 l38 c31 c32 c33 c34
                  have uw1 := vuf35.trans qw1
                  clear qw1 vuf35
                  go_wp2_with fail
                  refine (HB.out _ (day + 1) HD2.out).mono ?_
                  rintro e w2 ⟨rfl, qw2⟩
                  have l49 := Nat.lt_of_lt_of_le l39 qw2.size
                  have c50 := qw2.cell c40
                  have c51 := qw2.cell c41
                  have c52 := qw2.cell c42
                  have c53 := qw2.cell c43
                  have l54 := Nat.lt_of_lt_of_le l44 qw2.size
                  have c55 := qw2.cell c45
                  have c56 := qw2.cell c46
                  have c57 := qw2.cell c47
                  have c58 := qw2.cell c48
                  clear l39 c40 c41 c42 c43 l44 c45 c46 c47 c48
                  have uw2 := uw1.trans qw2
                  clear qw2 uw1
                  go_wp2_with fail
                  go_roundw
                  case rel => exact ⟨true, true, true, day + 1, rfl, rfl, rfl, rfl, ⟨by have := HD.out; omega, by have := HLE.out; omega⟩, HS.out.step HD.out.1 (by simp [PN, ep, eq, e1, e2]) (by simp [PB, ep, eq, e1, e2]) (by simp [PO, ep, eq, e1, e2]), uw2, l49, l54, c50, c51, c52, c53, c55, c56, c57, c58⟩
                  case measure => have := HD.out; have := HLE.out; simp [intOf]; omega
                ·
                  go_wp2_with fail
                  refine (HB.out _ (day - 1) HD1.out).mono ?_
                  rintro e w1 ⟨rfl, qw1⟩
                  have l39 := Nat.lt_of_lt_of_le l37 qw1.size
                  have c40 := qw1.cell c27
                  have c41 := qw1.cell c28
                  have c42 := qw1.cell c29
                  have c43 := qw1.cell c30
                  have l44 := Nat.lt_of_lt_of_le l38 qw1.size
                  have c45 := qw1.cell c31
                  have c46 := qw1.cell c32
                  have c47 := qw1.cell c33
                  have c48 := qw1.cell c34
                  clear l37 c27 c28 c29 c30 l38 c31 c32 c33 c34
                  have uw1 := vuf35.trans qw1
                  clear qw1 vuf35
                  go_wp2_with fail
                  refine (HB.out _ (day + 1) HD2.out).mono ?_
                  rintro e w2 ⟨rfl, qw2⟩
                  have l49 := Nat.lt_of_lt_of_le l39 qw2.size
                  have c50 := qw2.cell c40
                  have c51 := qw2.cell c41
                  have c52 := qw2.cell c42
                  have c53 := qw2.cell c43
                  have l54 := Nat.lt_of_lt_of_le l44 qw2.size
                  have c55 := qw2.cell c45
                  have c56 := qw2.cell c46
                  have c57 := qw2.cell c47
                  have c58 := qw2.cell c48
                  clear l39 c40 c41 c42 c43 l44 c45 c46 c47 c48
                  have uw2 := uw1.trans qw2
                  clear qw2 uw1
                  go_wp2_with fail
                  go_roundw
                  case rel => exact ⟨true, true, true, day + 1, rfl, rfl, rfl, rfl, ⟨by have := HD.out; omega, by have := HLE.out; omega⟩, HS.out.step HD.out.1 (by simp [PN, ep, eq, e1, e2]) (by simp [PB, ep, eq, e1, e2]) (by simp [PO, ep, eq, e1, e2]), uw2, l49, l54, c50, c51, c52, c53, c55, c56, c57, c58⟩
                  case measure => have := HD.out; have := HLE.out; simp [intOf]; omega
                ·
                  go_wp2_with fail
                  refine (HB.out _ (day - 1) HD1.out).mono ?_
                  rintro e w1 ⟨rfl, qw1⟩
                  have l39 := Nat.lt_of_lt_of_le l37 qw1.size
                  have c40 := qw1.cell c27
                  have c41 := qw1.cell c28
                  have c42 := qw1.cell c29
                  have c43 := qw1.cell c30
                  have l44 := Nat.lt_of_lt_of_le l38 qw1.size
                  have c45 := qw1.cell c31
                  have c46 := qw1.cell c32
                  have c47 := qw1.cell c33
                  have c48 := qw1.cell c34
                  clear l37 c27 c28 c29 c30 l38 c31 c32 c33 c34
                  have uw1 := vuf35.trans qw1
                  clear qw1 vuf35
                  go_wp2_with fail
                  refine (HB.out _ (day + 1) HD2.out).mono ?_
                  rintro e w2 ⟨rfl, qw2⟩
                  have l49 := Nat.lt_of_lt_of_le l39 qw2.size
                  have c50 := qw2.cell c40
                  have c51 := qw2.cell c41
                  have c52 := qw2.cell c42
                  have c53 := qw2.cell c43
                  have l54 := Nat.lt_of_lt_of_le l44 qw2.size
                  have c55 := qw2.cell c45
                  have c56 := qw2.cell c46
                  have c57 := qw2.cell c47
                  have c58 := qw2.cell c48
                  clear l39 c40 c41 c42 c43 l44 c45 c46 c47 c48
                  have uw2 := uw1.trans qw2
                  clear qw2 uw1
                  go_wp2_with fail
                  go_roundw
                  case rel => exact ⟨true, true, false, day + 1, rfl, rfl, rfl, rfl, ⟨by have := HD.out; omega, by have := HLE.out; omega⟩, HS.out.step HD.out.1 (by simp [PN, ep, eq, e1, e2]) (by simp [PB, ep, eq, e1, e2]) (by simp [PO, ep, eq, e1, e2]), uw2, l49, l54, c50, c51, c52, c53, c55, c56, c57, c58⟩
                  case measure => have := HD.out; have := HLE.out; simp [intOf]; omega
                ·
                  go_wp2_with fail
                  refine (HB.out _ (day - 1) HD1.out).mono ?_
                  rintro e w1 ⟨rfl, qw1⟩
                  have l39 := Nat.lt_of_lt_of_le l37 qw1.size
                  have c40 := qw1.cell c27
                  have c41 := qw1.cell c28
                  have c42 := qw1.cell c29
                  have c43 := qw1.cell c30
                  have l44 := Nat.lt_of_lt_of_le l38 qw1.size
                  have c45 := qw1.cell c31
                  have c46 := qw1.cell c32
                  have c47 := qw1.cell c33
                  have c48 := qw1.cell c34
                  clear l37 c27 c28 c29 c30 l38 c31 c32 c33 c34
                  have uw1 := vuf35.trans qw1
                  clear qw1 vuf35
                  go_wp2_with fail
                  refine (HB.out _ (day + 1) HD2.out).mono ?_
                  rintro e w2 ⟨rfl, qw2⟩
                  have l49 := Nat.lt_of_lt_of_le l39 qw2.size
                  have c50 := qw2.cell c40
                  have c51 := qw2.cell c41
                  have c52 := qw2.cell c42
                  have c53 := qw2.cell c43
                  have l54 := Nat.lt_of_lt_of_le l44 qw2.size
                  have c55 := qw2.cell c45
                  have c56 := qw2.cell c46
                  have c57 := qw2.cell c47
                  have c58 := qw2.cell c48
                  clear l39 c40 c41 c42 c43 l44 c45 c46 c47 c48
                  have uw2 := uw1.trans qw2
                  clear qw2 uw1
                  go_wp2_with fail
                  go_roundw
                  case rel => exact ⟨true, true, true, day + 1, rfl, rfl, rfl, rfl, ⟨by have := HD.out; omega, by have := HLE.out; omega⟩, HS.out.step HD.out.1 (by simp [PN, ep, eq, e1, e2]) (by simp [PB, ep, eq, e1, e2]) (by simp [PO, ep, eq, e1, e2]), uw2, l49, l54, c50, c51, c52, c53, c55, c56, c57, c58⟩
                  case measure => have := HD.out; have := HLE.out; simp [intOf]; omega
                ·
                  go_wp2_with fail
                  refine (HB.out _ (day - 1) HD1.out).mono ?_
                  rintro e w1 ⟨rfl, qw1⟩
                  have l39 := Nat.lt_of_lt_of_le l37 qw1.size
                  have c40 := qw1.cell c27
                  have c41 := qw1.cell c28
                  have c42 := qw1.cell c29
                  have c43 := qw1.cell c30
                  have l44 := Nat.lt_of_lt_of_le l38 qw1.size
                  have c45 := qw1.cell c31
                  have c46 := qw1.cell c32
                  have c47 := qw1.cell c33
                  have c48 := qw1.cell c34
                  clear l37 c27 c28 c29 c30 l38 c31 c32 c33 c34
                  have uw1 := vuf35.trans qw1
                  clear qw1 vuf35
                  go_wp2_with fail
                  refine (HB.out _ (day + 1) HD2.out).mono ?_
                  rintro e w2 ⟨rfl, qw2⟩
                  have l49 := Nat.lt_of_lt_of_le l39 qw2.size
                  have c50 := qw2.cell c40
                  have c51 := qw2.cell c41
                  have c52 := qw2.cell c42
                  have c53 := qw2.cell c43
                  have l54 := Nat.lt_of_lt_of_le l44 qw2.size
                  have c55 := qw2.cell c45
                  have c56 := qw2.cell c46
                  have c57 := qw2.cell c47
                  have c58 := qw2.cell c48
                  clear l39 c40 c41 c42 c43 l44 c45 c46 c47 c48
                  have uw2 := uw1.trans qw2
                  clear qw2 uw1
                  go_wp2_with fail
                  go_roundw
                  case rel => exact ⟨true, true, true, day + 1, rfl, rfl, rfl, rfl, ⟨by have := HD.out; omega, by have := HLE.out; omega⟩, HS.out.step HD.out.1 (by simp [PN, ep, eq, e1, e2]) (by simp [PB, ep, eq, e1, e2]) (by simp [PO, ep, eq, e1, e2]), uw2, l49, l54, c50, c51, c52, c53, c55, c56, c57, c58⟩
                  case measure => have := HD.out; have := HLE.out; simp [intOf]; omega
              · clear e2
                cases both <;> cases out <;> cases q
                ·
                  go_wp2_with fail
                  refine (HB.out _ (day - 1) HD1.out).mono ?_
                  rintro e w1 ⟨rfl, qw1⟩
                  have l39 := Nat.lt_of_lt_of_le l37 qw1.size
                  have c40 := qw1.cell c27
                  have c41 := qw1.cell c28
                  have c42 := qw1.cell c29
                  have c43 := qw1.cell c30
                  have l44 := Nat.lt_of_lt_of_le l38 qw1.size
                  have c45 := qw1.cell c31
                  have c46 := qw1.cell c32
                  have c47 := qw1.cell c33
                  have c48 := qw1.cell c34
                  clear l37 c27 c28 c29 c30 l38 c31 c32 c33 c34
                  have uw1 := vuf35.trans qw1
                  clear qw1 vuf35
                  go_wp2_with fail
                  go_roundw
                  case rel => exact ⟨true, false, true, day + 1, rfl, rfl, rfl, rfl, ⟨by have := HD.out; omega, by have := HLE.out; omega⟩, HS.out.step HD.out.1 (by simp [PN, ep, eq, e1]) (by simp [PB, ep, eq, e1]) (by simp [PO, ep, eq, e1]), uw1, l39, l44, c40, c41, c42, c43, c45, c46, c47, c48⟩
                  case measure => have := HD.out; have := HLE.out; simp [intOf]; omega
                ·
                  go_wp2_with fail
                  refine (HB.out _ (day - 1) HD1.out).mono ?_
                  rintro e w1 ⟨rfl, qw1⟩
                  have l39 := Nat.lt_of_lt_of_le l37 qw1.size
                  have c40 := qw1.cell c27
                  have c41 := qw1.cell c28
                  have c42 := qw1.cell c29
                  have c43 := qw1.cell c30
                  have l44 := Nat.lt_of_lt_of_le l38 qw1.size
                  have c45 := qw1.cell c31
                  have c46 := qw1.cell c32
                  have c47 := qw1.cell c33
                  have c48 := qw1.cell c34
                  clear l37 c27 c28 c29 c30 l38 c31 c32 c33 c34
                  have uw1 := vuf35.trans qw1
                  clear qw1 vuf35
                  go_wp2_with fail
                  go_roundw
                  case rel => exact ⟨true, true, false, day + 1, rfl, rfl, rfl, rfl, ⟨by have := HD.out; omega, by have := HLE.out; omega⟩, HS.out.step HD.out.1 (by simp [PN, ep, eq, e1]) (by simp [PB, ep, eq, e1]) (by simp [PO, ep, eq, e1]), uw1, l39, l44, c40, c41, c42, c43, c45, c46, c47, c48⟩
                  case measure => have := HD.out; have := HLE.out; simp [intOf]; omega
                ·
                  go_wp2_with fail
                  refine (HB.out _ (day - 1) HD1.out).mono ?_
                  rintro e w1 ⟨rfl, qw1⟩
                  have l39 := Nat.lt_of_lt_of_le l37 qw1.size
                  have c40 := qw1.cell c27
                  have c41 := qw1.cell c28
                  have c42 := qw1.cell c29
                  have c43 := qw1.cell c30
                  have l44 := Nat.lt_of_lt_of_le l38 qw1.size
                  have c45 := qw1.cell c31
                  have c46 := qw1.cell c32
                  have c47 := qw1.cell c33
                  have c48 := qw1.cell c34
                  clear l37 c27 c28 c29 c30 l38 c31 c32 c33 c34
                  have uw1 := vuf35.trans qw1
                  clear qw1 vuf35
                  go_wp2_with fail
                  go_roundw
                  case rel => exact ⟨true, false, true, day + 1, rfl, rfl, rfl, rfl, ⟨by have := HD.out; omega, by have := HLE.out; omega⟩, HS.out.step HD.out.1 (by simp [PN, ep, eq, e1]) (by simp [PB, ep, eq, e1]) (by simp [PO, ep, eq, e1]), uw1, l39, l44, c40, c41, c42, c43, c45, c46, c47, c48⟩
                  case measure => have := HD.out; have := HLE.out; simp [intOf]; omega
                ·
                  go_wp2_with fail
                  refine (HB.out _ (day - 1) HD1.out).mono ?_
                  rintro e w1 ⟨rfl, qw1⟩
                  have l39 := Nat.lt_of_lt_of_le l37 qw1.size
                  have c40 := qw1.cell c27
                  have c41 := qw1.cell c28
                  have c42 := qw1.cell c29
                  have c43 := qw1.cell c30
                  have l44 := Nat.lt_of_lt_of_le l38 qw1.size
                  have c45 := qw1.cell c31
                  have c46 := qw1.cell c32
                  have c47 := qw1.cell c33
                  have c48 := qw1.cell c34
                  clear l37 c27 c28 c29 c30 l38 c31 c32 c33 c34
                  have uw1 := vuf35.trans qw1
                  clear qw1 vuf35
                  go_wp2_with fail
                  go_roundw
                  case rel => exact ⟨true, true, true, day + 1, rfl, rfl, rfl, rfl, ⟨by have := HD.out; omega, by have := HLE.out; omega⟩, HS.out.step HD.out.1 (by simp [PN, ep, eq, e1]) (by simp [PB, ep, eq, e1]) (by simp [PO, ep, eq, e1]), uw1, l39, l44, c40, c41, c42, c43, c45, c46, c47, c48⟩
                  case measure => have := HD.out; have := HLE.out; simp [intOf]; omega
                ·
                  go_wp2_with fail
                  refine (HB.out _ (day - 1) HD1.out).mono ?_
                  rintro e w1 ⟨rfl, qw1⟩
                  have l39 := Nat.lt_of_lt_of_le l37 qw1.size
                  have c40 := qw1.cell c27
                  have c41 := qw1.cell c28
                  have c42 := qw1.cell c29
                  have c43 := qw1.cell c30
                  have l44 := Nat.lt_of_lt_of_le l38 qw1.size
                  have c45 := qw1.cell c31
                  have c46 := qw1.cell c32
                  have c47 := qw1.cell c33
                  have c48 := qw1.cell c34
                  clear l37 c27 c28 c29 c30 l38 c31 c32 c33 c34
                  have uw1 := vuf35.trans qw1
                  clear qw1 vuf35
                  go_wp2_with fail
                  go_roundw
                  case rel => exact ⟨true, true, true, day + 1, rfl, rfl, rfl, rfl, ⟨by have := HD.out; omega, by have := HLE.out; omega⟩, HS.out.step HD.out.1 (by simp [PN, ep, eq, e1]) (by simp [PB, ep, eq, e1]) (by simp [PO, ep, eq, e1]), uw1, l39, l44, c40, c41, c42, c43, c45, c46, c47, c48⟩
                  case measure => have := HD.out; have := HLE.out; simp [intOf]; omega
                ·
                  go_wp2_with fail
                  refine (HB.out _ (day - 1) HD1.out).mono ?_
                  rintro e w1 ⟨rfl, qw1⟩
                  have l39 := Nat.lt_of_lt_of_le l37 qw1.size
                  have c40 := qw1.cell c27
                  have c41 := qw1.cell c28
                  have c42 := qw1.cell c29
                  have c43 := qw1.cell c30
                  have l44 := Nat.lt_of_lt_of_le l38 qw1.size
                  have c45 := qw1.cell c31
                  have c46 := qw1.cell c32
                  have c47 := qw1.cell c33
                  have c48 := qw1.cell c34
                  clear l37 c27 c28 c29 c30 l38 c31 c32 c33 c34
                  have uw1 := vuf35.trans qw1
                  clear qw1 vuf35
                  go_wp2_with fail
                  go_roundw
                  case rel => exact ⟨true, true, false, day + 1, rfl, rfl, rfl, rfl, ⟨by have := HD.out; omega, by have := HLE.out; omega⟩, HS.out.step HD.out.1 (by simp [PN, ep, eq, e1]) (by simp [PB, ep, eq, e1]) (by simp [PO, ep, eq, e1]), uw1, l39, l44, c40, c41, c42, c43, c45, c46, c47, c48⟩
                  case measure => have := HD.out; have := HLE.out; simp [intOf]; omega
                ·
                  go_wp2_with fail
                  refine (HB.out _ (day - 1) HD1.out).mono ?_
                  rintro e w1 ⟨rfl, qw1⟩
                  have l39 := Nat.lt_of_lt_of_le l37 qw1.size
                  have c40 := qw1.cell c27
                  have c41 := qw1.cell c28
                  have c42 := qw1.cell c29
                  have c43 := qw1.cell c30
                  have l44 := Nat.lt_of_lt_of_le l38 qw1.size
                  have c45 := qw1.cell c31
                  have c46 := qw1.cell c32
                  have c47 := qw1.cell c33
                  have c48 := qw1.cell c34
                  clear l37 c27 c28 c29 c30 l38 c31 c32 c33 c34
                  have uw1 := vuf35.trans qw1
                  clear qw1 vuf35
                  go_wp2_with fail
                  go_roundw
                  case rel => exact ⟨true, true, true, day + 1, rfl, rfl, rfl, rfl, ⟨by have := HD.out; omega, by have := HLE.out; omega⟩, HS.out.step HD.out.1 (by simp [PN, ep, eq, e1]) (by simp [PB, ep, eq, e1]) (by simp [PO, ep, eq, e1]), uw1, l39, l44, c40, c41, c42, c43, c45, c46, c47, c48⟩
                  case measure => have := HD.out; have := HLE.out; simp [intOf]; omega
                ·
                  go_wp2_with fail
                  refine (HB.out _ (day - 1) HD1.out).mono ?_
                  rintro e w1 ⟨rfl, qw1⟩
                  have l39 := Nat.lt_of_lt_of_le l37 qw1.size
                  have c40 := qw1.cell c27
                  have c41 := qw1.cell c28
                  have c42 := qw1.cell c29
                  have c43 := qw1.cell c30
                  have l44 := Nat.lt_of_lt_of_le l38 qw1.size
                  have c45 := qw1.cell c31
                  have c46 := qw1.cell c32
                  have c47 := qw1.cell c33
                  have c48 := qw1.cell c34
                  clear l37 c27 c28 c29 c30 l38 c31 c32 c33 c34
                  have uw1 := vuf35.trans qw1
                  clear qw1 vuf35
                  go_wp2_with fail
                  go_roundw
                  case rel => exact ⟨true, true, true, day + 1, rfl, rfl, rfl, rfl, ⟨by have := HD.out; omega, by have := HLE.out; omega⟩, HS.out.step HD.out.1 (by simp [PN, ep, eq, e1]) (by simp [PB, ep, eq, e1]) (by simp [PO, ep, eq, e1]), uw1, l39, l44, c40, c41, c42, c43, c45, c46, c47, c48⟩
                  case measure => have := HD.out; have := HLE.out; simp [intOf]; omega
            · clear e1 e2
              cases both <;> cases out <;> cases q
              ·
                go_wp2_with fail
                go_roundw
                case rel => exact ⟨true, false, true, day + 1, rfl, rfl, rfl, rfl, ⟨by have := HD.out; omega, by have := HLE.out; omega⟩, HS.out.step HD.out.1 (by simp [PN, ep, eq]) (by simp [PB, ep, eq]) (by simp [PO, ep, eq]), vuf35, l37, l38, c27, c28, c29, c30, c31, c32, c33, c34⟩
                case measure => have := HD.out; have := HLE.out; simp [intOf]; omega
              ·
                go_wp2_with fail
                go_roundw
                case rel => exact ⟨true, true, false, day + 1, rfl, rfl, rfl, rfl, ⟨by have := HD.out; omega, by have := HLE.out; omega⟩, HS.out.step HD.out.1 (by simp [PN, ep, eq]) (by simp [PB, ep, eq]) (by simp [PO, ep, eq]), vuf35, l37, l38, c27, c28, c29, c30, c31, c32, c33, c34⟩
                case measure => have := HD.out; have := HLE.out; simp [intOf]; omega
              ·
                go_wp2_with fail
                go_roundw
                case rel => exact ⟨true, false, true, day + 1, rfl, rfl, rfl, rfl, ⟨by have := HD.out; omega, by have := HLE.out; omega⟩, HS.out.step HD.out.1 (by simp [PN, ep, eq]) (by simp [PB, ep, eq]) (by simp [PO, ep, eq]), vuf35, l37, l38, c27, c28, c29, c30, c31, c32, c33, c34⟩
                case measure => have := HD.out; have := HLE.out; simp [intOf]; omega
              ·
                go_wp2_with fail
                go_roundw
                case rel => exact ⟨true, true, true, day + 1, rfl, rfl, rfl, rfl, ⟨by have := HD.out; omega, by have := HLE.out; omega⟩, HS.out.step HD.out.1 (by simp [PN, ep, eq]) (by simp [PB, ep, eq]) (by simp [PO, ep, eq]), vuf35, l37, l38, c27, c28, c29, c30, c31, c32, c33, c34⟩
                case measure => have := HD.out; have := HLE.out; simp [intOf]; omega
              ·
                go_wp2_with fail
                go_roundw
                case rel => exact ⟨true, true, true, day + 1, rfl, rfl, rfl, rfl, ⟨by have := HD.out; omega, by have := HLE.out; omega⟩, HS.out.step HD.out.1 (by simp [PN, ep, eq]) (by simp [PB, ep, eq]) (by simp [PO, ep, eq]), vuf35, l37, l38, c27, c28, c29, c30, c31, c32, c33, c34⟩
                case measure => have := HD.out; have := HLE.out; simp [intOf]; omega
              ·
                go_wp2_with fail
                go_roundw
                case rel => exact ⟨true, true, false, day + 1, rfl, rfl, rfl, rfl, ⟨by have := HD.out; omega, by have := HLE.out; omega⟩, HS.out.step HD.out.1 (by simp [PN, ep, eq]) (by simp [PB, ep, eq]) (by simp [PO, ep, eq]), vuf35, l37, l38, c27, c28, c29, c30, c31, c32, c33, c34⟩
                case measure => have := HD.out; have := HLE.out; simp [intOf]; omega
              ·
                go_wp2_with fail
                go_roundw
                case rel => exact ⟨true, true, true, day + 1, rfl, rfl, rfl, rfl, ⟨by have := HD.out; omega, by have := HLE.out; omega⟩, HS.out.step HD.out.1 (by simp [PN, ep, eq]) (by simp [PB, ep, eq]) (by simp [PO, ep, eq]), vuf35, l37, l38, c27, c28, c29, c30, c31, c32, c33, c34⟩
                case measure => have := HD.out; have := HLE.out; simp [intOf]; omega
              ·
                go_wp2_with fail
                go_roundw
                case rel => exact ⟨true, true, true, day + 1, rfl, rfl, rfl, rfl, ⟨by have := HD.out; omega, by have := HLE.out; omega⟩, HS.out.step HD.out.1 (by simp [PN, ep, eq]) (by simp [PB, ep, eq]) (by simp [PO, ep, eq]), vuf35, l37, l38, c27, c28, c29, c30, c31, c32, c33, c34⟩
                case measure => have := HD.out; have := HLE.out; simp [intOf]; omega
      ·
        obtain rfl : day = 61 := by omega
        have hS := HS.out
        obtain ⟨hT, hM, hW⟩ := HF2.out near both out hS
        clear HF2
        clear hS HS hday hle
        cases near <;> cases both <;> cases out
        ·
          obtain rfl : T = false := by simpa using hT
          obtain rfl : M = false := hM
          obtain rfl : Wn = true := by simpa using hW
          clear hT hW
          go_wp2_with fail
          refine (HJ.out _).mono ?_
          rintro e w1 ⟨rfl, qw1⟩
          have l39 := Nat.lt_of_lt_of_le l5 qw1.size
          have c40 := qw1.cell x50
          have c41 := qw1.cell x51
          have c42 := qw1.cell x52
          have c43 := qw1.cell x53
          have l44 := Nat.lt_of_lt_of_le l6 qw1.size
          have c45 := qw1.cell x60
          have c46 := qw1.cell x61
          have c47 := qw1.cell x62
          have c48 := qw1.cell x63
          clear l5 x50 x51 x52 x53 l6 x60 x61 x62 x63
          have uw1 := ud.trans qw1
          clear qw1 ud
          go_wp2_with fail
          obtain ⟨W49, hW49⟩ : ∃ W49, W49 = w1.alloc (.cells #[.int .i8 j0, .int .i64 j1, .int .i8 j2, .int .i64 j3] 29) := ⟨_, rfl⟩
          have uW49 : Dn w1 W49 := by rw [hW49]; exact (Dn.refl _).alloc _
          have l50 := Nat.lt_of_lt_of_le l39 uW49.size
          have c51 := uW49.cell c40
          have c52 := uW49.cell c41
          have c53 := uW49.cell c42
          have c54 := uW49.cell c43
          have l55 := Nat.lt_of_lt_of_le l44 uW49.size
          have c56 := uW49.cell c45
          have c57 := uW49.cell c46
          have c58 := uW49.cell c47
          have c59 := uW49.cell c48
          clear l39 c40 c41 c42 c43 l44 c45 c46 c47 c48
          have c60 : W49.cell? ⟨w1.heap.size, 0, none⟩ = some (.int .i8 j0) := by rw [hW49]; simp [go_sem]
          have c61 : W49.cell? ⟨w1.heap.size, 1, none⟩ = some (.int .i64 j1) := by rw [hW49]; simp [go_sem]
          have c62 : W49.cell? ⟨w1.heap.size, 2, none⟩ = some (.int .i8 j2) := by rw [hW49]; simp [go_sem]
          have c63 : W49.cell? ⟨w1.heap.size, 3, none⟩ = some (.int .i64 j3) := by rw [hW49]; simp [go_sem]
          have l64 : w1.heap.size < W49.heap.size := by rw [hW49]; simp <;> omega
          rw [← hW49]
          clear hW49
          have vW49 := uw1.trans uW49
          clear uW49 uw1
          refine (HC.out _).mono ?_
          rintro e w2 ⟨rfl, qw2⟩
          have l65 := Nat.lt_of_lt_of_le l50 qw2.size
          have c66 := qw2.cell c51
          have c67 := qw2.cell c52
          have c68 := qw2.cell c53
          have c69 := qw2.cell c54
          have l70 := Nat.lt_of_lt_of_le l55 qw2.size
          have c71 := qw2.cell c56
          have c72 := qw2.cell c57
          have c73 := qw2.cell c58
          have c74 := qw2.cell c59
          have l75 := Nat.lt_of_lt_of_le l64 qw2.size
          have c76 := qw2.cell c60
          have c77 := qw2.cell c61
          have c78 := qw2.cell c62
          have c79 := qw2.cell c63
          clear l50 c51 c52 c53 c54 l55 c56 c57 c58 c59 l64 c60 c61 c62 c63
          have uw2 := vW49.trans qw2
          clear qw2 vW49
          go_wp2_with fail
          obtain ⟨W80, hW80⟩ : ∃ W80, W80 = w2.alloc (.cells #[.int .i8 c0, .int .i64 c1, .int .i8 c2, .int .i64 c3] 29) := ⟨_, rfl⟩
          have uW80 : Dn w2 W80 := by rw [hW80]; exact (Dn.refl _).alloc _
          have l81 := Nat.lt_of_lt_of_le l65 uW80.size
          have c82 := uW80.cell c66
          have c83 := uW80.cell c67
          have c84 := uW80.cell c68
          have c85 := uW80.cell c69
          have l86 := Nat.lt_of_lt_of_le l70 uW80.size
          have c87 := uW80.cell c71
          have c88 := uW80.cell c72
          have c89 := uW80.cell c73
          have c90 := uW80.cell c74
          have l91 := Nat.lt_of_lt_of_le l75 uW80.size
          have c92 := uW80.cell c76
          have c93 := uW80.cell c77
          have c94 := uW80.cell c78
          have c95 := uW80.cell c79
          clear l65 c66 c67 c68 c69 l70 c71 c72 c73 c74 l75 c76 c77 c78 c79
          have c96 : W80.cell? ⟨w2.heap.size, 0, none⟩ = some (.int .i8 c0) := by rw [hW80]; simp [go_sem]
          have c97 : W80.cell? ⟨w2.heap.size, 1, none⟩ = some (.int .i64 c1) := by rw [hW80]; simp [go_sem]
          have c98 : W80.cell? ⟨w2.heap.size, 2, none⟩ = some (.int .i8 c2) := by rw [hW80]; simp [go_sem]
          have c99 : W80.cell? ⟨w2.heap.size, 3, none⟩ = some (.int .i64 c3) := by rw [hW80]; simp [go_sem]
          have l100 : w2.heap.size < W80.heap.size := by rw [hW80]; simp <;> omega
          rw [← hW80]
          clear hW80
          have vW80 := uw2.trans uW80
          clear uW80 uw2
          refine (HT.out _).mono ?_
          rintro e w3 ⟨rfl, qw3⟩
          have l101 := Nat.lt_of_lt_of_le l81 qw3.size
          have c102 := qw3.cell c82
          have c103 := qw3.cell c83
          have c104 := qw3.cell c84
          have c105 := qw3.cell c85
          have l106 := Nat.lt_of_lt_of_le l86 qw3.size
          have c107 := qw3.cell c87
          have c108 := qw3.cell c88
          have c109 := qw3.cell c89
          have c110 := qw3.cell c90
          have l111 := Nat.lt_of_lt_of_le l91 qw3.size
          have c112 := qw3.cell c92
          have c113 := qw3.cell c93
          have c114 := qw3.cell c94
          have c115 := qw3.cell c95
          have l116 := Nat.lt_of_lt_of_le l100 qw3.size
          have c117 := qw3.cell c96
          have c118 := qw3.cell c97
          have c119 := qw3.cell c98
          have c120 := qw3.cell c99
          clear l81 c82 c83 c84 c85 l86 c87 c88 c89 c90 l91 c92 c93 c94 c95 l100 c96 c97 c98 c99
          have uw3 := vW80.trans qw3
          clear qw3 vW80
          go_wp2_with fail
          refine (HW.out _).mono ?_
          rintro e w4 ⟨rfl, qw4⟩
          have l121 := Nat.lt_of_lt_of_le l101 qw4.size
          have c122 := qw4.cell c102
          have c123 := qw4.cell c103
          have c124 := qw4.cell c104
          have c125 := qw4.cell c105
          have l126 := Nat.lt_of_lt_of_le l106 qw4.size
          have c127 := qw4.cell c107
          have c128 := qw4.cell c108
          have c129 := qw4.cell c109
          have c130 := qw4.cell c110
          have l131 := Nat.lt_of_lt_of_le l111 qw4.size
          have c132 := qw4.cell c112
          have c133 := qw4.cell c113
          have c134 := qw4.cell c114
          have c135 := qw4.cell c115
          have l136 := Nat.lt_of_lt_of_le l116 qw4.size
          have c137 := qw4.cell c117
          have c138 := qw4.cell c118
          have c139 := qw4.cell c119
          have c140 := qw4.cell c120
          clear l101 c102 c103 c104 c105 l106 c107 c108 c109 c110 l111 c112 c113 c114 c115 l116 c117 c118 c119 c120
          have uw4 := uw3.trans qw4
          clear qw4 uw3
          go_wp2_with fail
          refine (lives9 _ (hE.dn uw4)).mono ?_
          rintro e w5 ⟨rfl, qw5⟩
          have l141 := Nat.lt_of_lt_of_le l121 qw5.size
          have c142 := qw5.cell c122
          have c143 := qw5.cell c123
          have c144 := qw5.cell c124
          have c145 := qw5.cell c125
          have l146 := Nat.lt_of_lt_of_le l126 qw5.size
          have c147 := qw5.cell c127
          have c148 := qw5.cell c128
          have c149 := qw5.cell c129
          have c150 := qw5.cell c130
          have l151 := Nat.lt_of_lt_of_le l131 qw5.size
          have c152 := qw5.cell c132
          have c153 := qw5.cell c133
          have c154 := qw5.cell c134
          have c155 := qw5.cell c135
          have l156 := Nat.lt_of_lt_of_le l136 qw5.size
          have c157 := qw5.cell c137
          have c158 := qw5.cell c138
          have c159 := qw5.cell c139
          have c160 := qw5.cell c140
          clear l121 c122 c123 c124 c125 l126 c127 c128 c129 c130 l131 c132 c133 c134 c135 l136 c137 c138 c139 c140
          have uw5 := uw4.trans qw5
          clear qw5 uw4
          go_wp2_with fail
          go_ret
          exact ⟨rfl, uw5⟩
        ·
          obtain rfl : T = false := by simpa using hT
          obtain rfl : M = false := hM
          obtain rfl : Wn = false := by simpa using hW
          clear hT hW
          go_wp2_with fail
          refine (HJ.out _).mono ?_
          rintro e w1 ⟨rfl, qw1⟩
          have l39 := Nat.lt_of_lt_of_le l5 qw1.size
          have c40 := qw1.cell x50
          have c41 := qw1.cell x51
          have c42 := qw1.cell x52
          have c43 := qw1.cell x53
          have l44 := Nat.lt_of_lt_of_le l6 qw1.size
          have c45 := qw1.cell x60
          have c46 := qw1.cell x61
          have c47 := qw1.cell x62
          have c48 := qw1.cell x63
          clear l5 x50 x51 x52 x53 l6 x60 x61 x62 x63
          have uw1 := ud.trans qw1
          clear qw1 ud
          go_wp2_with fail
          obtain ⟨W49, hW49⟩ : ∃ W49, W49 = w1.alloc (.cells #[.int .i8 j0, .int .i64 j1, .int .i8 j2, .int .i64 j3] 29) := ⟨_, rfl⟩
          have uW49 : Dn w1 W49 := by rw [hW49]; exact (Dn.refl _).alloc _
          have l50 := Nat.lt_of_lt_of_le l39 uW49.size
          have c51 := uW49.cell c40
          have c52 := uW49.cell c41
          have c53 := uW49.cell c42
          have c54 := uW49.cell c43
          have l55 := Nat.lt_of_lt_of_le l44 uW49.size
          have c56 := uW49.cell c45
          have c57 := uW49.cell c46
          have c58 := uW49.cell c47
          have c59 := uW49.cell c48
          clear l39 c40 c41 c42 c43 l44 c45 c46 c47 c48
          have c60 : W49.cell? ⟨w1.heap.size, 0, none⟩ = some (.int .i8 j0) := by rw [hW49]; simp [go_sem]
          have c61 : W49.cell? ⟨w1.heap.size, 1, none⟩ = some (.int .i64 j1) := by rw [hW49]; simp [go_sem]
          have c62 : W49.cell? ⟨w1.heap.size, 2, none⟩ = some (.int .i8 j2) := by rw [hW49]; simp [go_sem]
          have c63 : W49.cell? ⟨w1.heap.size, 3, none⟩ = some (.int .i64 j3) := by rw [hW49]; simp [go_sem]
          have l64 : w1.heap.size < W49.heap.size := by rw [hW49]; simp <;> omega
          rw [← hW49]
          clear hW49
          have vW49 := uw1.trans uW49
          clear uW49 uw1
          refine (HC.out _).mono ?_
          rintro e w2 ⟨rfl, qw2⟩
          have l65 := Nat.lt_of_lt_of_le l50 qw2.size
          have c66 := qw2.cell c51
          have c67 := qw2.cell c52
          have c68 := qw2.cell c53
          have c69 := qw2.cell c54
          have l70 := Nat.lt_of_lt_of_le l55 qw2.size
          have c71 := qw2.cell c56
          have c72 := qw2.cell c57
          have c73 := qw2.cell c58
          have c74 := qw2.cell c59
          have l75 := Nat.lt_of_lt_of_le l64 qw2.size
          have c76 := qw2.cell c60
          have c77 := qw2.cell c61
          have c78 := qw2.cell c62
          have c79 := qw2.cell c63
          clear l50 c51 c52 c53 c54 l55 c56 c57 c58 c59 l64 c60 c61 c62 c63
          have uw2 := vW49.trans qw2
          clear qw2 vW49
          go_wp2_with fail
          obtain ⟨W80, hW80⟩ : ∃ W80, W80 = w2.alloc (.cells #[.int .i8 c0, .int .i64 c1, .int .i8 c2, .int .i64 c3] 29) := ⟨_, rfl⟩
          have uW80 : Dn w2 W80 := by rw [hW80]; exact (Dn.refl _).alloc _
          have l81 := Nat.lt_of_lt_of_le l65 uW80.size
          have c82 := uW80.cell c66
          have c83 := uW80.cell c67
          have c84 := uW80.cell c68
          have c85 := uW80.cell c69
          have l86 := Nat.lt_of_lt_of_le l70 uW80.size
          have c87 := uW80.cell c71
          have c88 := uW80.cell c72
          have c89 := uW80.cell c73
          have c90 := uW80.cell c74
          have l91 := Nat.lt_of_lt_of_le l75 uW80.size
          have c92 := uW80.cell c76
          have c93 := uW80.cell c77
          have c94 := uW80.cell c78
          have c95 := uW80.cell c79
          clear l65 c66 c67 c68 c69 l70 c71 c72 c73 c74 l75 c76 c77 c78 c79
          have c96 : W80.cell? ⟨w2.heap.size, 0, none⟩ = some (.int .i8 c0) := by rw [hW80]; simp [go_sem]
          have c97 : W80.cell? ⟨w2.heap.size, 1, none⟩ = some (.int .i64 c1) := by rw [hW80]; simp [go_sem]
          have c98 : W80.cell? ⟨w2.heap.size, 2, none⟩ = some (.int .i8 c2) := by rw [hW80]; simp [go_sem]
          have c99 : W80.cell? ⟨w2.heap.size, 3, none⟩ = some (.int .i64 c3) := by rw [hW80]; simp [go_sem]
          have l100 : w2.heap.size < W80.heap.size := by rw [hW80]; simp <;> omega
          rw [← hW80]
          clear hW80
          have vW80 := uw2.trans uW80
          clear uW80 uw2
          refine (HT.out _).mono ?_
          rintro e w3 ⟨rfl, qw3⟩
          have l101 := Nat.lt_of_lt_of_le l81 qw3.size
          have c102 := qw3.cell c82
          have c103 := qw3.cell c83
          have c104 := qw3.cell c84
          have c105 := qw3.cell c85
          have l106 := Nat.lt_of_lt_of_le l86 qw3.size
          have c107 := qw3.cell c87
          have c108 := qw3.cell c88
          have c109 := qw3.cell c89
          have c110 := qw3.cell c90
          have l111 := Nat.lt_of_lt_of_le l91 qw3.size
          have c112 := qw3.cell c92
          have c113 := qw3.cell c93
          have c114 := qw3.cell c94
          have c115 := qw3.cell c95
          have l116 := Nat.lt_of_lt_of_le l100 qw3.size
          have c117 := qw3.cell c96
          have c118 := qw3.cell c97
          have c119 := qw3.cell c98
          have c120 := qw3.cell c99
          clear l81 c82 c83 c84 c85 l86 c87 c88 c89 c90 l91 c92 c93 c94 c95 l100 c96 c97 c98 c99
          have uw3 := vW80.trans qw3
          clear qw3 vW80
          go_wp2_with fail
          refine (HW.out _).mono ?_
          rintro e w4 ⟨rfl, qw4⟩
          have l121 := Nat.lt_of_lt_of_le l101 qw4.size
          have c122 := qw4.cell c102
          have c123 := qw4.cell c103
          have c124 := qw4.cell c104
          have c125 := qw4.cell c105
          have l126 := Nat.lt_of_lt_of_le l106 qw4.size
          have c127 := qw4.cell c107
          have c128 := qw4.cell c108
          have c129 := qw4.cell c109
          have c130 := qw4.cell c110
          have l131 := Nat.lt_of_lt_of_le l111 qw4.size
          have c132 := qw4.cell c112
          have c133 := qw4.cell c113
          have c134 := qw4.cell c114
          have c135 := qw4.cell c115
          have l136 := Nat.lt_of_lt_of_le l116 qw4.size
          have c137 := qw4.cell c117
          have c138 := qw4.cell c118
          have c139 := qw4.cell c119
          have c140 := qw4.cell c120
          clear l101 c102 c103 c104 c105 l106 c107 c108 c109 c110 l111 c112 c113 c114 c115 l116 c117 c118 c119 c120
          have uw4 := uw3.trans qw4
          clear qw4 uw3
          go_wp2_with fail
          refine (lives9 _ (hE.dn uw4)).mono ?_
          rintro e w5 ⟨rfl, qw5⟩
          have l141 := Nat.lt_of_lt_of_le l121 qw5.size
          have c142 := qw5.cell c122
          have c143 := qw5.cell c123
          have c144 := qw5.cell c124
          have c145 := qw5.cell c125
          have l146 := Nat.lt_of_lt_of_le l126 qw5.size
          have c147 := qw5.cell c127
          have c148 := qw5.cell c128
          have c149 := qw5.cell c129
          have c150 := qw5.cell c130
          have l151 := Nat.lt_of_lt_of_le l131 qw5.size
          have c152 := qw5.cell c132
          have c153 := qw5.cell c133
          have c154 := qw5.cell c134
          have c155 := qw5.cell c135
          have l156 := Nat.lt_of_lt_of_le l136 qw5.size
          have c157 := qw5.cell c137
          have c158 := qw5.cell c138
          have c159 := qw5.cell c139
          have c160 := qw5.cell c140
          clear l121 c122 c123 c124 c125 l126 c127 c128 c129 c130 l131 c132 c133 c134 c135 l136 c137 c138 c139 c140
          have uw5 := uw4.trans qw5
          clear qw5 uw4
          go_wp2_with fail
          go_ret
          exact ⟨rfl, uw5⟩
        ·
          obtain rfl : T = true := by simpa using hT
          obtain rfl : M = true := hM
          obtain rfl : Wn = true := by simpa using hW
          clear hT hW
          go_wp2_with fail
          refine (HJ.out _).mono ?_
          rintro e w1 ⟨rfl, qw1⟩
          have l39 := Nat.lt_of_lt_of_le l5 qw1.size
          have c40 := qw1.cell x50
          have c41 := qw1.cell x51
          have c42 := qw1.cell x52
          have c43 := qw1.cell x53
          have l44 := Nat.lt_of_lt_of_le l6 qw1.size
          have c45 := qw1.cell x60
          have c46 := qw1.cell x61
          have c47 := qw1.cell x62
          have c48 := qw1.cell x63
          clear l5 x50 x51 x52 x53 l6 x60 x61 x62 x63
          have uw1 := ud.trans qw1
          clear qw1 ud
          go_wp2_with fail
          obtain ⟨W49, hW49⟩ : ∃ W49, W49 = w1.alloc (.cells #[.int .i8 j0, .int .i64 j1, .int .i8 j2, .int .i64 j3] 29) := ⟨_, rfl⟩
          have uW49 : Dn w1 W49 := by rw [hW49]; exact (Dn.refl _).alloc _
          have l50 := Nat.lt_of_lt_of_le l39 uW49.size
          have c51 := uW49.cell c40
          have c52 := uW49.cell c41
          have c53 := uW49.cell c42
          have c54 := uW49.cell c43
          have l55 := Nat.lt_of_lt_of_le l44 uW49.size
          have c56 := uW49.cell c45
          have c57 := uW49.cell c46
          have c58 := uW49.cell c47
          have c59 := uW49.cell c48
          clear l39 c40 c41 c42 c43 l44 c45 c46 c47 c48
          have c60 : W49.cell? ⟨w1.heap.size, 0, none⟩ = some (.int .i8 j0) := by rw [hW49]; simp [go_sem]
          have c61 : W49.cell? ⟨w1.heap.size, 1, none⟩ = some (.int .i64 j1) := by rw [hW49]; simp [go_sem]
          have c62 : W49.cell? ⟨w1.heap.size, 2, none⟩ = some (.int .i8 j2) := by rw [hW49]; simp [go_sem]
          have c63 : W49.cell? ⟨w1.heap.size, 3, none⟩ = some (.int .i64 j3) := by rw [hW49]; simp [go_sem]
          have l64 : w1.heap.size < W49.heap.size := by rw [hW49]; simp <;> omega
          rw [← hW49]
          clear hW49
          have vW49 := uw1.trans uW49
          clear uW49 uw1
          refine (HC.out _).mono ?_
          rintro e w2 ⟨rfl, qw2⟩
          have l65 := Nat.lt_of_lt_of_le l50 qw2.size
          have c66 := qw2.cell c51
          have c67 := qw2.cell c52
          have c68 := qw2.cell c53
          have c69 := qw2.cell c54
          have l70 := Nat.lt_of_lt_of_le l55 qw2.size
          have c71 := qw2.cell c56
          have c72 := qw2.cell c57
          have c73 := qw2.cell c58
          have c74 := qw2.cell c59
          have l75 := Nat.lt_of_lt_of_le l64 qw2.size
          have c76 := qw2.cell c60
          have c77 := qw2.cell c61
          have c78 := qw2.cell c62
          have c79 := qw2.cell c63
          clear l50 c51 c52 c53 c54 l55 c56 c57 c58 c59 l64 c60 c61 c62 c63
          have uw2 := vW49.trans qw2
          clear qw2 vW49
          go_wp2_with fail
          obtain ⟨W80, hW80⟩ : ∃ W80, W80 = w2.alloc (.cells #[.int .i8 c0, .int .i64 c1, .int .i8 c2, .int .i64 c3] 29) := ⟨_, rfl⟩
          have uW80 : Dn w2 W80 := by rw [hW80]; exact (Dn.refl _).alloc _
          have l81 := Nat.lt_of_lt_of_le l65 uW80.size
          have c82 := uW80.cell c66
          have c83 := uW80.cell c67
          have c84 := uW80.cell c68
          have c85 := uW80.cell c69
          have l86 := Nat.lt_of_lt_of_le l70 uW80.size
          have c87 := uW80.cell c71
          have c88 := uW80.cell c72
          have c89 := uW80.cell c73
          have c90 := uW80.cell c74
          have l91 := Nat.lt_of_lt_of_le l75 uW80.size
          have c92 := uW80.cell c76
          have c93 := uW80.cell c77
          have c94 := uW80.cell c78
          have c95 := uW80.cell c79
          clear l65 c66 c67 c68 c69 l70 c71 c72 c73 c74 l75 c76 c77 c78 c79
          have c96 : W80.cell? ⟨w2.heap.size, 0, none⟩ = some (.int .i8 c0) := by rw [hW80]; simp [go_sem]
          have c97 : W80.cell? ⟨w2.heap.size, 1, none⟩ = some (.int .i64 c1) := by rw [hW80]; simp [go_sem]
          have c98 : W80.cell? ⟨w2.heap.size, 2, none⟩ = some (.int .i8 c2) := by rw [hW80]; simp [go_sem]
          have c99 : W80.cell? ⟨w2.heap.size, 3, none⟩ = some (.int .i64 c3) := by rw [hW80]; simp [go_sem]
          have l100 : w2.heap.size < W80.heap.size := by rw [hW80]; simp <;> omega
          rw [← hW80]
          clear hW80
          have vW80 := uw2.trans uW80
          clear uW80 uw2
          refine (HT.out _).mono ?_
          rintro e w3 ⟨rfl, qw3⟩
          have l101 := Nat.lt_of_lt_of_le l81 qw3.size
          have c102 := qw3.cell c82
          have c103 := qw3.cell c83
          have c104 := qw3.cell c84
          have c105 := qw3.cell c85
          have l106 := Nat.lt_of_lt_of_le l86 qw3.size
          have c107 := qw3.cell c87
          have c108 := qw3.cell c88
          have c109 := qw3.cell c89
          have c110 := qw3.cell c90
          have l111 := Nat.lt_of_lt_of_le l91 qw3.size
          have c112 := qw3.cell c92
          have c113 := qw3.cell c93
          have c114 := qw3.cell c94
          have c115 := qw3.cell c95
          have l116 := Nat.lt_of_lt_of_le l100 qw3.size
          have c117 := qw3.cell c96
          have c118 := qw3.cell c97
          have c119 := qw3.cell c98
          have c120 := qw3.cell c99
          clear l81 c82 c83 c84 c85 l86 c87 c88 c89 c90 l91 c92 c93 c94 c95 l100 c96 c97 c98 c99
          have uw3 := vW80.trans qw3
          clear qw3 vW80
          go_wp2_with fail
          refine (HW.out _).mono ?_
          rintro e w4 ⟨rfl, qw4⟩
          have l121 := Nat.lt_of_lt_of_le l101 qw4.size
          have c122 := qw4.cell c102
          have c123 := qw4.cell c103
          have c124 := qw4.cell c104
          have c125 := qw4.cell c105
          have l126 := Nat.lt_of_lt_of_le l106 qw4.size
          have c127 := qw4.cell c107
          have c128 := qw4.cell c108
          have c129 := qw4.cell c109
          have c130 := qw4.cell c110
          have l131 := Nat.lt_of_lt_of_le l111 qw4.size
          have c132 := qw4.cell c112
          have c133 := qw4.cell c113
          have c134 := qw4.cell c114
          have c135 := qw4.cell c115
          have l136 := Nat.lt_of_lt_of_le l116 qw4.size
          have c137 := qw4.cell c117
          have c138 := qw4.cell c118
          have c139 := qw4.cell c119
          have c140 := qw4.cell c120
          clear l101 c102 c103 c104 c105 l106 c107 c108 c109 c110 l111 c112 c113 c114 c115 l116 c117 c118 c119 c120
          have uw4 := uw3.trans qw4
          clear qw4 uw3
          go_wp2_with fail
          refine (lives9 _ (hE.dn uw4)).mono ?_
          rintro e w5 ⟨rfl, qw5⟩
          have l141 := Nat.lt_of_lt_of_le l121 qw5.size
          have c142 := qw5.cell c122
          have c143 := qw5.cell c123
          have c144 := qw5.cell c124
          have c145 := qw5.cell c125
          have l146 := Nat.lt_of_lt_of_le l126 qw5.size
          have c147 := qw5.cell c127
          have c148 := qw5.cell c128
          have c149 := qw5.cell c129
          have c150 := qw5.cell c130
          have l151 := Nat.lt_of_lt_of_le l131 qw5.size
          have c152 := qw5.cell c132
          have c153 := qw5.cell c133
          have c154 := qw5.cell c134
          have c155 := qw5.cell c135
          have l156 := Nat.lt_of_lt_of_le l136 qw5.size
          have c157 := qw5.cell c137
          have c158 := qw5.cell c138
          have c159 := qw5.cell c139
          have c160 := qw5.cell c140
          clear l121 c122 c123 c124 c125 l126 c127 c128 c129 c130 l131 c132 c133 c134 c135 l136 c137 c138 c139 c140
          have uw5 := uw4.trans qw5
          clear qw5 uw4
          go_wp2_with fail
          go_ret
          exact ⟨rfl, uw5⟩
        ·
          obtain rfl : T = true := by simpa using hT
          obtain rfl : M = true := hM
          obtain rfl : Wn = false := by simpa using hW
          clear hT hW
          go_wp2_with fail
          refine (HJ.out _).mono ?_
          rintro e w1 ⟨rfl, qw1⟩
          have l39 := Nat.lt_of_lt_of_le l5 qw1.size
          have c40 := qw1.cell x50
          have c41 := qw1.cell x51
          have c42 := qw1.cell x52
          have c43 := qw1.cell x53
          have l44 := Nat.lt_of_lt_of_le l6 qw1.size
          have c45 := qw1.cell x60
          have c46 := qw1.cell x61
          have c47 := qw1.cell x62
          have c48 := qw1.cell x63
          clear l5 x50 x51 x52 x53 l6 x60 x61 x62 x63
          have uw1 := ud.trans qw1
          clear qw1 ud
          go_wp2_with fail
          obtain ⟨W49, hW49⟩ : ∃ W49, W49 = w1.alloc (.cells #[.int .i8 j0, .int .i64 j1, .int .i8 j2, .int .i64 j3] 29) := ⟨_, rfl⟩
          have uW49 : Dn w1 W49 := by rw [hW49]; exact (Dn.refl _).alloc _
          have l50 := Nat.lt_of_lt_of_le l39 uW49.size
          have c51 := uW49.cell c40
          have c52 := uW49.cell c41
          have c53 := uW49.cell c42
          have c54 := uW49.cell c43
          have l55 := Nat.lt_of_lt_of_le l44 uW49.size
          have c56 := uW49.cell c45
          have c57 := uW49.cell c46
          have c58 := uW49.cell c47
          have c59 := uW49.cell c48
          clear l39 c40 c41 c42 c43 l44 c45 c46 c47 c48
          have c60 : W49.cell? ⟨w1.heap.size, 0, none⟩ = some (.int .i8 j0) := by rw [hW49]; simp [go_sem]
          have c61 : W49.cell? ⟨w1.heap.size, 1, none⟩ = some (.int .i64 j1) := by rw [hW49]; simp [go_sem]
          have c62 : W49.cell? ⟨w1.heap.size, 2, none⟩ = some (.int .i8 j2) := by rw [hW49]; simp [go_sem]
          have c63 : W49.cell? ⟨w1.heap.size, 3, none⟩ = some (.int .i64 j3) := by rw [hW49]; simp [go_sem]
          have l64 : w1.heap.size < W49.heap.size := by rw [hW49]; simp <;> omega
          rw [← hW49]
          clear hW49
          have vW49 := uw1.trans uW49
          clear uW49 uw1
          refine (HC.out _).mono ?_
          rintro e w2 ⟨rfl, qw2⟩
          have l65 := Nat.lt_of_lt_of_le l50 qw2.size
          have c66 := qw2.cell c51
          have c67 := qw2.cell c52
          have c68 := qw2.cell c53
          have c69 := qw2.cell c54
          have l70 := Nat.lt_of_lt_of_le l55 qw2.size
          have c71 := qw2.cell c56
          have c72 := qw2.cell c57
          have c73 := qw2.cell c58
          have c74 := qw2.cell c59
          have l75 := Nat.lt_of_lt_of_le l64 qw2.size
          have c76 := qw2.cell c60
          have c77 := qw2.cell c61
          have c78 := qw2.cell c62
          have c79 := qw2.cell c63
          clear l50 c51 c52 c53 c54 l55 c56 c57 c58 c59 l64 c60 c61 c62 c63
          have uw2 := vW49.trans qw2
          clear qw2 vW49
          go_wp2_with fail
          obtain ⟨W80, hW80⟩ : ∃ W80, W80 = w2.alloc (.cells #[.int .i8 c0, .int .i64 c1, .int .i8 c2, .int .i64 c3] 29) := ⟨_, rfl⟩
          have uW80 : Dn w2 W80 := by rw [hW80]; exact (Dn.refl _).alloc _
          have l81 := Nat.lt_of_lt_of_le l65 uW80.size
          have c82 := uW80.cell c66
          have c83 := uW80.cell c67
          have c84 := uW80.cell c68
          have c85 := uW80.cell c69
          have l86 := Nat.lt_of_lt_of_le l70 uW80.size
          have c87 := uW80.cell c71
          have c88 := uW80.cell c72
          have c89 := uW80.cell c73
          have c90 := uW80.cell c74
          have l91 := Nat.lt_of_lt_of_le l75 uW80.size
          have c92 := uW80.cell c76
          have c93 := uW80.cell c77
          have c94 := uW80.cell c78
          have c95 := uW80.cell c79
          clear l65 c66 c67 c68 c69 l70 c71 c72 c73 c74 l75 c76 c77 c78 c79
          have c96 : W80.cell? ⟨w2.heap.size, 0, none⟩ = some (.int .i8 c0) := by rw [hW80]; simp [go_sem]
          have c97 : W80.cell? ⟨w2.heap.size, 1, none⟩ = some (.int .i64 c1) := by rw [hW80]; simp [go_sem]
          have c98 : W80.cell? ⟨w2.heap.size, 2, none⟩ = some (.int .i8 c2) := by rw [hW80]; simp [go_sem]
          have c99 : W80.cell? ⟨w2.heap.size, 3, none⟩ = some (.int .i64 c3) := by rw [hW80]; simp [go_sem]
          have l100 : w2.heap.size < W80.heap.size := by rw [hW80]; simp <;> omega
          rw [← hW80]
          clear hW80
          have vW80 := uw2.trans uW80
          clear uW80 uw2
          refine (HT.out _).mono ?_
          rintro e w3 ⟨rfl, qw3⟩
          have l101 := Nat.lt_of_lt_of_le l81 qw3.size
          have c102 := qw3.cell c82
          have c103 := qw3.cell c83
          have c104 := qw3.cell c84
          have c105 := qw3.cell c85
          have l106 := Nat.lt_of_lt_of_le l86 qw3.size
          have c107 := qw3.cell c87
          have c108 := qw3.cell c88
          have c109 := qw3.cell c89
          have c110 := qw3.cell c90
          have l111 := Nat.lt_of_lt_of_le l91 qw3.size
          have c112 := qw3.cell c92
          have c113 := qw3.cell c93
          have c114 := qw3.cell c94
          have c115 := qw3.cell c95
          have l116 := Nat.lt_of_lt_of_le l100 qw3.size
          have c117 := qw3.cell c96
          have c118 := qw3.cell c97
          have c119 := qw3.cell c98
          have c120 := qw3.cell c99
          clear l81 c82 c83 c84 c85 l86 c87 c88 c89 c90 l91 c92 c93 c94 c95 l100 c96 c97 c98 c99
          have uw3 := vW80.trans qw3
          clear qw3 vW80
          go_wp2_with fail
          refine (HW.out _).mono ?_
          rintro e w4 ⟨rfl, qw4⟩
          have l121 := Nat.lt_of_lt_of_le l101 qw4.size
          have c122 := qw4.cell c102
          have c123 := qw4.cell c103
          have c124 := qw4.cell c104
          have c125 := qw4.cell c105
          have l126 := Nat.lt_of_lt_of_le l106 qw4.size
          have c127 := qw4.cell c107
          have c128 := qw4.cell c108
          have c129 := qw4.cell c109
          have c130 := qw4.cell c110
          have l131 := Nat.lt_of_lt_of_le l111 qw4.size
          have c132 := qw4.cell c112
          have c133 := qw4.cell c113
          have c134 := qw4.cell c114
          have c135 := qw4.cell c115
          have l136 := Nat.lt_of_lt_of_le l116 qw4.size
          have c137 := qw4.cell c117
          have c138 := qw4.cell c118
          have c139 := qw4.cell c119
          have c140 := qw4.cell c120
          clear l101 c102 c103 c104 c105 l106 c107 c108 c109 c110 l111 c112 c113 c114 c115 l116 c117 c118 c119 c120
          have uw4 := uw3.trans qw4
          clear qw4 uw3
          go_wp2_with fail
          refine (lives9 _ (hE.dn uw4)).mono ?_
          rintro e w5 ⟨rfl, qw5⟩
          have l141 := Nat.lt_of_lt_of_le l121 qw5.size
          have c142 := qw5.cell c122
          have c143 := qw5.cell c123
          have c144 := qw5.cell c124
          have c145 := qw5.cell c125
          have l146 := Nat.lt_of_lt_of_le l126 qw5.size
          have c147 := qw5.cell c127
          have c148 := qw5.cell c128
          have c149 := qw5.cell c129
          have c150 := qw5.cell c130
          have l151 := Nat.lt_of_lt_of_le l131 qw5.size
          have c152 := qw5.cell c132
          have c153 := qw5.cell c133
          have c154 := qw5.cell c134
          have c155 := qw5.cell c135
          have l156 := Nat.lt_of_lt_of_le l136 qw5.size
          have c157 := qw5.cell c137
          have c158 := qw5.cell c138
          have c159 := qw5.cell c139
          have c160 := qw5.cell c140
          clear l121 c122 c123 c124 c125 l126 c127 c128 c129 c130 l131 c132 c133 c134 c135 l136 c137 c138 c139 c140
          have uw5 := uw4.trans qw5
          clear qw5 uw4
          go_wp2_with fail
          go_ret
          exact ⟨rfl, uw5⟩
        ·
          obtain rfl : T = true := by simpa using hT
          obtain rfl : M = false := hM
          obtain rfl : Wn = true := by simpa using hW
          clear hT hW
          go_wp2_with fail
          refine (HJ.out _).mono ?_
          rintro e w1 ⟨rfl, qw1⟩
          have l39 := Nat.lt_of_lt_of_le l5 qw1.size
          have c40 := qw1.cell x50
          have c41 := qw1.cell x51
          have c42 := qw1.cell x52
          have c43 := qw1.cell x53
          have l44 := Nat.lt_of_lt_of_le l6 qw1.size
          have c45 := qw1.cell x60
          have c46 := qw1.cell x61
          have c47 := qw1.cell x62
          have c48 := qw1.cell x63
          clear l5 x50 x51 x52 x53 l6 x60 x61 x62 x63
          have uw1 := ud.trans qw1
          clear qw1 ud
          go_wp2_with fail
          obtain ⟨W49, hW49⟩ : ∃ W49, W49 = w1.alloc (.cells #[.int .i8 j0, .int .i64 j1, .int .i8 j2, .int .i64 j3] 29) := ⟨_, rfl⟩
          have uW49 : Dn w1 W49 := by rw [hW49]; exact (Dn.refl _).alloc _
          have l50 := Nat.lt_of_lt_of_le l39 uW49.size
          have c51 := uW49.cell c40
          have c52 := uW49.cell c41
          have c53 := uW49.cell c42
          have c54 := uW49.cell c43
          have l55 := Nat.lt_of_lt_of_le l44 uW49.size
          have c56 := uW49.cell c45
          have c57 := uW49.cell c46
          have c58 := uW49.cell c47
          have c59 := uW49.cell c48
          clear l39 c40 c41 c42 c43 l44 c45 c46 c47 c48
          have c60 : W49.cell? ⟨w1.heap.size, 0, none⟩ = some (.int .i8 j0) := by rw [hW49]; simp [go_sem]
          have c61 : W49.cell? ⟨w1.heap.size, 1, none⟩ = some (.int .i64 j1) := by rw [hW49]; simp [go_sem]
          have c62 : W49.cell? ⟨w1.heap.size, 2, none⟩ = some (.int .i8 j2) := by rw [hW49]; simp [go_sem]
          have c63 : W49.cell? ⟨w1.heap.size, 3, none⟩ = some (.int .i64 j3) := by rw [hW49]; simp [go_sem]
          have l64 : w1.heap.size < W49.heap.size := by rw [hW49]; simp <;> omega
          rw [← hW49]
          clear hW49
          have vW49 := uw1.trans uW49
          clear uW49 uw1
          refine (HC.out _).mono ?_
          rintro e w2 ⟨rfl, qw2⟩
          have l65 := Nat.lt_of_lt_of_le l50 qw2.size
          have c66 := qw2.cell c51
          have c67 := qw2.cell c52
          have c68 := qw2.cell c53
          have c69 := qw2.cell c54
          have l70 := Nat.lt_of_lt_of_le l55 qw2.size
          have c71 := qw2.cell c56
          have c72 := qw2.cell c57
          have c73 := qw2.cell c58
          have c74 := qw2.cell c59
          have l75 := Nat.lt_of_lt_of_le l64 qw2.size
          have c76 := qw2.cell c60
          have c77 := qw2.cell c61
          have c78 := qw2.cell c62
          have c79 := qw2.cell c63
          clear l50 c51 c52 c53 c54 l55 c56 c57 c58 c59 l64 c60 c61 c62 c63
          have uw2 := vW49.trans qw2
          clear qw2 vW49
          go_wp2_with fail
          obtain ⟨W80, hW80⟩ : ∃ W80, W80 = w2.alloc (.cells #[.int .i8 c0, .int .i64 c1, .int .i8 c2, .int .i64 c3] 29) := ⟨_, rfl⟩
          have uW80 : Dn w2 W80 := by rw [hW80]; exact (Dn.refl _).alloc _
          have l81 := Nat.lt_of_lt_of_le l65 uW80.size
          have c82 := uW80.cell c66
          have c83 := uW80.cell c67
          have c84 := uW80.cell c68
          have c85 := uW80.cell c69
          have l86 := Nat.lt_of_lt_of_le l70 uW80.size
          have c87 := uW80.cell c71
          have c88 := uW80.cell c72
          have c89 := uW80.cell c73
          have c90 := uW80.cell c74
          have l91 := Nat.lt_of_lt_of_le l75 uW80.size
          have c92 := uW80.cell c76
          have c93 := uW80.cell c77
          have c94 := uW80.cell c78
          have c95 := uW80.cell c79
          clear l65 c66 c67 c68 c69 l70 c71 c72 c73 c74 l75 c76 c77 c78 c79
          have c96 : W80.cell? ⟨w2.heap.size, 0, none⟩ = some (.int .i8 c0) := by rw [hW80]; simp [go_sem]
          have c97 : W80.cell? ⟨w2.heap.size, 1, none⟩ = some (.int .i64 c1) := by rw [hW80]; simp [go_sem]
          have c98 : W80.cell? ⟨w2.heap.size, 2, none⟩ = some (.int .i8 c2) := by rw [hW80]; simp [go_sem]
          have c99 : W80.cell? ⟨w2.heap.size, 3, none⟩ = some (.int .i64 c3) := by rw [hW80]; simp [go_sem]
          have l100 : w2.heap.size < W80.heap.size := by rw [hW80]; simp <;> omega
          rw [← hW80]
          clear hW80
          have vW80 := uw2.trans uW80
          clear uW80 uw2
          refine (HT.out _).mono ?_
          rintro e w3 ⟨rfl, qw3⟩
          have l101 := Nat.lt_of_lt_of_le l81 qw3.size
          have c102 := qw3.cell c82
          have c103 := qw3.cell c83
          have c104 := qw3.cell c84
          have c105 := qw3.cell c85
          have l106 := Nat.lt_of_lt_of_le l86 qw3.size
          have c107 := qw3.cell c87
          have c108 := qw3.cell c88
          have c109 := qw3.cell c89
          have c110 := qw3.cell c90
          have l111 := Nat.lt_of_lt_of_le l91 qw3.size
          have c112 := qw3.cell c92
          have c113 := qw3.cell c93
          have c114 := qw3.cell c94
          have c115 := qw3.cell c95
          have l116 := Nat.lt_of_lt_of_le l100 qw3.size
          have c117 := qw3.cell c96
          have c118 := qw3.cell c97
          have c119 := qw3.cell c98
          have c120 := qw3.cell c99
          clear l81 c82 c83 c84 c85 l86 c87 c88 c89 c90 l91 c92 c93 c94 c95 l100 c96 c97 c98 c99
          have uw3 := vW80.trans qw3
          clear qw3 vW80
          go_wp2_with fail
          refine (HW.out _).mono ?_
          rintro e w4 ⟨rfl, qw4⟩
          have l121 := Nat.lt_of_lt_of_le l101 qw4.size
          have c122 := qw4.cell c102
          have c123 := qw4.cell c103
          have c124 := qw4.cell c104
          have c125 := qw4.cell c105
          have l126 := Nat.lt_of_lt_of_le l106 qw4.size
          have c127 := qw4.cell c107
          have c128 := qw4.cell c108
          have c129 := qw4.cell c109
          have c130 := qw4.cell c110
          have l131 := Nat.lt_of_lt_of_le l111 qw4.size
          have c132 := qw4.cell c112
          have c133 := qw4.cell c113
          have c134 := qw4.cell c114
          have c135 := qw4.cell c115
          have l136 := Nat.lt_of_lt_of_le l116 qw4.size
          have c137 := qw4.cell c117
          have c138 := qw4.cell c118
          have c139 := qw4.cell c119
          have c140 := qw4.cell c120
          clear l101 c102 c103 c104 c105 l106 c107 c108 c109 c110 l111 c112 c113 c114 c115 l116 c117 c118 c119 c120
          have uw4 := uw3.trans qw4
          clear qw4 uw3
          go_wp2_with fail
          refine (lives9 _ (hE.dn uw4)).mono ?_
          rintro e w5 ⟨rfl, qw5⟩
          have l141 := Nat.lt_of_lt_of_le l121 qw5.size
          have c142 := qw5.cell c122
          have c143 := qw5.cell c123
          have c144 := qw5.cell c124
          have c145 := qw5.cell c125
          have l146 := Nat.lt_of_lt_of_le l126 qw5.size
          have c147 := qw5.cell c127
          have c148 := qw5.cell c128
          have c149 := qw5.cell c129
          have c150 := qw5.cell c130
          have l151 := Nat.lt_of_lt_of_le l131 qw5.size
          have c152 := qw5.cell c132
          have c153 := qw5.cell c133
          have c154 := qw5.cell c134
          have c155 := qw5.cell c135
          have l156 := Nat.lt_of_lt_of_le l136 qw5.size
          have c157 := qw5.cell c137
          have c158 := qw5.cell c138
          have c159 := qw5.cell c139
          have c160 := qw5.cell c140
          clear l121 c122 c123 c124 c125 l126 c127 c128 c129 c130 l131 c132 c133 c134 c135 l136 c137 c138 c139 c140
          have uw5 := uw4.trans qw5
          clear qw5 uw4
          go_wp2_with fail
          go_ret
          exact ⟨rfl, uw5⟩
        ·
          obtain rfl : T = true := by simpa using hT
          obtain rfl : M = false := hM
          obtain rfl : Wn = false := by simpa using hW
          clear hT hW
          go_wp2_with fail
          refine (HJ.out _).mono ?_
          rintro e w1 ⟨rfl, qw1⟩
          have l39 := Nat.lt_of_lt_of_le l5 qw1.size
          have c40 := qw1.cell x50
          have c41 := qw1.cell x51
          have c42 := qw1.cell x52
          have c43 := qw1.cell x53
          have l44 := Nat.lt_of_lt_of_le l6 qw1.size
          have c45 := qw1.cell x60
          have c46 := qw1.cell x61
          have c47 := qw1.cell x62
          have c48 := qw1.cell x63
          clear l5 x50 x51 x52 x53 l6 x60 x61 x62 x63
          have uw1 := ud.trans qw1
          clear qw1 ud
          go_wp2_with fail
          obtain ⟨W49, hW49⟩ : ∃ W49, W49 = w1.alloc (.cells #[.int .i8 j0, .int .i64 j1, .int .i8 j2, .int .i64 j3] 29) := ⟨_, rfl⟩
          have uW49 : Dn w1 W49 := by rw [hW49]; exact (Dn.refl _).alloc _
          have l50 := Nat.lt_of_lt_of_le l39 uW49.size
          have c51 := uW49.cell c40
          have c52 := uW49.cell c41
          have c53 := uW49.cell c42
          have c54 := uW49.cell c43
          have l55 := Nat.lt_of_lt_of_le l44 uW49.size
          have c56 := uW49.cell c45
          have c57 := uW49.cell c46
          have c58 := uW49.cell c47
          have c59 := uW49.cell c48
          clear l39 c40 c41 c42 c43 l44 c45 c46 c47 c48
          have c60 : W49.cell? ⟨w1.heap.size, 0, none⟩ = some (.int .i8 j0) := by rw [hW49]; simp [go_sem]
          have c61 : W49.cell? ⟨w1.heap.size, 1, none⟩ = some (.int .i64 j1) := by rw [hW49]; simp [go_sem]
          have c62 : W49.cell? ⟨w1.heap.size, 2, none⟩ = some (.int .i8 j2) := by rw [hW49]; simp [go_sem]
          have c63 : W49.cell? ⟨w1.heap.size, 3, none⟩ = some (.int .i64 j3) := by rw [hW49]; simp [go_sem]
          have l64 : w1.heap.size < W49.heap.size := by rw [hW49]; simp <;> omega
          rw [← hW49]
          clear hW49
          have vW49 := uw1.trans uW49
          clear uW49 uw1
          refine (HC.out _).mono ?_
          rintro e w2 ⟨rfl, qw2⟩
          have l65 := Nat.lt_of_lt_of_le l50 qw2.size
          have c66 := qw2.cell c51
          have c67 := qw2.cell c52
          have c68 := qw2.cell c53
          have c69 := qw2.cell c54
          have l70 := Nat.lt_of_lt_of_le l55 qw2.size
          have c71 := qw2.cell c56
          have c72 := qw2.cell c57
          have c73 := qw2.cell c58
          have c74 := qw2.cell c59
          have l75 := Nat.lt_of_lt_of_le l64 qw2.size
          have c76 := qw2.cell c60
          have c77 := qw2.cell c61
          have c78 := qw2.cell c62
          have c79 := qw2.cell c63
          clear l50 c51 c52 c53 c54 l55 c56 c57 c58 c59 l64 c60 c61 c62 c63
          have uw2 := vW49.trans qw2
          clear qw2 vW49
          go_wp2_with fail
          obtain ⟨W80, hW80⟩ : ∃ W80, W80 = w2.alloc (.cells #[.int .i8 c0, .int .i64 c1, .int .i8 c2, .int .i64 c3] 29) := ⟨_, rfl⟩
          have uW80 : Dn w2 W80 := by rw [hW80]; exact (Dn.refl _).alloc _
          have l81 := Nat.lt_of_lt_of_le l65 uW80.size
          have c82 := uW80.cell c66
          have c83 := uW80.cell c67
          have c84 := uW80.cell c68
          have c85 := uW80.cell c69
          have l86 := Nat.lt_of_lt_of_le l70 uW80.size
          have c87 := uW80.cell c71
          have c88 := uW80.cell c72
          have c89 := uW80.cell c73
          have c90 := uW80.cell c74
          have l91 := Nat.lt_of_lt_of_le l75 uW80.size
          have c92 := uW80.cell c76
          have c93 := uW80.cell c77
          have c94 := uW80.cell c78
          have c95 := uW80.cell c79
          clear l65 c66 c67 c68 c69 l70 c71 c72 c73 c74 l75 c76 c77 c78 c79
          have c96 : W80.cell? ⟨w2.heap.size, 0, none⟩ = some (.int .i8 c0) := by rw [hW80]; simp [go_sem]
          have c97 : W80.cell? ⟨w2.heap.size, 1, none⟩ = some (.int .i64 c1) := by rw [hW80]; simp [go_sem]
          have c98 : W80.cell? ⟨w2.heap.size, 2, none⟩ = some (.int .i8 c2) := by rw [hW80]; simp [go_sem]
          have c99 : W80.cell? ⟨w2.heap.size, 3, none⟩ = some (.int .i64 c3) := by rw [hW80]; simp [go_sem]
          have l100 : w2.heap.size < W80.heap.size := by rw [hW80]; simp <;> omega
          rw [← hW80]
          clear hW80
          have vW80 := uw2.trans uW80
          clear uW80 uw2
          refine (HT.out _).mono ?_
          rintro e w3 ⟨rfl, qw3⟩
          have l101 := Nat.lt_of_lt_of_le l81 qw3.size
          have c102 := qw3.cell c82
          have c103 := qw3.cell c83
          have c104 := qw3.cell c84
          have c105 := qw3.cell c85
          have l106 := Nat.lt_of_lt_of_le l86 qw3.size
          have c107 := qw3.cell c87
          have c108 := qw3.cell c88
          have c109 := qw3.cell c89
          have c110 := qw3.cell c90
          have l111 := Nat.lt_of_lt_of_le l91 qw3.size
          have c112 := qw3.cell c92
          have c113 := qw3.cell c93
          have c114 := qw3.cell c94
          have c115 := qw3.cell c95
          have l116 := Nat.lt_of_lt_of_le l100 qw3.size
          have c117 := qw3.cell c96
          have c118 := qw3.cell c97
          have c119 := qw3.cell c98
          have c120 := qw3.cell c99
          clear l81 c82 c83 c84 c85 l86 c87 c88 c89 c90 l91 c92 c93 c94 c95 l100 c96 c97 c98 c99
          have uw3 := vW80.trans qw3
          clear qw3 vW80
          go_wp2_with fail
          refine (HW.out _).mono ?_
          rintro e w4 ⟨rfl, qw4⟩
          have l121 := Nat.lt_of_lt_of_le l101 qw4.size
          have c122 := qw4.cell c102
          have c123 := qw4.cell c103
          have c124 := qw4.cell c104
          have c125 := qw4.cell c105
          have l126 := Nat.lt_of_lt_of_le l106 qw4.size
          have c127 := qw4.cell c107
          have c128 := qw4.cell c108
          have c129 := qw4.cell c109
          have c130 := qw4.cell c110
          have l131 := Nat.lt_of_lt_of_le l111 qw4.size
          have c132 := qw4.cell c112
          have c133 := qw4.cell c113
          have c134 := qw4.cell c114
          have c135 := qw4.cell c115
          have l136 := Nat.lt_of_lt_of_le l116 qw4.size
          have c137 := qw4.cell c117
          have c138 := qw4.cell c118
          have c139 := qw4.cell c119
          have c140 := qw4.cell c120
          clear l101 c102 c103 c104 c105 l106 c107 c108 c109 c110 l111 c112 c113 c114 c115 l116 c117 c118 c119 c120
          have uw4 := uw3.trans qw4
          clear qw4 uw3
          go_wp2_with fail
          refine (lives9 _ (hE.dn uw4)).mono ?_
          rintro e w5 ⟨rfl, qw5⟩
          have l141 := Nat.lt_of_lt_of_le l121 qw5.size
          have c142 := qw5.cell c122
          have c143 := qw5.cell c123
          have c144 := qw5.cell c124
          have c145 := qw5.cell c125
          have l146 := Nat.lt_of_lt_of_le l126 qw5.size
          have c147 := qw5.cell c127
          have c148 := qw5.cell c128
          have c149 := qw5.cell c129
          have c150 := qw5.cell c130
          have l151 := Nat.lt_of_lt_of_le l131 qw5.size
          have c152 := qw5.cell c132
          have c153 := qw5.cell c133
          have c154 := qw5.cell c134
          have c155 := qw5.cell c135
          have l156 := Nat.lt_of_lt_of_le l136 qw5.size
          have c157 := qw5.cell c137
          have c158 := qw5.cell c138
          have c159 := qw5.cell c139
          have c160 := qw5.cell c140
          clear l121 c122 c123 c124 c125 l126 c127 c128 c129 c130 l131 c132 c133 c134 c135 l136 c137 c138 c139 c140
          have uw5 := uw4.trans qw5
          clear qw5 uw4
          go_wp2_with fail
          go_ret
          exact ⟨rfl, uw5⟩
        ·
          obtain rfl : T = true := by simpa using hT
          obtain rfl : M = true := hM
          obtain rfl : Wn = true := by simpa using hW
          clear hT hW
          go_wp2_with fail
          refine (HJ.out _).mono ?_
          rintro e w1 ⟨rfl, qw1⟩
          have l39 := Nat.lt_of_lt_of_le l5 qw1.size
          have c40 := qw1.cell x50
          have c41 := qw1.cell x51
          have c42 := qw1.cell x52
          have c43 := qw1.cell x53
          have l44 := Nat.lt_of_lt_of_le l6 qw1.size
          have c45 := qw1.cell x60
          have c46 := qw1.cell x61
          have c47 := qw1.cell x62
          have c48 := qw1.cell x63
          clear l5 x50 x51 x52 x53 l6 x60 x61 x62 x63
          have uw1 := ud.trans qw1
          clear qw1 ud
          go_wp2_with fail
          obtain ⟨W49, hW49⟩ : ∃ W49, W49 = w1.alloc (.cells #[.int .i8 j0, .int .i64 j1, .int .i8 j2, .int .i64 j3] 29) := ⟨_, rfl⟩
          have uW49 : Dn w1 W49 := by rw [hW49]; exact (Dn.refl _).alloc _
          have l50 := Nat.lt_of_lt_of_le l39 uW49.size
          have c51 := uW49.cell c40
          have c52 := uW49.cell c41
          have c53 := uW49.cell c42
          have c54 := uW49.cell c43
          have l55 := Nat.lt_of_lt_of_le l44 uW49.size
          have c56 := uW49.cell c45
          have c57 := uW49.cell c46
          have c58 := uW49.cell c47
          have c59 := uW49.cell c48
          clear l39 c40 c41 c42 c43 l44 c45 c46 c47 c48
          have c60 : W49.cell? ⟨w1.heap.size, 0, none⟩ = some (.int .i8 j0) := by rw [hW49]; simp [go_sem]
          have c61 : W49.cell? ⟨w1.heap.size, 1, none⟩ = some (.int .i64 j1) := by rw [hW49]; simp [go_sem]
          have c62 : W49.cell? ⟨w1.heap.size, 2, none⟩ = some (.int .i8 j2) := by rw [hW49]; simp [go_sem]
          have c63 : W49.cell? ⟨w1.heap.size, 3, none⟩ = some (.int .i64 j3) := by rw [hW49]; simp [go_sem]
          have l64 : w1.heap.size < W49.heap.size := by rw [hW49]; simp <;> omega
          rw [← hW49]
          clear hW49
          have vW49 := uw1.trans uW49
          clear uW49 uw1
          refine (HC.out _).mono ?_
          rintro e w2 ⟨rfl, qw2⟩
          have l65 := Nat.lt_of_lt_of_le l50 qw2.size
          have c66 := qw2.cell c51
          have c67 := qw2.cell c52
          have c68 := qw2.cell c53
          have c69 := qw2.cell c54
          have l70 := Nat.lt_of_lt_of_le l55 qw2.size
          have c71 := qw2.cell c56
          have c72 := qw2.cell c57
          have c73 := qw2.cell c58
          have c74 := qw2.cell c59
          have l75 := Nat.lt_of_lt_of_le l64 qw2.size
          have c76 := qw2.cell c60
          have c77 := qw2.cell c61
          have c78 := qw2.cell c62
          have c79 := qw2.cell c63
          clear l50 c51 c52 c53 c54 l55 c56 c57 c58 c59 l64 c60 c61 c62 c63
          have uw2 := vW49.trans qw2
          clear qw2 vW49
          go_wp2_with fail
          obtain ⟨W80, hW80⟩ : ∃ W80, W80 = w2.alloc (.cells #[.int .i8 c0, .int .i64 c1, .int .i8 c2, .int .i64 c3] 29) := ⟨_, rfl⟩
          have uW80 : Dn w2 W80 := by rw [hW80]; exact (Dn.refl _).alloc _
          have l81 := Nat.lt_of_lt_of_le l65 uW80.size
          have c82 := uW80.cell c66
          have c83 := uW80.cell c67
          have c84 := uW80.cell c68
          have c85 := uW80.cell c69
          have l86 := Nat.lt_of_lt_of_le l70 uW80.size
          have c87 := uW80.cell c71
          have c88 := uW80.cell c72
          have c89 := uW80.cell c73
          have c90 := uW80.cell c74
          have l91 := Nat.lt_of_lt_of_le l75 uW80.size
          have c92 := uW80.cell c76
          have c93 := uW80.cell c77
          have c94 := uW80.cell c78
          have c95 := uW80.cell c79
          clear l65 c66 c67 c68 c69 l70 c71 c72 c73 c74 l75 c76 c77 c78 c79
          have c96 : W80.cell? ⟨w2.heap.size, 0, none⟩ = some (.int .i8 c0) := by rw [hW80]; simp [go_sem]
          have c97 : W80.cell? ⟨w2.heap.size, 1, none⟩ = some (.int .i64 c1) := by rw [hW80]; simp [go_sem]
          have c98 : W80.cell? ⟨w2.heap.size, 2, none⟩ = some (.int .i8 c2) := by rw [hW80]; simp [go_sem]
          have c99 : W80.cell? ⟨w2.heap.size, 3, none⟩ = some (.int .i64 c3) := by rw [hW80]; simp [go_sem]
          have l100 : w2.heap.size < W80.heap.size := by rw [hW80]; simp <;> omega
          rw [← hW80]
          clear hW80
          have vW80 := uw2.trans uW80
          clear uW80 uw2
          refine (HT.out _).mono ?_
          rintro e w3 ⟨rfl, qw3⟩
          have l101 := Nat.lt_of_lt_of_le l81 qw3.size
          have c102 := qw3.cell c82
          have c103 := qw3.cell c83
          have c104 := qw3.cell c84
          have c105 := qw3.cell c85
          have l106 := Nat.lt_of_lt_of_le l86 qw3.size
          have c107 := qw3.cell c87
          have c108 := qw3.cell c88
          have c109 := qw3.cell c89
          have c110 := qw3.cell c90
          have l111 := Nat.lt_of_lt_of_le l91 qw3.size
          have c112 := qw3.cell c92
          have c113 := qw3.cell c93
          have c114 := qw3.cell c94
          have c115 := qw3.cell c95
          have l116 := Nat.lt_of_lt_of_le l100 qw3.size
          have c117 := qw3.cell c96
          have c118 := qw3.cell c97
          have c119 := qw3.cell c98
          have c120 := qw3.cell c99
          clear l81 c82 c83 c84 c85 l86 c87 c88 c89 c90 l91 c92 c93 c94 c95 l100 c96 c97 c98 c99
          have uw3 := vW80.trans qw3
          clear qw3 vW80
          go_wp2_with fail
          refine (HW.out _).mono ?_
          rintro e w4 ⟨rfl, qw4⟩
          have l121 := Nat.lt_of_lt_of_le l101 qw4.size
          have c122 := qw4.cell c102
          have c123 := qw4.cell c103
          have c124 := qw4.cell c104
          have c125 := qw4.cell c105
          have l126 := Nat.lt_of_lt_of_le l106 qw4.size
          have c127 := qw4.cell c107
          have c128 := qw4.cell c108
          have c129 := qw4.cell c109
          have c130 := qw4.cell c110
          have l131 := Nat.lt_of_lt_of_le l111 qw4.size
          have c132 := qw4.cell c112
          have c133 := qw4.cell c113
          have c134 := qw4.cell c114
          have c135 := qw4.cell c115
          have l136 := Nat.lt_of_lt_of_le l116 qw4.size
          have c137 := qw4.cell c117
          have c138 := qw4.cell c118
          have c139 := qw4.cell c119
          have c140 := qw4.cell c120
          clear l101 c102 c103 c104 c105 l106 c107 c108 c109 c110 l111 c112 c113 c114 c115 l116 c117 c118 c119 c120
          have uw4 := uw3.trans qw4
          clear qw4 uw3
          go_wp2_with fail
          refine (lives9 _ (hE.dn uw4)).mono ?_
          rintro e w5 ⟨rfl, qw5⟩
          have l141 := Nat.lt_of_lt_of_le l121 qw5.size
          have c142 := qw5.cell c122
          have c143 := qw5.cell c123
          have c144 := qw5.cell c124
          have c145 := qw5.cell c125
          have l146 := Nat.lt_of_lt_of_le l126 qw5.size
          have c147 := qw5.cell c127
          have c148 := qw5.cell c128
          have c149 := qw5.cell c129
          have c150 := qw5.cell c130
          have l151 := Nat.lt_of_lt_of_le l131 qw5.size
          have c152 := qw5.cell c132
          have c153 := qw5.cell c133
          have c154 := qw5.cell c134
          have c155 := qw5.cell c135
          have l156 := Nat.lt_of_lt_of_le l136 qw5.size
          have c157 := qw5.cell c137
          have c158 := qw5.cell c138
          have c159 := qw5.cell c139
          have c160 := qw5.cell c140
          clear l121 c122 c123 c124 c125 l126 c127 c128 c129 c130 l131 c132 c133 c134 c135 l136 c137 c138 c139 c140
          have uw5 := uw4.trans qw5
          clear qw5 uw4
          go_wp2_with fail
          go_ret
          exact ⟨rfl, uw5⟩
        ·
          obtain rfl : T = true := by simpa using hT
          obtain rfl : M = true := hM
          obtain rfl : Wn = false := by simpa using hW
          clear hT hW
          go_wp2_with fail
          refine (HJ.out _).mono ?_
          rintro e w1 ⟨rfl, qw1⟩
          have l39 := Nat.lt_of_lt_of_le l5 qw1.size
          have c40 := qw1.cell x50
          have c41 := qw1.cell x51
          have c42 := qw1.cell x52
          have c43 := qw1.cell x53
          have l44 := Nat.lt_of_lt_of_le l6 qw1.size
          have c45 := qw1.cell x60
          have c46 := qw1.cell x61
          have c47 := qw1.cell x62
          have c48 := qw1.cell x63
          clear l5 x50 x51 x52 x53 l6 x60 x61 x62 x63
          have uw1 := ud.trans qw1
          clear qw1 ud
          go_wp2_with fail
          obtain ⟨W49, hW49⟩ : ∃ W49, W49 = w1.alloc (.cells #[.int .i8 j0, .int .i64 j1, .int .i8 j2, .int .i64 j3] 29) := ⟨_, rfl⟩
          have uW49 : Dn w1 W49 := by rw [hW49]; exact (Dn.refl _).alloc _
          have l50 := Nat.lt_of_lt_of_le l39 uW49.size
          have c51 := uW49.cell c40
          have c52 := uW49.cell c41
          have c53 := uW49.cell c42
          have c54 := uW49.cell c43
          have l55 := Nat.lt_of_lt_of_le l44 uW49.size
          have c56 := uW49.cell c45
          have c57 := uW49.cell c46
          have c58 := uW49.cell c47
          have c59 := uW49.cell c48
          clear l39 c40 c41 c42 c43 l44 c45 c46 c47 c48
          have c60 : W49.cell? ⟨w1.heap.size, 0, none⟩ = some (.int .i8 j0) := by rw [hW49]; simp [go_sem]
          have c61 : W49.cell? ⟨w1.heap.size, 1, none⟩ = some (.int .i64 j1) := by rw [hW49]; simp [go_sem]
          have c62 : W49.cell? ⟨w1.heap.size, 2, none⟩ = some (.int .i8 j2) := by rw [hW49]; simp [go_sem]
          have c63 : W49.cell? ⟨w1.heap.size, 3, none⟩ = some (.int .i64 j3) := by rw [hW49]; simp [go_sem]
          have l64 : w1.heap.size < W49.heap.size := by rw [hW49]; simp <;> omega
          rw [← hW49]
          clear hW49
          have vW49 := uw1.trans uW49
          clear uW49 uw1
          refine (HC.out _).mono ?_
          rintro e w2 ⟨rfl, qw2⟩
          have l65 := Nat.lt_of_lt_of_le l50 qw2.size
          have c66 := qw2.cell c51
          have c67 := qw2.cell c52
          have c68 := qw2.cell c53
          have c69 := qw2.cell c54
          have l70 := Nat.lt_of_lt_of_le l55 qw2.size
          have c71 := qw2.cell c56
          have c72 := qw2.cell c57
          have c73 := qw2.cell c58
          have c74 := qw2.cell c59
          have l75 := Nat.lt_of_lt_of_le l64 qw2.size
          have c76 := qw2.cell c60
          have c77 := qw2.cell c61
          have c78 := qw2.cell c62
          have c79 := qw2.cell c63
          clear l50 c51 c52 c53 c54 l55 c56 c57 c58 c59 l64 c60 c61 c62 c63
          have uw2 := vW49.trans qw2
          clear qw2 vW49
          go_wp2_with fail
          obtain ⟨W80, hW80⟩ : ∃ W80, W80 = w2.alloc (.cells #[.int .i8 c0, .int .i64 c1, .int .i8 c2, .int .i64 c3] 29) := ⟨_, rfl⟩
          have uW80 : Dn w2 W80 := by rw [hW80]; exact (Dn.refl _).alloc _
          have l81 := Nat.lt_of_lt_of_le l65 uW80.size
          have c82 := uW80.cell c66
          have c83 := uW80.cell c67
          have c84 := uW80.cell c68
          have c85 := uW80.cell c69
          have l86 := Nat.lt_of_lt_of_le l70 uW80.size
          have c87 := uW80.cell c71
          have c88 := uW80.cell c72
          have c89 := uW80.cell c73
          have c90 := uW80.cell c74
          have l91 := Nat.lt_of_lt_of_le l75 uW80.size
          have c92 := uW80.cell c76
          have c93 := uW80.cell c77
          have c94 := uW80.cell c78
          have c95 := uW80.cell c79
          clear l65 c66 c67 c68 c69 l70 c71 c72 c73 c74 l75 c76 c77 c78 c79
          have c96 : W80.cell? ⟨w2.heap.size, 0, none⟩ = some (.int .i8 c0) := by rw [hW80]; simp [go_sem]
          have c97 : W80.cell? ⟨w2.heap.size, 1, none⟩ = some (.int .i64 c1) := by rw [hW80]; simp [go_sem]
          have c98 : W80.cell? ⟨w2.heap.size, 2, none⟩ = some (.int .i8 c2) := by rw [hW80]; simp [go_sem]
          have c99 : W80.cell? ⟨w2.heap.size, 3, none⟩ = some (.int .i64 c3) := by rw [hW80]; simp [go_sem]
          have l100 : w2.heap.size < W80.heap.size := by rw [hW80]; simp <;> omega
          rw [← hW80]
          clear hW80
          have vW80 := uw2.trans uW80
          clear uW80 uw2
          refine (HT.out _).mono ?_
          rintro e w3 ⟨rfl, qw3⟩
          have l101 := Nat.lt_of_lt_of_le l81 qw3.size
          have c102 := qw3.cell c82
          have c103 := qw3.cell c83
          have c104 := qw3.cell c84
          have c105 := qw3.cell c85
          have l106 := Nat.lt_of_lt_of_le l86 qw3.size
          have c107 := qw3.cell c87
          have c108 := qw3.cell c88
          have c109 := qw3.cell c89
          have c110 := qw3.cell c90
          have l111 := Nat.lt_of_lt_of_le l91 qw3.size
          have c112 := qw3.cell c92
          have c113 := qw3.cell c93
          have c114 := qw3.cell c94
          have c115 := qw3.cell c95
          have l116 := Nat.lt_of_lt_of_le l100 qw3.size
          have c117 := qw3.cell c96
          have c118 := qw3.cell c97
          have c119 := qw3.cell c98
          have c120 := qw3.cell c99
          clear l81 c82 c83 c84 c85 l86 c87 c88 c89 c90 l91 c92 c93 c94 c95 l100 c96 c97 c98 c99
          have uw3 := vW80.trans qw3
          clear qw3 vW80
          go_wp2_with fail
          refine (HW.out _).mono ?_
          rintro e w4 ⟨rfl, qw4⟩
          have l121 := Nat.lt_of_lt_of_le l101 qw4.size
          have c122 := qw4.cell c102
          have c123 := qw4.cell c103
          have c124 := qw4.cell c104
          have c125 := qw4.cell c105
          have l126 := Nat.lt_of_lt_of_le l106 qw4.size
          have c127 := qw4.cell c107
          have c128 := qw4.cell c108
          have c129 := qw4.cell c109
          have c130 := qw4.cell c110
          have l131 := Nat.lt_of_lt_of_le l111 qw4.size
          have c132 := qw4.cell c112
          have c133 := qw4.cell c113
          have c134 := qw4.cell c114
          have c135 := qw4.cell c115
          have l136 := Nat.lt_of_lt_of_le l116 qw4.size
          have c137 := qw4.cell c117
          have c138 := qw4.cell c118
          have c139 := qw4.cell c119
          have c140 := qw4.cell c120
          clear l101 c102 c103 c104 c105 l106 c107 c108 c109 c110 l111 c112 c113 c114 c115 l116 c117 c118 c119 c120
          have uw4 := uw3.trans qw4
          clear qw4 uw3
          go_wp2_with fail
          refine (lives9 _ (hE.dn uw4)).mono ?_
          rintro e w5 ⟨rfl, qw5⟩
          have l141 := Nat.lt_of_lt_of_le l121 qw5.size
          have c142 := qw5.cell c122
          have c143 := qw5.cell c123
          have c144 := qw5.cell c124
          have c145 := qw5.cell c125
          have l146 := Nat.lt_of_lt_of_le l126 qw5.size
          have c147 := qw5.cell c127
          have c148 := qw5.cell c128
          have c149 := qw5.cell c129
          have c150 := qw5.cell c130
          have l151 := Nat.lt_of_lt_of_le l131 qw5.size
          have c152 := qw5.cell c132
          have c153 := qw5.cell c133
          have c154 := qw5.cell c134
          have c155 := qw5.cell c135
          have l156 := Nat.lt_of_lt_of_le l136 qw5.size
          have c157 := qw5.cell c137
          have c158 := qw5.cell c138
          have c159 := qw5.cell c139
          have c160 := qw5.cell c140
          clear l121 c122 c123 c124 c125 l126 c127 c128 c129 c130 l131 c132 c133 c134 c135 l136 c137 c138 c139 c140
          have uw5 := uw4.trans qw5
          clear qw5 uw4
          go_wp2_with fail
          go_ret
          exact ⟨rfl, uw5⟩
end Go.Proofs.YtcdkeiolblifkaaDoor
