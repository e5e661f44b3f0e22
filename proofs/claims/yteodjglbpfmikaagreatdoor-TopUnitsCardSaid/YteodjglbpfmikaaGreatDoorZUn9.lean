/- Walks and laws that the claim's theorem leans on: part 9. -/
import Derived.Test.YteodjglbpfmikaaGreatDoorZUn1
import Derived.Test.YteodjglbpfmikaaGreatDoorZUn8
namespace Go.Proofs.YteodjglbpfmikaaGreatDoor
set_option maxHeartbeats 4000000
set_option maxRecDepth 100000
open Go.RowKit
set_option linter.unusedVariables false
set_option linter.unusedSimpArgs false
theorem kdSK_10 {W w1 w2 : World} {a0 a1 a2 a3 a4 a5 a6 a7 a8 a9 : Addr} {v0 v1 v2 v3 v4 v5 v6 v7 v8 v9 : Value} (k : Dn w1 w2) (h : Dn W w1 ∧ w1.cell? a0 = some v0 ∧ w1.cell? a1 = some v1 ∧ w1.cell? a2 = some v2 ∧ w1.cell? a3 = some v3 ∧ w1.cell? a4 = some v4 ∧ w1.cell? a5 = some v5 ∧ w1.cell? a6 = some v6 ∧ w1.cell? a7 = some v7 ∧ w1.cell? a8 = some v8 ∧ w1.cell? a9 = some v9) :
  Dn W w2 ∧ w2.cell? a0 = some v0 ∧ w2.cell? a1 = some v1 ∧ w2.cell? a2 = some v2 ∧ w2.cell? a3 = some v3 ∧ w2.cell? a4 = some v4 ∧ w2.cell? a5 = some v5 ∧ w2.cell? a6 = some v6 ∧ w2.cell? a7 = some v7 ∧ w2.cell? a8 = some v8 ∧ w2.cell? a9 = some v9 := by
 obtain ⟨h1, c0, c1, c2, c3, c4, c5, c6, c7, c8, c9⟩ := h
 exact ⟨h1.trans k, k.cell c0, k.cell c1, k.cell c2, k.cell c3, k.cell c4, k.cell c5, k.cell c6, k.cell c7, k.cell c8, k.cell c9⟩
theorem list_runB {ops : Array Oper} {rest : List Oper} {o : Oper} {a : Act} {Q : Exit → Act → World → Prop} (hgd : o.guard = none) (s x : Operand)
   (ho : o.op = .call { callee := .builtin .append, args := #[s, x], argTypes := #[48, 48] }) (w : World) (base : Nat) (v : Value) (L : List Rq) (a0 b0 c0 d0 : Int) (hs : a.eval s = v) (hown : OwnQ w base v L)
   (hx : a.eval x = .slice (some ⟨w.heap.size, 0, none⟩) 1 1) (hl : L.length ≤ 1000000) (hb : base ≤ w.heap.size)
   (h : ∀ v' w', OwnQ w' base v' (L ++ [⟨a0, b0, c0, d0⟩]) → (∀ b, b < base → w'.heap[b]? = w.heap[b]?) → w.heap.size ≤ w'.heap.size → (∀ w0, Dn w0 w → w0.heap.size ≤ base → Dn w0 w') → wpList Tryz.prog ops Q rest (a.put o.dst v') w') :
   wpList Tryz.prog ops Q (o :: rest) a (w.alloc (.cells #[.int .i8 a0, .int .i64 b0, .int .i8 c0, .int .i64 d0] 30)) := by
 obtain ⟨i0, hi, hz0, hz1, hz2⟩ := info_parts infoRun
 refine wpList_append_own (w.alloc (.cells #[.int .i8 a0, .int .i64 b0, .int .i8 c0, .int .i64 d0] 30)) hgd s x 48 ho base 30 i0 _ 4 32 Tryz.underlying48 hi hz0 hz1 hz2 rfl (by decide) v _ _ hs (hown.own.alloc _) ⟨w.heap.size, 0, none⟩ 1 1 (qc ⟨a0, b0, c0, d0⟩) hx rfl ?_ ?_ ?_ ?_ ?_ ?_
 · intro j u hj
   match j, hj with
   | 0, hj => simp [qc] at hj; subst hj; simp [Addr.add]
   | 1, hj => simp [qc] at hj; subst hj; simp [Addr.add]
   | 2, hj => simp [qc] at hj; subst hj; simp [Addr.add]
   | 3, hj => simp [qc] at hj; subst hj; simp [Addr.add]
   | n + 4, hj => simp [qc] at hj
 · intro u hu; simp [qc] at hu; rcases hu with rfl | rfl | rfl | rfl <;> rfl
 · unfold maxLen; omega
 · omega
 · simp; omega
 · intro v' w' k1 k2 _
   have hall : w.grownBy w' v.ownBlock := by
     have := World.grownBy_alloc w (.cells #[.int .i8 a0, .int .i64 b0, .int .i8 c0, .int .i64 d0] 30) v.ownBlock
     exact grown_trans this k2
   refine h v' w' ⟨?_⟩ ?_ hall.size ?_
   · simpa using k1
   · intro b hb1
     exact hall.block b (by omega) (fun e => by have := (hown.own.lt b e.symm).1; omega)
   · intro w0 hd e
     exact ⟨hd.below.trans ⟨hall.os, hall.tape, hall.output, hall.size, fun i hi => hall.block i (Nat.lt_of_lt_of_le hi hd.size) (fun e2 => by have := (hown.own.lt i e2.symm).1; omega)⟩⟩
theorem cell_same {w w' : World} {b j : Nat} {u : Value} (h : w'.heap[b]? = w.heap[b]?) (hc : w.cell? ⟨b, j, none⟩ = some u) : w'.cell? ⟨b, j, none⟩ = some u := by
 simp only [World.cell?, h] at hc ⊢; exact hc
theorem frozen_same {w w' : World} {b j : Nat} (h : w'.heap[b]? = w.heap[b]?) : w'.frozen? ⟨b, j, none⟩ = w.frozen? ⟨b, j, none⟩ := by
 simp only [World.frozen?, h]
structure SlV (w0 w : World) (A : Nat) (s : List Rq) : Prop where
 c : ∃ p cap, w.cell? ⟨A, 0, none⟩ = some (.slice p s.length cap) ∧ s.length ≤ cap ∧ cap ≤ 9223372036854775807 ∧ Row w0 p s
 f : w.frozen? ⟨A, 0, none⟩ = false
 lt : A < w.heap.size
theorem SlV.dn {w0 w w' : World} {A : Nat} {s : List Rq} (h : SlV w0 w A s) (q : Dn w w') : SlV w0 w' A s := by
 obtain ⟨⟨p, cap, h1, h2⟩, h3, h4⟩ := h
 exact ⟨⟨p, cap, q.cell h1, h2⟩, (q.frozen (a := ⟨A, 0, none⟩) h4).trans h3, Nat.lt_of_lt_of_le h4 q.size⟩
theorem SlV.same {w0 w w' : World} {A : Nat} {s : List Rq} (h : SlV w0 w A s) (e : w'.heap[A]? = w.heap[A]?) (hl : w.heap.size ≤ w'.heap.size) : SlV w0 w' A s := by
 obtain ⟨⟨p, cap, h1, h2⟩, h3, h4⟩ := h
 exact ⟨⟨p, cap, cell_same e h1, h2⟩, (frozen_same e).trans h3, Nat.lt_of_lt_of_le h4 hl⟩
theorem SlV.far {w0 w : World} {A B : Nat} {s : List Rq} (h : SlV w0 w A s) (n : A ≠ B) (u : Value) : SlV w0 (w.setCell ⟨B, 0, none⟩ u) A s := by
 obtain ⟨⟨p, cap, h1, h2⟩, h3, h4⟩ := h
 exact ⟨⟨p, cap, by rw [World.cell?_setCell_other _ _ _ _ (fun e => n (by simpa using (congrArg Addr.block e).symm))]; exact h1, h2⟩, by simpa using h3, by simpa using h4⟩
theorem SlV.set {w0 w : World} {A : Nat} {s t : List Rq} (h : SlV w0 w A s) {p : Option Addr} {cap : Nat} (h2 : t.length ≤ cap) (h3 : cap ≤ 9223372036854775807) (h4 : Row w0 p t) : SlV w0 (w.setCell ⟨A, 0, none⟩ (.slice p t.length cap)) A t := by
 obtain ⟨⟨p', cap', h1, _⟩, h5, h6⟩ := h
 exact ⟨⟨p, cap, by simp [go_sem, h1], h2, h3, h4⟩, by simpa using h5, by simpa using h6⟩
structure OwV (w : World) (base O : Nat) (L : List Rq) : Prop where
 c : ∃ v, w.cell? ⟨O, 0, none⟩ = some v ∧ OwnQ w base v L
 f : w.frozen? ⟨O, 0, none⟩ = false
 lt : O < base
 bl : base ≤ w.heap.size
theorem OwV.dn {w w' : World} {base O : Nat} {L : List Rq} (h : OwV w base O L) (q : Dn w w') : OwV w' base O L := by
 obtain ⟨⟨v, h1, h2⟩, h3, h4, h5⟩ := h
 exact ⟨⟨v, q.cell h1, h2.dn q⟩, (q.frozen (a := ⟨O, 0, none⟩) (by show O < w.heap.size; omega)).trans h3, h4, Nat.le_trans h5 q.size⟩
theorem OwnQ.low {w : World} {base B : Nat} {v : Value} {L : List Rq} (h : OwnQ w base v L) (hB : B < base) (u : Value) : OwnQ (w.setCell ⟨B, 0, none⟩ u) base v L :=
 h.kept (grown_set w ⟨B, 0, none⟩ u) (fun k e => by cases e; exact hB)
theorem OwV.far {w : World} {base O B : Nat} {L : List Rq} (h : OwV w base O L) (n : O ≠ B) (hB : B < base) (u : Value) : OwV (w.setCell ⟨B, 0, none⟩ u) base O L := by
 obtain ⟨⟨v, h1, h2⟩, h3, h4, h5⟩ := h
 exact ⟨⟨v, by rw [World.cell?_setCell_other _ _ _ _ (fun e => n (by simpa using (congrArg Addr.block e).symm))]; exact h1, h2.low hB u⟩, by simpa using h3, h4, by simpa using h5⟩
theorem rt1 {w : World} {p : Option Addr} {t : List Rq} (h : t.length + 1 ≤ 1) : Row w p t := by
 cases t with
 | nil => exact Row.nil _ _
 | cons z t => simp at h
theorem cmn_step (x y : Rq) (s t : List Rq) : cmn (x :: s) (y :: t) = (if MeetR x y then [inR x y] else []) ++ (if x.hi < y.hi then cmn s (y :: t) else cmn (x :: s) t) := by rw [cmn]
theorem cmn_nil (s : List Rq) : cmn s [] = [] := by cases s <;> simp [cmn]
theorem cmn_nil' (t : List Rq) : cmn [] t = [] := by cases t <;> simp [cmn]
theorem cmn1 (A B O base : Nat) (x y : Rq) (s t L : List Rq) (w0 : World) (w : World) (hA : SlV w0 w A (x :: s)) (hB : SlV w0 w B (y :: t)) (hO : OwV w base O L) (hd : Dn w0 w) (n0 : w0.heap.size ≤ A) (n1 : A < B) (n2 : B < O) (n3 : O < base) (hx : x.ok) (hy : y.ok) (hL : L.length ≤ 900000) :
    Calls Tryz.prog 133 #[.pointer (some ⟨A, 0, none⟩), .pointer (some ⟨B, 0, none⟩), .pointer (some ⟨O, 0, none⟩)] w fun ro w' => ro = .returned (.tuple #[]) ∧ ∃ s' t', (x.hi < y.hi → s' = s ∧ t' = y :: t) ∧ (¬ x.hi < y.hi → s' = x :: s ∧ t' = t) ∧ SlV w0 w' A s' ∧ SlV w0 w' B t' ∧ OwV w' base O (L ++ (if MeetR x y then [inR x y] else [])) ∧ Dn w0 w' := by
  have hmi := meet_iff (p := x) (x := y) ⟨hx.1, hx.2.1⟩ ⟨hy.1, hy.2.1⟩
  have HXO := Lib.hid hx
  have HYO := Lib.hid hy
  have hT := Lib.hid (fun i1 d1 i2 d2 is W k => rnCommon x.a x.b x.c x.d y.a y.b y.c y.d i1 d1 i2 d2 is W hx.1 hx.2.1 hy.1 hy.2.1 k)
  have hCe := Lib.hid (fun W => eCmp x.c x.d y.c y.d W)
  have hlt := eC_lt (i := x.c) (j := y.c) hx.2.1 hy.2.1
  have hs0 : (0 : Int) < (s.length : Int) + 1 := by omega
  have ht0 : (0 : Int) < (t.length : Int) + 1 := by omega
  obtain ⟨⟨pa, ca, av1, a2, a3, a4⟩, -, la⟩ := id hA
  obtain ⟨⟨pb, cb, bv1, b2', b3', b4'⟩, -, lb⟩ := id hB
  obtain ⟨g, o, rfl, cx0⟩ := a4.cs (by simp)
  obtain ⟨g2, o2, rfl, cy0⟩ := b4'.cs (by simp)
  rw [List.length_cons] at av1 a2 bv1 b2'
  have HCX := Lib.hid cx0
  have HCY := Lib.hid cy0
  clear a4 b4' hx hy cx0 cy0
  by_cases hm : MeetR x y
  · have HM := Lib.hid hm
    have hmt : Meet x.a x.b x.c x.d y.a y.b y.c y.d := hmi.2 hm
    clear hm hmi
    have HMT := Lib.hid hmt
    clear hmt
    go_enter Tryz.func133, Tryz.ntmps133
    go_wp2_with fail
    obtain ⟨xq0, xq1, xq2, xq3⟩ := (HCX.out.dn hd).head
    have xl := (HCX.out.dn hd).lt
    obtain ⟨yq0, yq1, yq2, yq3⟩ := (HCY.out.dn hd).head
    have yl := (HCY.out.dn hd).lt
    refine region_inv (fun A l a' w' => ∃ (b0 b1 b2 b3 b4 b5 b6 b7 b8 b9 b10 b11 b12 : Bool) (x6 x7 x8 x9 x10 x11 x12 x5 x13 x14 x3 x4 : Value), l = #[b0, b1, b2, b3, b4, b5, b6, b7, b8, b9, b10, b11, b12] ∧ a' = ((((((((((((A.put (some 6) x6).put (some 7) x7).put (some 8) x8).put (some 9) x9).put (some 10) x10).put (some 11) x11).put (some 12) x12).put (some 5) x5).put (some 13) x13).put (some 14) x14).put (some 3) x3).put (some 4) x4) ∧ Dn w w' ∧ (b0 = true → x6 = .slice (some ⟨g, o, none⟩) (s.length + 1) ca) ∧ (b1 = true → x7 = .pointer (some ⟨g, o, none⟩)) ∧ (b2 = true → x8 = .agg #[.int .i8 x.a, .int .i64 x.b, .int .i8 x.c, .int .i64 x.d]) ∧ (b3 = true → x9 = .slice (some ⟨g2, o2, none⟩) (t.length + 1) cb) ∧ (b4 = true → x10 = .pointer (some ⟨g2, o2, none⟩)) ∧ (b5 = true → x11 = .agg #[.int .i8 y.a, .int .i64 y.b, .int .i8 y.c, .int .i64 y.d]) ∧ (b6 = true → x12 = .tuple #[.agg #[.int .i8 (mxI x.a x.b y.a y.b), .int .i64 (mxD x.a x.b y.a y.b), .int .i8 (mnI x.c x.d y.c y.d), .int .i64 (mnD x.c x.d y.c y.d)], .bool true]) ∧ (b7 = true → x5 = .tuple #[.agg #[.int .i8 (mxI x.a x.b y.a y.b), .int .i64 (mxD x.a x.b y.a y.b), .int .i8 (mnI x.c x.d y.c y.d), .int .i64 (mnD x.c x.d y.c y.d)], .bool true]) ∧ (b8 = true → x13 = .agg #[.int .i8 (mxI x.a x.b y.a y.b), .int .i64 (mxD x.a x.b y.a y.b), .int .i8 (mnI x.c x.d y.c y.d), .int .i64 (mnD x.c x.d y.c y.d)]) ∧ (b9 = true → x14 = .bool true) ∧ (b12 = true → x4 = .bool true) ∧ (b11 = true → b10 = true) ∧ Bl w.heap.size w' b10 b11 x3 (.int .i8 (mxI x.a x.b y.a y.b)) (.int .i64 (mxD x.a x.b y.a y.b)) (.int .i8 (mnI x.c x.d y.c y.d)) (.int .i64 (mnD x.c x.d y.c y.d))) (by kernel_rfl) ?_ ?_ ?_
    · exact ⟨false, false, false, false, false, false, false, false, false, false, false, false, false, undef, undef, undef, undef, undef, undef, undef, undef, undef, undef, undef, undef, rfl, by simp only [Act.put, pL], (Dn.refl _).drew, (fun h => by cases h), (fun h => by cases h), (fun h => by cases h), (fun h => by cases h), (fun h => by cases h), (fun h => by cases h), (fun h => by cases h), (fun h => by cases h), (fun h => by cases h), (fun h => by cases h), (fun h => by cases h), (fun h => by cases h), Bl.no⟩
    · rintro l a' w' i ⟨b0, b1, b2, b3, b4, b5, b6, b7, b8, b9, b10, b11, b12, x6, x7, x8, x9, x10, x11, x12, x5, x13, x14, x3, x4, rfl, rfl, q, hv0, hv1, hv2, hv3, hv4, hv5, hv6, hv7, hv8, hv9, hv12, hs10, hk10⟩ hun hdep hi
      simp only [Act.put, pL]
      have hi' : i < 13 := hi
      rcases (show i = 0 ∨ i = 1 ∨ i = 2 ∨ i = 3 ∨ i = 4 ∨ i = 5 ∨ i = 6 ∨ i = 7 ∨ i = 8 ∨ i = 9 ∨ i = 10 ∨ i = 11 ∨ i = 12 by omega) with rfl | rfl | rfl | rfl | rfl | rfl | rfl | rfl | rfl | rfl | rfl | rfl | rfl
      ·
        have f0 : b0 = false := by simpa using hun
        subst f0
        have g2 := q.cell av1
        refine wpOp_step rfl (fun K hK => ?_)
        replace hK := Lib.hid hK
        go_simp
        exact hK.out _ _ ⟨true, b1, b2, b3, b4, b5, b6, b7, b8, b9, b10, b11, b12, .slice (some ⟨g, o, none⟩) (s.length + 1) ca, x7, x8, x9, x10, x11, x12, x5, x13, x14, x3, x4, rfl, by first | (simp only [Act.put, pL]; done) | rfl, q, fun _ => rfl, hv1, hv2, hv3, hv4, hv5, hv6, hv7, hv8, hv9, hv12, hs10, hk10⟩
      ·
        have e0 : b0 = true := hdep _ rfl ⟨0, .data⟩ (by simp) rfl
        have f1 : b1 = false := by simpa using hun
        subst f1 e0
        obtain rfl := hv0 rfl
        refine wpOp_step rfl (fun K hK => ?_)
        replace hK := Lib.hid hK
        go_simp
        exact hK.out _ _ ⟨true, true, b2, b3, b4, b5, b6, b7, b8, b9, b10, b11, b12, .slice (some ⟨g, o, none⟩) (s.length + 1) ca, .pointer (some ⟨g, o, none⟩), x8, x9, x10, x11, x12, x5, x13, x14, x3, x4, rfl, by first | (simp only [Act.put, pL]; done) | rfl, q, fun _ => rfl, fun _ => rfl, hv2, hv3, hv4, hv5, hv6, hv7, hv8, hv9, hv12, hs10, hk10⟩
      ·
        have e1 : b1 = true := hdep _ rfl ⟨1, .data⟩ (by simp) rfl
        have f2 : b2 = false := by simpa using hun
        subst f2 e1
        obtain rfl := hv1 rfl
        obtain ⟨g3, g4, g5, g6⟩ := mv4 q.cell xq0 xq1 xq2 xq3
        refine wpOp_step rfl (fun K hK => ?_)
        replace hK := Lib.hid hK
        go_simp
        exact hK.out _ _ ⟨b0, true, true, b3, b4, b5, b6, b7, b8, b9, b10, b11, b12, x6, .pointer (some ⟨g, o, none⟩), .agg #[.int .i8 x.a, .int .i64 x.b, .int .i8 x.c, .int .i64 x.d], x9, x10, x11, x12, x5, x13, x14, x3, x4, rfl, by first | (simp only [Act.put, pL]; done) | rfl, q, hv0, fun _ => rfl, fun _ => rfl, hv3, hv4, hv5, hv6, hv7, hv8, hv9, hv12, hs10, hk10⟩
      ·
        have f3 : b3 = false := by simpa using hun
        subst f3
        have g7 := q.cell bv1
        refine wpOp_step rfl (fun K hK => ?_)
        replace hK := Lib.hid hK
        go_simp
        exact hK.out _ _ ⟨b0, b1, b2, true, b4, b5, b6, b7, b8, b9, b10, b11, b12, x6, x7, x8, .slice (some ⟨g2, o2, none⟩) (t.length + 1) cb, x10, x11, x12, x5, x13, x14, x3, x4, rfl, by first | (simp only [Act.put, pL]; done) | rfl, q, hv0, hv1, hv2, fun _ => rfl, hv4, hv5, hv6, hv7, hv8, hv9, hv12, hs10, hk10⟩
      ·
        have e3 : b3 = true := hdep _ rfl ⟨3, .data⟩ (by simp) rfl
        have f4 : b4 = false := by simpa using hun
        subst f4 e3
        obtain rfl := hv3 rfl
        refine wpOp_step rfl (fun K hK => ?_)
        replace hK := Lib.hid hK
        go_simp
        exact hK.out _ _ ⟨b0, b1, b2, true, true, b5, b6, b7, b8, b9, b10, b11, b12, x6, x7, x8, .slice (some ⟨g2, o2, none⟩) (t.length + 1) cb, .pointer (some ⟨g2, o2, none⟩), x11, x12, x5, x13, x14, x3, x4, rfl, by first | (simp only [Act.put, pL]; done) | rfl, q, hv0, hv1, hv2, fun _ => rfl, fun _ => rfl, hv5, hv6, hv7, hv8, hv9, hv12, hs10, hk10⟩
      ·
        have e4 : b4 = true := hdep _ rfl ⟨4, .data⟩ (by simp) rfl
        have f5 : b5 = false := by simpa using hun
        subst f5 e4
        obtain rfl := hv4 rfl
        obtain ⟨g8, g9, g10, g11⟩ := mv4 q.cell yq0 yq1 yq2 yq3
        refine wpOp_step rfl (fun K hK => ?_)
        replace hK := Lib.hid hK
        go_simp
        exact hK.out _ _ ⟨b0, b1, b2, b3, true, true, b6, b7, b8, b9, b10, b11, b12, x6, x7, x8, x9, .pointer (some ⟨g2, o2, none⟩), .agg #[.int .i8 y.a, .int .i64 y.b, .int .i8 y.c, .int .i64 y.d], x12, x5, x13, x14, x3, x4, rfl, by first | (simp only [Act.put, pL]; done) | rfl, q, hv0, hv1, hv2, hv3, fun _ => rfl, fun _ => rfl, hv6, hv7, hv8, hv9, hv12, hs10, hk10⟩
      ·
        have e2 : b2 = true := hdep _ rfl ⟨2, .data⟩ (by simp) rfl
        have e5 : b5 = true := hdep _ rfl ⟨5, .data⟩ (by simp) rfl
        have f6 : b6 = false := by simpa using hun
        subst f6 e2 e5
        obtain rfl := hv2 rfl
        obtain rfl := hv5 rfl
        refine wpOp_step rfl (fun K hK => ?_)
        replace hK := Lib.hid hK
        go_simp
        go_at_call 134
        refine (hT.out _ _ _ _ _ _ (Or.inl ⟨HMT.out, rfl, rfl, rfl, rfl, rfl⟩)).mono ?_
        rintro e wa ⟨rfl, qa⟩
        try go_wp2_with fail
        exact hK.out _ _ ⟨b0, b1, true, b3, b4, true, true, b7, b8, b9, b10, b11, b12, x6, x7, .agg #[.int .i8 x.a, .int .i64 x.b, .int .i8 x.c, .int .i64 x.d], x9, x10, .agg #[.int .i8 y.a, .int .i64 y.b, .int .i8 y.c, .int .i64 y.d], .tuple #[.agg #[.int .i8 (mxI x.a x.b y.a y.b), .int .i64 (mxD x.a x.b y.a y.b), .int .i8 (mnI x.c x.d y.c y.d), .int .i64 (mnD x.c x.d y.c y.d)], .bool true], x5, x13, x14, x3, x4, rfl, by first | (simp only [Act.put, pL]; done) | rfl, q.trans qa, hv0, hv1, fun _ => rfl, hv3, hv4, fun _ => rfl, fun _ => rfl, hv7, hv8, hv9, hv12, hs10, hk10.dn qa⟩
      ·
        have e6 : b6 = true := hdep _ rfl ⟨6, .data⟩ (by simp) rfl
        have f7 : b7 = false := by simpa using hun
        subst f7 e6
        obtain rfl := hv6 rfl
        refine wpOp_step rfl (fun K hK => ?_)
        replace hK := Lib.hid hK
        go_simp
        exact hK.out _ _ ⟨b0, b1, b2, b3, b4, b5, true, true, b8, b9, b10, b11, b12, x6, x7, x8, x9, x10, x11, .tuple #[.agg #[.int .i8 (mxI x.a x.b y.a y.b), .int .i64 (mxD x.a x.b y.a y.b), .int .i8 (mnI x.c x.d y.c y.d), .int .i64 (mnD x.c x.d y.c y.d)], .bool true], .tuple #[.agg #[.int .i8 (mxI x.a x.b y.a y.b), .int .i64 (mxD x.a x.b y.a y.b), .int .i8 (mnI x.c x.d y.c y.d), .int .i64 (mnD x.c x.d y.c y.d)], .bool true], x13, x14, x3, x4, rfl, by first | (simp only [Act.put, pL]; done) | rfl, q, hv0, hv1, hv2, hv3, hv4, hv5, fun _ => rfl, fun _ => rfl, hv8, hv9, hv12, hs10, hk10⟩
      ·
        have e7 : b7 = true := hdep _ rfl ⟨7, .data⟩ (by simp) rfl
        have f8 : b8 = false := by simpa using hun
        subst f8 e7
        obtain rfl := hv7 rfl
        refine wpOp_step rfl (fun K hK => ?_)
        replace hK := Lib.hid hK
        go_simp
        exact hK.out _ _ ⟨b0, b1, b2, b3, b4, b5, b6, true, true, b9, b10, b11, b12, x6, x7, x8, x9, x10, x11, x12, .tuple #[.agg #[.int .i8 (mxI x.a x.b y.a y.b), .int .i64 (mxD x.a x.b y.a y.b), .int .i8 (mnI x.c x.d y.c y.d), .int .i64 (mnD x.c x.d y.c y.d)], .bool true], .agg #[.int .i8 (mxI x.a x.b y.a y.b), .int .i64 (mxD x.a x.b y.a y.b), .int .i8 (mnI x.c x.d y.c y.d), .int .i64 (mnD x.c x.d y.c y.d)], x14, x3, x4, rfl, by first | (simp only [Act.put, pL]; done) | rfl, q, hv0, hv1, hv2, hv3, hv4, hv5, hv6, fun _ => rfl, fun _ => rfl, hv9, hv12, hs10, hk10⟩
      ·
        have e7 : b7 = true := hdep _ rfl ⟨7, .data⟩ (by simp) rfl
        have f9 : b9 = false := by simpa using hun
        subst f9 e7
        obtain rfl := hv7 rfl
        refine wpOp_step rfl (fun K hK => ?_)
        replace hK := Lib.hid hK
        go_simp
        exact hK.out _ _ ⟨b0, b1, b2, b3, b4, b5, b6, true, b8, true, b10, b11, b12, x6, x7, x8, x9, x10, x11, x12, .tuple #[.agg #[.int .i8 (mxI x.a x.b y.a y.b), .int .i64 (mxD x.a x.b y.a y.b), .int .i8 (mnI x.c x.d y.c y.d), .int .i64 (mnD x.c x.d y.c y.d)], .bool true], x13, .bool true, x3, x4, rfl, by first | (simp only [Act.put, pL]; done) | rfl, q, hv0, hv1, hv2, hv3, hv4, hv5, hv6, fun _ => rfl, hv8, fun _ => rfl, hv12, hs10, hk10⟩
      ·
        have f10 : b10 = false := by simpa using hun
        subst f10
        obtain rfl : b11 = false := by
          cases b11 with
          | false => rfl
          | true => exact absurd (hs10 rfl) (by simp)
        refine wpOp_step rfl (fun K hK => ?_)
        replace hK := Lib.hid hK
        go_simp
        exact hK.out _ _ ⟨b0, b1, b2, b3, b4, b5, b6, b7, b8, b9, true, false, b12, x6, x7, x8, x9, x10, x11, x12, x5, x13, x14, .pointer (some ⟨w'.heap.size, 0, none⟩), x4, rfl, by first | (simp only [Act.put, pL]; done) | rfl, q.alloc _, hv0, hv1, hv2, hv3, hv4, hv5, hv6, hv7, hv8, hv9, hv12, fun _ => rfl, Bl.new q.size _⟩
      ·
        have e10 : b10 = true := hdep _ rfl ⟨10, .data⟩ (by simp) rfl
        have e8 : b8 = true := hdep _ rfl ⟨8, .data⟩ (by simp) rfl
        have f11 : b11 = false := by simpa using hun
        subst f11 e10 e8
        obtain rfl := hv8 rfl
        obtain ⟨B, rfl, hL, hz, _⟩ := hk10 rfl
        have hB := hz rfl
        have z0 := hB.c0
        have y0 := hB.f0
        have z1 := hB.c1
        have y1 := hB.f1
        have z2 := hB.c2
        have y2 := hB.f2
        have z3 := hB.c3
        have y3 := hB.f3
        have zl := hB.lt
        refine wpOp_step rfl (fun K hK => ?_)
        replace hK := Lib.hid hK
        go_simp
        exact hK.out _ _ ⟨b0, b1, b2, b3, b4, b5, b6, b7, true, b9, true, true, b12, x6, x7, x8, x9, x10, x11, x12, x5, .agg #[.int .i8 (mxI x.a x.b y.a y.b), .int .i64 (mxD x.a x.b y.a y.b), .int .i8 (mnI x.c x.d y.c y.d), .int .i64 (mnD x.c x.d y.c y.d)], x14, .pointer (some ⟨B, 0, none⟩), x4, rfl, by first | (simp only [Act.put, pL]; done) | rfl, (Dn.setCell (Dn.setCell (Dn.setCell (Dn.setCell q (by simpa using hL) _) (by simpa using hL) _) (by simpa using hL) _) (by simpa using hL) _), hv0, hv1, hv2, hv3, hv4, hv5, hv6, hv7, fun _ => rfl, hv9, hv12, fun _ => rfl, fun _ => ⟨B, rfl, hL, (fun k => by cases k), fun _ => hB.fill _ _ _ _⟩⟩
      ·
        have e9 : b9 = true := hdep _ rfl ⟨9, .data⟩ (by simp) rfl
        have f12 : b12 = false := by simpa using hun
        subst f12 e9
        obtain rfl := hv9 rfl
        refine wpOp_step rfl (fun K hK => ?_)
        replace hK := Lib.hid hK
        go_simp
        exact hK.out _ _ ⟨b0, b1, b2, b3, b4, b5, b6, b7, b8, true, b10, b11, true, x6, x7, x8, x9, x10, x11, x12, x5, x13, .bool true, x3, .bool true, rfl, by first | (simp only [Act.put, pL]; done) | rfl, q, hv0, hv1, hv2, hv3, hv4, hv5, hv6, hv7, hv8, fun _ => rfl, fun _ => rfl, hs10, hk10⟩
    · rintro l a' W12 ⟨b0, b1, b2, b3, b4, b5, b6, b7, b8, b9, b10, b11, b12, x6, x7, x8, x9, x10, x11, x12, x5, x13, x14, x3, x4, rfl, rfl, qW12, hv0, hv1, hv2, hv3, hv4, hv5, hv6, hv7, hv8, hv9, hv12, hs10, hk10⟩ hall
      obtain rfl : b0 = true := by
        cases b0 with
        | true => rfl
        | false => exact absurd (by intro e he hb; simp at he <;> (repeat' (rcases he with rfl | he)) <;> first | rfl | exact absurd hb (by decide)) (hall 0 _ rfl rfl)
      obtain rfl : b1 = true := by
        cases b1 with
        | true => rfl
        | false => exact absurd (by intro e he hb; simp at he <;> (repeat' (rcases he with rfl | he)) <;> first | rfl | exact absurd hb (by decide)) (hall 1 _ rfl rfl)
      obtain rfl : b2 = true := by
        cases b2 with
        | true => rfl
        | false => exact absurd (by intro e he hb; simp at he <;> (repeat' (rcases he with rfl | he)) <;> first | rfl | exact absurd hb (by decide)) (hall 2 _ rfl rfl)
      obtain rfl : b3 = true := by
        cases b3 with
        | true => rfl
        | false => exact absurd (by intro e he hb; simp at he <;> (repeat' (rcases he with rfl | he)) <;> first | rfl | exact absurd hb (by decide)) (hall 3 _ rfl rfl)
      obtain rfl : b4 = true := by
        cases b4 with
        | true => rfl
        | false => exact absurd (by intro e he hb; simp at he <;> (repeat' (rcases he with rfl | he)) <;> first | rfl | exact absurd hb (by decide)) (hall 4 _ rfl rfl)
      obtain rfl : b5 = true := by
        cases b5 with
        | true => rfl
        | false => exact absurd (by intro e he hb; simp at he <;> (repeat' (rcases he with rfl | he)) <;> first | rfl | exact absurd hb (by decide)) (hall 5 _ rfl rfl)
      obtain rfl : b6 = true := by
        cases b6 with
        | true => rfl
        | false => exact absurd (by intro e he hb; simp at he <;> (repeat' (rcases he with rfl | he)) <;> first | rfl | exact absurd hb (by decide)) (hall 6 _ rfl rfl)
      obtain rfl : b7 = true := by
        cases b7 with
        | true => rfl
        | false => exact absurd (by intro e he hb; simp at he <;> (repeat' (rcases he with rfl | he)) <;> first | rfl | exact absurd hb (by decide)) (hall 7 _ rfl rfl)
      obtain rfl : b8 = true := by
        cases b8 with
        | true => rfl
        | false => exact absurd (by intro e he hb; simp at he <;> (repeat' (rcases he with rfl | he)) <;> first | rfl | exact absurd hb (by decide)) (hall 8 _ rfl rfl)
      obtain rfl : b9 = true := by
        cases b9 with
        | true => rfl
        | false => exact absurd (by intro e he hb; simp at he <;> (repeat' (rcases he with rfl | he)) <;> first | rfl | exact absurd hb (by decide)) (hall 9 _ rfl rfl)
      obtain rfl : b10 = true := by
        cases b10 with
        | true => rfl
        | false => exact absurd (by intro e he hb; simp at he <;> (repeat' (rcases he with rfl | he)) <;> first | rfl | exact absurd hb (by decide)) (hall 10 _ rfl rfl)
      obtain rfl : b11 = true := by
        cases b11 with
        | true => rfl
        | false => exact absurd (by intro e he hb; simp at he <;> (repeat' (rcases he with rfl | he)) <;> first | rfl | exact absurd hb (by decide)) (hall 11 _ rfl rfl)
      obtain rfl : b12 = true := by
        cases b12 with
        | true => rfl
        | false => exact absurd (by intro e he hb; simp at he <;> (repeat' (rcases he with rfl | he)) <;> first | rfl | exact absurd hb (by decide)) (hall 12 _ rfl rfl)
      obtain rfl := hv0 rfl
      obtain rfl := hv1 rfl
      obtain rfl := hv2 rfl
      obtain rfl := hv3 rfl
      obtain rfl := hv4 rfl
      obtain rfl := hv5 rfl
      obtain rfl := hv6 rfl
      obtain rfl := hv7 rfl
      obtain rfl := hv8 rfl
      obtain rfl := hv9 rfl
      obtain rfl := hv12 rfl
      obtain ⟨Bt3, rfl, ot3, _, gt3⟩ := hk10 rfl
      obtain ⟨t3c0, t3c1, t3c2, t3c3, t3f0, t3f1, t3f2, t3f3, lt3⟩ := gt3 rfl
      clear gt3
      replace hA := hA.dn qW12
      replace hB := hB.dn qW12
      replace hO := hO.dn qW12
      have aR := nlt xl qW12.size
      have aS := nlt yl qW12.size
      have aT := nlt la qW12.size
      have aU := nlt lb qW12.size
      obtain ⟨a0, a1, a5, a6, a7, a8, a9, aA, aB, aC⟩ := mv10 qW12.cell xq0 xq1 xq2 xq3 yq0 yq1 yq2 yq3 av1 bv1
      clear xl xq0 xq1 xq2 xq3 yl yq0 yq1 yq2 yq3 la av1 lb bv1
      clear t3f0 t3f1 t3f2 t3f3
      have vW12 := hd.trans qW12
      clear hv0 hv1 hv2 hv3 hv4 hv5 hv6 hv7 hv8 hv9 hv12 hs10 hk10 ot3 hall
      simp only [Act.put, pL]
      obtain ⟨⟨v, v1, v2⟩, vf, vl, vb⟩ := hO
      go_wp2_with (at_builtin; refine list_runB rfl _ _ rfl W12 base v L (mxI x.a x.b y.a y.b) (mxD x.a x.b y.a y.b) (mnI x.c x.d y.c y.d) (mnD x.c x.d y.c y.d) rfl v2 rfl (by omega) vb ?_)
      intro v' w' hown' hold hsz hdn
      have hd2 : Dn w0 w' := hdn w0 vW12 (by omega)
      have hA2 := hA.same (hold A (by omega)) hsz
      have hB2 := hB.same (hold B (by omega)) hsz
      have ov := cell_same (hold O vl) v1
      have of : w'.frozen? ⟨O, 0, none⟩ = false := (frozen_same (hold O vl)).trans vf
      have hsz2 := hd2.size
      clear hA hB v1 v2 vf hold hdn vW12 a0 a1 a5 a6 a7 a8 a9 aA aB aC t3c0 t3c1 t3c2 t3c3
      obtain ⟨p', cap', hv', -, -⟩ := hown'.rowOf
      obtain ⟨n', hn'⟩ : ∃ n', n' = (L ++ [(⟨mxI x.a x.b y.a y.b, mxD x.a x.b y.a y.b, mnI x.c x.d y.c y.d, mnD x.c x.d y.c y.d⟩ : Rq)]).length := ⟨_, rfl⟩
      rw [← hn'] at hv'
      subst hv'
      clear hn'
      go_upto_region 3 with fail
      obtain ⟨W2, hW2⟩ : ∃ W2, W2 = w'.setCell ⟨O, 0, none⟩ (.slice p' n' cap') := ⟨_, rfl⟩
      have hd : Dn w0 W2 := by rw [hW2]; exact hd2.setCell (show w0.heap.size ≤ O by omega) _
      have hA : SlV w0 W2 A (x :: s) := by rw [hW2]; exact hA2.far (by omega) _
      have hB : SlV w0 W2 B (y :: t) := by rw [hW2]; exact hB2.far (by omega) _
      have hO : OwV W2 base O (L ++ [inR x y]) := by
        rw [hW2]
        exact ⟨⟨_, by simp [go_sem, ov], (show OwnQ w' base (.slice p' n' cap') (L ++ [inR x y]) from hown').low vl _⟩, by simpa using of, vl, by simp; omega⟩
      rw [← hW2]
      clear hW2 hA2 hB2 ov of hown' hd2
      by_cases hc : eC x.c x.d y.c y.d < 0
      · have dc : decide (eC x.c x.d y.c y.d < 0) = true := by simpa using hc
        have HLT : Hid (x.hi < y.hi) := Lib.hid (hlt.1 hc)
        clear hc hlt
        generalize eC x.c x.d y.c y.d = n at *
        obtain ⟨⟨pa, ca2, aw1, aw2, aw3, aw4⟩, -, la'⟩ := (id hA : SlV w0 W2 A (x :: s))
        obtain ⟨ga', oa', rfl, hca⟩ := aw4.cs (by simp)
        have HCA' := Lib.hid hca
        rw [List.length_cons] at aw1 aw2
        clear aw4 hca
        obtain ⟨⟨pb, cb2, bw1, bw2, bw3, bw4⟩, -, lb'⟩ := (id hB : SlV w0 W2 B (y :: t))
        obtain ⟨gb', ob', rfl, hcb⟩ := bw4.cs (by simp)
        have HCB' := Lib.hid hcb
        rw [List.length_cons] at bw1 bw2
        clear bw4 hcb
        obtain ⟨xq0, xq1, xq2, xq3⟩ := (HCA'.out.dn hd).head
        have xl := (HCA'.out.dn hd).lt
        obtain ⟨yq0, yq1, yq2, yq3⟩ := (HCB'.out.dn hd).head
        have yl := (HCB'.out.dn hd).lt
        go_wp2_with fail
        have hS27 := kdSK_10 (W := W2) (Dn.refl _) ⟨Dn.refl _, xq0, xq1, xq2, xq3, yq0, yq1, yq2, yq3, aw1, bw1⟩
        have HShS27 := Lib.hid hS27
        clear xq0 xq1 xq2 xq3 yq0 yq1 yq2 yq3 aw1 bw1
        refine wp_region_held_drew (S := fun w' => Dn W2 w' ∧ w'.cell? ⟨ga', oa', none⟩ = some (.int .i8 x.a) ∧ w'.cell? ⟨ga', oa' + 1, none⟩ = some (.int .i64 x.b) ∧ w'.cell? ⟨ga', oa' + 2, none⟩ = some (.int .i8 x.c) ∧ w'.cell? ⟨ga', oa' + 3, none⟩ = some (.int .i64 x.d) ∧ w'.cell? ⟨gb', ob', none⟩ = some (.int .i8 y.a) ∧ w'.cell? ⟨gb', ob' + 1, none⟩ = some (.int .i64 y.b) ∧ w'.cell? ⟨gb', ob' + 2, none⟩ = some (.int .i8 y.c) ∧ w'.cell? ⟨gb', ob' + 3, none⟩ = some (.int .i64 y.d) ∧ w'.cell? ⟨A, 0, none⟩ = some (.slice (some ⟨ga', oa', none⟩) (s.length + 1) ca2) ∧ w'.cell? ⟨B, 0, none⟩ = some (.slice (some ⟨gb', ob', none⟩) (t.length + 1) cb2)) (by kernel_rfl) ?_ (fun hHeld => ?_)
        · (try dsimp only); (first | exact kdSK_10 ((Dn.refl _).drew) hS27 | exact kdSK_10 ‹Dn _ _› ‹_› | exact kdSK_10 (Up.dn ‹Up _ _›) ‹_› | assumption | exact kdSK_10 ((Dn.refl _).alloc _) ‹_›)
        refine tk 0 ?_ rfl (by kernel_rfl) (fun _ _ _ => id) (by rfl) (by assumption) ?_ ?_
        rotate_left
        · (intro w hSw; (try dsimp only at hSw); go_simp)
          all_goals with_reducible rfl
        try simp only [Act.put, pL]
        refine tk 1 ?_ rfl (by kernel_rfl) (fun _ _ _ => id) (by rfl) (by assumption) ?_ ?_
        rotate_left
        · (intro w hSw; (try dsimp only at hSw); go_simp)
          all_goals with_reducible rfl
        try simp only [Act.put, pL]
        refine tk 2 ?_ rfl (by kernel_rfl) (fun _ _ _ => id) (by rfl) (by assumption) ?_ ?_
        rotate_left
        · (intro w hSw; (try dsimp only at hSw); go_simp)
          all_goals with_reducible rfl
        try simp only [Act.put, pL]
        refine tk 3 ?_ rfl (by kernel_rfl) (fun _ _ _ => id) (by rfl) (by assumption) ?_ ?_
        rotate_left
        · (intro w hSw; (try dsimp only at hSw); go_simp)
          all_goals with_reducible rfl
        try simp only [Act.put, pL]
        refine tk 4 ?_ rfl (by kernel_rfl) (fun _ _ _ => id) (by rfl) (by assumption) ?_ ?_
        rotate_left
        · (intro w hSw; (try dsimp only at hSw); go_simp)
          all_goals with_reducible rfl
        try simp only [Act.put, pL]
        refine tk 5 ?_ rfl (by kernel_rfl) (fun _ _ _ => id) (by rfl) (by assumption) ?_ ?_
        rotate_left
        · (intro w hSw; (try dsimp only at hSw); go_simp)
          all_goals with_reducible rfl
        try simp only [Act.put, pL]
        refine tk 6 ?_ rfl (by kernel_rfl) (fun _ _ _ => id) (by rfl) (by assumption) ?_ ?_
        rotate_left
        · (intro w hSw; (try dsimp only at hSw); go_simp)
          all_goals with_reducible rfl
        try simp only [Act.put, pL]
        refine tk 7 ?_ rfl (by kernel_rfl) (fun _ _ _ => id) (by rfl) (by assumption) ?_ ?_
        rotate_left
        · (intro w hSw; (try dsimp only at hSw); go_simp)
          all_goals with_reducible rfl
        try simp only [Act.put, pL]
        refine wpAnyH_ready (rs := [8]) (by kernel_rfl) (by simp) ?_
        refine AllReadyH.cons rfl (fun K hK => ?_) AllReadyH.nil
        go_simp
        (first
            | (go_at_call 15; refine (hCe.out _).mono ?_; rintro e wa ⟨rfl, qa⟩; replace qa := Up.dn qa))
        try go_wp2_with fail
        refine hK.out _ _ ?_ (fun hHeld => ?_)
        · (try dsimp only); (first | exact kdSK_10 ((Dn.refl _).drew) hS27 | exact kdSK_10 ‹Dn _ _› ‹_› | exact kdSK_10 (Up.dn ‹Up _ _›) ‹_› | assumption | exact kdSK_10 ((Dn.refl _).alloc _) ‹_›)
        clear hK K
        try simp only [Act.put, pL]
        refine tk 9 ?_ rfl (by kernel_rfl) (fun _ _ _ => id) (by rfl) (by assumption) ?_ ?_
        rotate_left
        · (intro w hSw; (try dsimp only at hSw); go_simp)
          all_goals with_reducible rfl
        try simp only [Act.put, pL]
        refine wpAnyH_done (by kernel_rfl) ?_ _
        all_goals skip
        all_goals
          clear hS27
          obtain ⟨uf38, aD, aE, aF, aG, aH, aI, aJ, aK, aL, aM⟩ := (‹Dn W2 _ ∧ _› : _ ∧ _)
          obtain ⟨w39, rfl⟩ : ∃ w39 : World, w39 = wa := ⟨_, rfl⟩
          have aN := nlt xl uf38.size
          clear xl
          have aO := nlt yl uf38.size
          clear yl
          have aP := nlt la' uf38.size
          clear la'
          have aQ := nlt lb' uf38.size
          clear lb'
          replace hA := hA.dn uf38
          replace hB := hB.dn uf38
          replace hO := hO.dn uf38
          have vuf38 := hd.trans uf38
          clear uf38 hd HShS27
          have zf := hA.f
          go_wp2_with fail
          all_goals
            (try simp only [Exit.inBlock, Exit.then])
            refine bodyPost_ret (results_none rfl _ _ _) rfl ?_
            refine ⟨rfl, s, y :: t, fun _ => ⟨rfl, rfl⟩, fun h => by have h2 := HLT.out; omega, ?_⟩
            first | rw [if_pos HM.out] | skip
            first
              | exact ⟨(hA.set (t := s) (by omega) (by omega) (rt1 (by omega))), (hB.far (by omega) _), hO.far (by omega) (by omega) _, vuf38.setCell (show w0.heap.size ≤ A by omega) _⟩
              | exact ⟨(hA.set (t := s) (by omega) (by omega) HCA'.out.tail.row), (hB.far (by omega) _), hO.far (by omega) (by omega) _, vuf38.setCell (show w0.heap.size ≤ A by omega) _⟩
      · have dc : decide (eC x.c x.d y.c y.d < 0) = false := by simpa using hc
        have HLT : Hid (¬ x.hi < y.hi) := Lib.hid (fun h => hc (hlt.2 h))
        clear hc hlt
        generalize eC x.c x.d y.c y.d = n at *
        obtain ⟨⟨pa, ca2, aw1, aw2, aw3, aw4⟩, -, la'⟩ := (id hA : SlV w0 W2 A (x :: s))
        obtain ⟨ga', oa', rfl, hca⟩ := aw4.cs (by simp)
        have HCA' := Lib.hid hca
        rw [List.length_cons] at aw1 aw2
        clear aw4 hca
        obtain ⟨⟨pb, cb2, bw1, bw2, bw3, bw4⟩, -, lb'⟩ := (id hB : SlV w0 W2 B (y :: t))
        obtain ⟨gb', ob', rfl, hcb⟩ := bw4.cs (by simp)
        have HCB' := Lib.hid hcb
        rw [List.length_cons] at bw1 bw2
        clear bw4 hcb
        obtain ⟨xq0, xq1, xq2, xq3⟩ := (HCA'.out.dn hd).head
        have xl := (HCA'.out.dn hd).lt
        obtain ⟨yq0, yq1, yq2, yq3⟩ := (HCB'.out.dn hd).head
        have yl := (HCB'.out.dn hd).lt
        go_wp2_with fail
        have hS27 := kdSK_10 (W := W2) (Dn.refl _) ⟨Dn.refl _, xq0, xq1, xq2, xq3, yq0, yq1, yq2, yq3, aw1, bw1⟩
        have HShS27 := Lib.hid hS27
        clear xq0 xq1 xq2 xq3 yq0 yq1 yq2 yq3 aw1 bw1
        refine wp_region_held_drew (S := fun w' => Dn W2 w' ∧ w'.cell? ⟨ga', oa', none⟩ = some (.int .i8 x.a) ∧ w'.cell? ⟨ga', oa' + 1, none⟩ = some (.int .i64 x.b) ∧ w'.cell? ⟨ga', oa' + 2, none⟩ = some (.int .i8 x.c) ∧ w'.cell? ⟨ga', oa' + 3, none⟩ = some (.int .i64 x.d) ∧ w'.cell? ⟨gb', ob', none⟩ = some (.int .i8 y.a) ∧ w'.cell? ⟨gb', ob' + 1, none⟩ = some (.int .i64 y.b) ∧ w'.cell? ⟨gb', ob' + 2, none⟩ = some (.int .i8 y.c) ∧ w'.cell? ⟨gb', ob' + 3, none⟩ = some (.int .i64 y.d) ∧ w'.cell? ⟨A, 0, none⟩ = some (.slice (some ⟨ga', oa', none⟩) (s.length + 1) ca2) ∧ w'.cell? ⟨B, 0, none⟩ = some (.slice (some ⟨gb', ob', none⟩) (t.length + 1) cb2)) (by kernel_rfl) ?_ (fun hHeld => ?_)
        · (try dsimp only); (first | exact kdSK_10 ((Dn.refl _).drew) hS27 | exact kdSK_10 ‹Dn _ _› ‹_› | exact kdSK_10 (Up.dn ‹Up _ _›) ‹_› | assumption | exact kdSK_10 ((Dn.refl _).alloc _) ‹_›)
        refine tk 0 ?_ rfl (by kernel_rfl) (fun _ _ _ => id) (by rfl) (by assumption) ?_ ?_
        rotate_left
        · (intro w hSw; (try dsimp only at hSw); go_simp)
          all_goals with_reducible rfl
        try simp only [Act.put, pL]
        refine tk 1 ?_ rfl (by kernel_rfl) (fun _ _ _ => id) (by rfl) (by assumption) ?_ ?_
        rotate_left
        · (intro w hSw; (try dsimp only at hSw); go_simp)
          all_goals with_reducible rfl
        try simp only [Act.put, pL]
        refine tk 2 ?_ rfl (by kernel_rfl) (fun _ _ _ => id) (by rfl) (by assumption) ?_ ?_
        rotate_left
        · (intro w hSw; (try dsimp only at hSw); go_simp)
          all_goals with_reducible rfl
        try simp only [Act.put, pL]
        refine tk 3 ?_ rfl (by kernel_rfl) (fun _ _ _ => id) (by rfl) (by assumption) ?_ ?_
        rotate_left
        · (intro w hSw; (try dsimp only at hSw); go_simp)
          all_goals with_reducible rfl
        try simp only [Act.put, pL]
        refine tk 4 ?_ rfl (by kernel_rfl) (fun _ _ _ => id) (by rfl) (by assumption) ?_ ?_
        rotate_left
        · (intro w hSw; (try dsimp only at hSw); go_simp)
          all_goals with_reducible rfl
        try simp only [Act.put, pL]
        refine tk 5 ?_ rfl (by kernel_rfl) (fun _ _ _ => id) (by rfl) (by assumption) ?_ ?_
        rotate_left
        · (intro w hSw; (try dsimp only at hSw); go_simp)
          all_goals with_reducible rfl
        try simp only [Act.put, pL]
        refine tk 6 ?_ rfl (by kernel_rfl) (fun _ _ _ => id) (by rfl) (by assumption) ?_ ?_
        rotate_left
        · (intro w hSw; (try dsimp only at hSw); go_simp)
          all_goals with_reducible rfl
        try simp only [Act.put, pL]
        refine tk 7 ?_ rfl (by kernel_rfl) (fun _ _ _ => id) (by rfl) (by assumption) ?_ ?_
        rotate_left
        · (intro w hSw; (try dsimp only at hSw); go_simp)
          all_goals with_reducible rfl
        try simp only [Act.put, pL]
        refine wpAnyH_ready (rs := [8]) (by kernel_rfl) (by simp) ?_
        refine AllReadyH.cons rfl (fun K hK => ?_) AllReadyH.nil
        go_simp
        (first
            | (go_at_call 15; refine (hCe.out _).mono ?_; rintro e wa ⟨rfl, qa⟩; replace qa := Up.dn qa))
        try go_wp2_with fail
        refine hK.out _ _ ?_ (fun hHeld => ?_)
        · (try dsimp only); (first | exact kdSK_10 ((Dn.refl _).drew) hS27 | exact kdSK_10 ‹Dn _ _› ‹_› | exact kdSK_10 (Up.dn ‹Up _ _›) ‹_› | assumption | exact kdSK_10 ((Dn.refl _).alloc _) ‹_›)
        clear hK K
        try simp only [Act.put, pL]
        refine tk 9 ?_ rfl (by kernel_rfl) (fun _ _ _ => id) (by rfl) (by assumption) ?_ ?_
        rotate_left
        · (intro w hSw; (try dsimp only at hSw); go_simp)
          all_goals with_reducible rfl
        try simp only [Act.put, pL]
        refine wpAnyH_done (by kernel_rfl) ?_ _
        all_goals skip
        all_goals
          clear hS27
          obtain ⟨uf38, aD, aE, aF, aG, aH, aI, aJ, aK, aL, aM⟩ := (‹Dn W2 _ ∧ _› : _ ∧ _)
          obtain ⟨w39, rfl⟩ : ∃ w39 : World, w39 = wa := ⟨_, rfl⟩
          have aN := nlt xl uf38.size
          clear xl
          have aO := nlt yl uf38.size
          clear yl
          have aP := nlt la' uf38.size
          clear la'
          have aQ := nlt lb' uf38.size
          clear lb'
          replace hA := hA.dn uf38
          replace hB := hB.dn uf38
          replace hO := hO.dn uf38
          have vuf38 := hd.trans uf38
          clear uf38 hd HShS27
          have zf := hB.f
          go_wp2_with fail
          all_goals
            (try simp only [Exit.inBlock, Exit.then])
            refine bodyPost_end (results_none rfl _ _ _) rfl ?_
            refine ⟨rfl, x :: s, t, fun h => by have h2 := HLT.out; omega, fun _ => ⟨rfl, rfl⟩, ?_⟩
            first | rw [if_pos HM.out] | skip
            first
              | exact ⟨(hA.far (by omega) _), (hB.set (t := t) (by omega) (by omega) (rt1 (by omega))), hO.far (by omega) (by omega) _, vuf38.setCell (show w0.heap.size ≤ B by omega) _⟩
              | exact ⟨(hA.far (by omega) _), (hB.set (t := t) (by omega) (by omega) HCB'.out.tail.row), hO.far (by omega) (by omega) _, vuf38.setCell (show w0.heap.size ≤ B by omega) _⟩
  · have HM := Lib.hid hm
    have hmt : ¬ Meet x.a x.b x.c x.d y.a y.b y.c y.d := fun h => hm (hmi.1 h)
    clear hm hmi
    have HMT := Lib.hid hmt
    clear hmt
    go_enter Tryz.func133, Tryz.ntmps133
    go_wp2_with fail
    obtain ⟨xq0, xq1, xq2, xq3⟩ := (HCX.out.dn hd).head
    have xl := (HCX.out.dn hd).lt
    obtain ⟨yq0, yq1, yq2, yq3⟩ := (HCY.out.dn hd).head
    have yl := (HCY.out.dn hd).lt
    refine region_inv (fun A l a' w' => ∃ (b0 b1 b2 b3 b4 b5 b6 b7 b8 b9 b10 b11 b12 : Bool) (x6 x7 x8 x9 x10 x11 x12 x5 x13 x14 x3 x4 : Value), l = #[b0, b1, b2, b3, b4, b5, b6, b7, b8, b9, b10, b11, b12] ∧ a' = ((((((((((((A.put (some 6) x6).put (some 7) x7).put (some 8) x8).put (some 9) x9).put (some 10) x10).put (some 11) x11).put (some 12) x12).put (some 5) x5).put (some 13) x13).put (some 14) x14).put (some 3) x3).put (some 4) x4) ∧ Dn w w' ∧ (b0 = true → x6 = .slice (some ⟨g, o, none⟩) (s.length + 1) ca) ∧ (b1 = true → x7 = .pointer (some ⟨g, o, none⟩)) ∧ (b2 = true → x8 = .agg #[.int .i8 x.a, .int .i64 x.b, .int .i8 x.c, .int .i64 x.d]) ∧ (b3 = true → x9 = .slice (some ⟨g2, o2, none⟩) (t.length + 1) cb) ∧ (b4 = true → x10 = .pointer (some ⟨g2, o2, none⟩)) ∧ (b5 = true → x11 = .agg #[.int .i8 y.a, .int .i64 y.b, .int .i8 y.c, .int .i64 y.d]) ∧ (b6 = true → x12 = .tuple #[.agg #[.int .i8 0, .int .i64 0, .int .i8 0, .int .i64 0], .bool false]) ∧ (b7 = true → x5 = .tuple #[.agg #[.int .i8 0, .int .i64 0, .int .i8 0, .int .i64 0], .bool false]) ∧ (b8 = true → x13 = .agg #[.int .i8 0, .int .i64 0, .int .i8 0, .int .i64 0]) ∧ (b9 = true → x14 = .bool false) ∧ (b12 = true → x4 = .bool false) ∧ (b11 = true → b10 = true) ∧ Bl w.heap.size w' b10 b11 x3 (.int .i8 0) (.int .i64 0) (.int .i8 0) (.int .i64 0)) (by kernel_rfl) ?_ ?_ ?_
    · exact ⟨false, false, false, false, false, false, false, false, false, false, false, false, false, undef, undef, undef, undef, undef, undef, undef, undef, undef, undef, undef, undef, rfl, by simp only [Act.put, pL], (Dn.refl _).drew, (fun h => by cases h), (fun h => by cases h), (fun h => by cases h), (fun h => by cases h), (fun h => by cases h), (fun h => by cases h), (fun h => by cases h), (fun h => by cases h), (fun h => by cases h), (fun h => by cases h), (fun h => by cases h), (fun h => by cases h), Bl.no⟩
    · rintro l a' w' i ⟨b0, b1, b2, b3, b4, b5, b6, b7, b8, b9, b10, b11, b12, x6, x7, x8, x9, x10, x11, x12, x5, x13, x14, x3, x4, rfl, rfl, q, hv0, hv1, hv2, hv3, hv4, hv5, hv6, hv7, hv8, hv9, hv12, hs10, hk10⟩ hun hdep hi
      simp only [Act.put, pL]
      have hi' : i < 13 := hi
      rcases (show i = 0 ∨ i = 1 ∨ i = 2 ∨ i = 3 ∨ i = 4 ∨ i = 5 ∨ i = 6 ∨ i = 7 ∨ i = 8 ∨ i = 9 ∨ i = 10 ∨ i = 11 ∨ i = 12 by omega) with rfl | rfl | rfl | rfl | rfl | rfl | rfl | rfl | rfl | rfl | rfl | rfl | rfl
      ·
        have f0 : b0 = false := by simpa using hun
        subst f0
        have g2 := q.cell av1
        refine wpOp_step rfl (fun K hK => ?_)
        replace hK := Lib.hid hK
        go_simp
        exact hK.out _ _ ⟨true, b1, b2, b3, b4, b5, b6, b7, b8, b9, b10, b11, b12, .slice (some ⟨g, o, none⟩) (s.length + 1) ca, x7, x8, x9, x10, x11, x12, x5, x13, x14, x3, x4, rfl, by first | (simp only [Act.put, pL]; done) | rfl, q, fun _ => rfl, hv1, hv2, hv3, hv4, hv5, hv6, hv7, hv8, hv9, hv12, hs10, hk10⟩
      ·
        have e0 : b0 = true := hdep _ rfl ⟨0, .data⟩ (by simp) rfl
        have f1 : b1 = false := by simpa using hun
        subst f1 e0
        obtain rfl := hv0 rfl
        refine wpOp_step rfl (fun K hK => ?_)
        replace hK := Lib.hid hK
        go_simp
        exact hK.out _ _ ⟨true, true, b2, b3, b4, b5, b6, b7, b8, b9, b10, b11, b12, .slice (some ⟨g, o, none⟩) (s.length + 1) ca, .pointer (some ⟨g, o, none⟩), x8, x9, x10, x11, x12, x5, x13, x14, x3, x4, rfl, by first | (simp only [Act.put, pL]; done) | rfl, q, fun _ => rfl, fun _ => rfl, hv2, hv3, hv4, hv5, hv6, hv7, hv8, hv9, hv12, hs10, hk10⟩
      ·
        have e1 : b1 = true := hdep _ rfl ⟨1, .data⟩ (by simp) rfl
        have f2 : b2 = false := by simpa using hun
        subst f2 e1
        obtain rfl := hv1 rfl
        obtain ⟨g3, g4, g5, g6⟩ := mv4 q.cell xq0 xq1 xq2 xq3
        refine wpOp_step rfl (fun K hK => ?_)
        replace hK := Lib.hid hK
        go_simp
        exact hK.out _ _ ⟨b0, true, true, b3, b4, b5, b6, b7, b8, b9, b10, b11, b12, x6, .pointer (some ⟨g, o, none⟩), .agg #[.int .i8 x.a, .int .i64 x.b, .int .i8 x.c, .int .i64 x.d], x9, x10, x11, x12, x5, x13, x14, x3, x4, rfl, by first | (simp only [Act.put, pL]; done) | rfl, q, hv0, fun _ => rfl, fun _ => rfl, hv3, hv4, hv5, hv6, hv7, hv8, hv9, hv12, hs10, hk10⟩
      ·
        have f3 : b3 = false := by simpa using hun
        subst f3
        have g7 := q.cell bv1
        refine wpOp_step rfl (fun K hK => ?_)
        replace hK := Lib.hid hK
        go_simp
        exact hK.out _ _ ⟨b0, b1, b2, true, b4, b5, b6, b7, b8, b9, b10, b11, b12, x6, x7, x8, .slice (some ⟨g2, o2, none⟩) (t.length + 1) cb, x10, x11, x12, x5, x13, x14, x3, x4, rfl, by first | (simp only [Act.put, pL]; done) | rfl, q, hv0, hv1, hv2, fun _ => rfl, hv4, hv5, hv6, hv7, hv8, hv9, hv12, hs10, hk10⟩
      ·
        have e3 : b3 = true := hdep _ rfl ⟨3, .data⟩ (by simp) rfl
        have f4 : b4 = false := by simpa using hun
        subst f4 e3
        obtain rfl := hv3 rfl
        refine wpOp_step rfl (fun K hK => ?_)
        replace hK := Lib.hid hK
        go_simp
        exact hK.out _ _ ⟨b0, b1, b2, true, true, b5, b6, b7, b8, b9, b10, b11, b12, x6, x7, x8, .slice (some ⟨g2, o2, none⟩) (t.length + 1) cb, .pointer (some ⟨g2, o2, none⟩), x11, x12, x5, x13, x14, x3, x4, rfl, by first | (simp only [Act.put, pL]; done) | rfl, q, hv0, hv1, hv2, fun _ => rfl, fun _ => rfl, hv5, hv6, hv7, hv8, hv9, hv12, hs10, hk10⟩
      ·
        have e4 : b4 = true := hdep _ rfl ⟨4, .data⟩ (by simp) rfl
        have f5 : b5 = false := by simpa using hun
        subst f5 e4
        obtain rfl := hv4 rfl
        obtain ⟨g8, g9, g10, g11⟩ := mv4 q.cell yq0 yq1 yq2 yq3
        refine wpOp_step rfl (fun K hK => ?_)
        replace hK := Lib.hid hK
        go_simp
        exact hK.out _ _ ⟨b0, b1, b2, b3, true, true, b6, b7, b8, b9, b10, b11, b12, x6, x7, x8, x9, .pointer (some ⟨g2, o2, none⟩), .agg #[.int .i8 y.a, .int .i64 y.b, .int .i8 y.c, .int .i64 y.d], x12, x5, x13, x14, x3, x4, rfl, by first | (simp only [Act.put, pL]; done) | rfl, q, hv0, hv1, hv2, hv3, fun _ => rfl, fun _ => rfl, hv6, hv7, hv8, hv9, hv12, hs10, hk10⟩
      ·
        have e2 : b2 = true := hdep _ rfl ⟨2, .data⟩ (by simp) rfl
        have e5 : b5 = true := hdep _ rfl ⟨5, .data⟩ (by simp) rfl
        have f6 : b6 = false := by simpa using hun
        subst f6 e2 e5
        obtain rfl := hv2 rfl
        obtain rfl := hv5 rfl
        refine wpOp_step rfl (fun K hK => ?_)
        replace hK := Lib.hid hK
        go_simp
        go_at_call 134
        refine (hT.out _ _ _ _ _ _ (Or.inr ⟨HMT.out, rfl, rfl, rfl, rfl, rfl⟩)).mono ?_
        rintro e wa ⟨rfl, qa⟩
        try go_wp2_with fail
        exact hK.out _ _ ⟨b0, b1, true, b3, b4, true, true, b7, b8, b9, b10, b11, b12, x6, x7, .agg #[.int .i8 x.a, .int .i64 x.b, .int .i8 x.c, .int .i64 x.d], x9, x10, .agg #[.int .i8 y.a, .int .i64 y.b, .int .i8 y.c, .int .i64 y.d], .tuple #[.agg #[.int .i8 0, .int .i64 0, .int .i8 0, .int .i64 0], .bool false], x5, x13, x14, x3, x4, rfl, by first | (simp only [Act.put, pL]; done) | rfl, q.trans qa, hv0, hv1, fun _ => rfl, hv3, hv4, fun _ => rfl, fun _ => rfl, hv7, hv8, hv9, hv12, hs10, hk10.dn qa⟩
      ·
        have e6 : b6 = true := hdep _ rfl ⟨6, .data⟩ (by simp) rfl
        have f7 : b7 = false := by simpa using hun
        subst f7 e6
        obtain rfl := hv6 rfl
        refine wpOp_step rfl (fun K hK => ?_)
        replace hK := Lib.hid hK
        go_simp
        exact hK.out _ _ ⟨b0, b1, b2, b3, b4, b5, true, true, b8, b9, b10, b11, b12, x6, x7, x8, x9, x10, x11, .tuple #[.agg #[.int .i8 0, .int .i64 0, .int .i8 0, .int .i64 0], .bool false], .tuple #[.agg #[.int .i8 0, .int .i64 0, .int .i8 0, .int .i64 0], .bool false], x13, x14, x3, x4, rfl, by first | (simp only [Act.put, pL]; done) | rfl, q, hv0, hv1, hv2, hv3, hv4, hv5, fun _ => rfl, fun _ => rfl, hv8, hv9, hv12, hs10, hk10⟩
      ·
        have e7 : b7 = true := hdep _ rfl ⟨7, .data⟩ (by simp) rfl
        have f8 : b8 = false := by simpa using hun
        subst f8 e7
        obtain rfl := hv7 rfl
        refine wpOp_step rfl (fun K hK => ?_)
        replace hK := Lib.hid hK
        go_simp
        exact hK.out _ _ ⟨b0, b1, b2, b3, b4, b5, b6, true, true, b9, b10, b11, b12, x6, x7, x8, x9, x10, x11, x12, .tuple #[.agg #[.int .i8 0, .int .i64 0, .int .i8 0, .int .i64 0], .bool false], .agg #[.int .i8 0, .int .i64 0, .int .i8 0, .int .i64 0], x14, x3, x4, rfl, by first | (simp only [Act.put, pL]; done) | rfl, q, hv0, hv1, hv2, hv3, hv4, hv5, hv6, fun _ => rfl, fun _ => rfl, hv9, hv12, hs10, hk10⟩
      ·
        have e7 : b7 = true := hdep _ rfl ⟨7, .data⟩ (by simp) rfl
        have f9 : b9 = false := by simpa using hun
        subst f9 e7
        obtain rfl := hv7 rfl
        refine wpOp_step rfl (fun K hK => ?_)
        replace hK := Lib.hid hK
        go_simp
        exact hK.out _ _ ⟨b0, b1, b2, b3, b4, b5, b6, true, b8, true, b10, b11, b12, x6, x7, x8, x9, x10, x11, x12, .tuple #[.agg #[.int .i8 0, .int .i64 0, .int .i8 0, .int .i64 0], .bool false], x13, .bool false, x3, x4, rfl, by first | (simp only [Act.put, pL]; done) | rfl, q, hv0, hv1, hv2, hv3, hv4, hv5, hv6, fun _ => rfl, hv8, fun _ => rfl, hv12, hs10, hk10⟩
      ·
        have f10 : b10 = false := by simpa using hun
        subst f10
        obtain rfl : b11 = false := by
          cases b11 with
          | false => rfl
          | true => exact absurd (hs10 rfl) (by simp)
        refine wpOp_step rfl (fun K hK => ?_)
        replace hK := Lib.hid hK
        go_simp
        exact hK.out _ _ ⟨b0, b1, b2, b3, b4, b5, b6, b7, b8, b9, true, false, b12, x6, x7, x8, x9, x10, x11, x12, x5, x13, x14, .pointer (some ⟨w'.heap.size, 0, none⟩), x4, rfl, by first | (simp only [Act.put, pL]; done) | rfl, q.alloc _, hv0, hv1, hv2, hv3, hv4, hv5, hv6, hv7, hv8, hv9, hv12, fun _ => rfl, Bl.new q.size _⟩
      ·
        have e10 : b10 = true := hdep _ rfl ⟨10, .data⟩ (by simp) rfl
        have e8 : b8 = true := hdep _ rfl ⟨8, .data⟩ (by simp) rfl
        have f11 : b11 = false := by simpa using hun
        subst f11 e10 e8
        obtain rfl := hv8 rfl
        obtain ⟨B, rfl, hL, hz, _⟩ := hk10 rfl
        have hB := hz rfl
        have z0 := hB.c0
        have y0 := hB.f0
        have z1 := hB.c1
        have y1 := hB.f1
        have z2 := hB.c2
        have y2 := hB.f2
        have z3 := hB.c3
        have y3 := hB.f3
        have zl := hB.lt
        refine wpOp_step rfl (fun K hK => ?_)
        replace hK := Lib.hid hK
        go_simp
        exact hK.out _ _ ⟨b0, b1, b2, b3, b4, b5, b6, b7, true, b9, true, true, b12, x6, x7, x8, x9, x10, x11, x12, x5, .agg #[.int .i8 0, .int .i64 0, .int .i8 0, .int .i64 0], x14, .pointer (some ⟨B, 0, none⟩), x4, rfl, by first | (simp only [Act.put, pL]; done) | rfl, (Dn.setCell (Dn.setCell (Dn.setCell (Dn.setCell q (by simpa using hL) _) (by simpa using hL) _) (by simpa using hL) _) (by simpa using hL) _), hv0, hv1, hv2, hv3, hv4, hv5, hv6, hv7, fun _ => rfl, hv9, hv12, fun _ => rfl, fun _ => ⟨B, rfl, hL, (fun k => by cases k), fun _ => hB.fill _ _ _ _⟩⟩
      ·
        have e9 : b9 = true := hdep _ rfl ⟨9, .data⟩ (by simp) rfl
        have f12 : b12 = false := by simpa using hun
        subst f12 e9
        obtain rfl := hv9 rfl
        refine wpOp_step rfl (fun K hK => ?_)
        replace hK := Lib.hid hK
        go_simp
        exact hK.out _ _ ⟨b0, b1, b2, b3, b4, b5, b6, b7, b8, true, b10, b11, true, x6, x7, x8, x9, x10, x11, x12, x5, x13, .bool false, x3, .bool false, rfl, by first | (simp only [Act.put, pL]; done) | rfl, q, hv0, hv1, hv2, hv3, hv4, hv5, hv6, hv7, hv8, fun _ => rfl, fun _ => rfl, hs10, hk10⟩
    · rintro l a' W12 ⟨b0, b1, b2, b3, b4, b5, b6, b7, b8, b9, b10, b11, b12, x6, x7, x8, x9, x10, x11, x12, x5, x13, x14, x3, x4, rfl, rfl, qW12, hv0, hv1, hv2, hv3, hv4, hv5, hv6, hv7, hv8, hv9, hv12, hs10, hk10⟩ hall
      obtain rfl : b0 = true := by
        cases b0 with
        | true => rfl
        | false => exact absurd (by intro e he hb; simp at he <;> (repeat' (rcases he with rfl | he)) <;> first | rfl | exact absurd hb (by decide)) (hall 0 _ rfl rfl)
      obtain rfl : b1 = true := by
        cases b1 with
        | true => rfl
        | false => exact absurd (by intro e he hb; simp at he <;> (repeat' (rcases he with rfl | he)) <;> first | rfl | exact absurd hb (by decide)) (hall 1 _ rfl rfl)
      obtain rfl : b2 = true := by
        cases b2 with
        | true => rfl
        | false => exact absurd (by intro e he hb; simp at he <;> (repeat' (rcases he with rfl | he)) <;> first | rfl | exact absurd hb (by decide)) (hall 2 _ rfl rfl)
      obtain rfl : b3 = true := by
        cases b3 with
        | true => rfl
        | false => exact absurd (by intro e he hb; simp at he <;> (repeat' (rcases he with rfl | he)) <;> first | rfl | exact absurd hb (by decide)) (hall 3 _ rfl rfl)
      obtain rfl : b4 = true := by
        cases b4 with
        | true => rfl
        | false => exact absurd (by intro e he hb; simp at he <;> (repeat' (rcases he with rfl | he)) <;> first | rfl | exact absurd hb (by decide)) (hall 4 _ rfl rfl)
      obtain rfl : b5 = true := by
        cases b5 with
        | true => rfl
        | false => exact absurd (by intro e he hb; simp at he <;> (repeat' (rcases he with rfl | he)) <;> first | rfl | exact absurd hb (by decide)) (hall 5 _ rfl rfl)
      obtain rfl : b6 = true := by
        cases b6 with
        | true => rfl
        | false => exact absurd (by intro e he hb; simp at he <;> (repeat' (rcases he with rfl | he)) <;> first | rfl | exact absurd hb (by decide)) (hall 6 _ rfl rfl)
      obtain rfl : b7 = true := by
        cases b7 with
        | true => rfl
        | false => exact absurd (by intro e he hb; simp at he <;> (repeat' (rcases he with rfl | he)) <;> first | rfl | exact absurd hb (by decide)) (hall 7 _ rfl rfl)
      obtain rfl : b8 = true := by
        cases b8 with
        | true => rfl
        | false => exact absurd (by intro e he hb; simp at he <;> (repeat' (rcases he with rfl | he)) <;> first | rfl | exact absurd hb (by decide)) (hall 8 _ rfl rfl)
      obtain rfl : b9 = true := by
        cases b9 with
        | true => rfl
        | false => exact absurd (by intro e he hb; simp at he <;> (repeat' (rcases he with rfl | he)) <;> first | rfl | exact absurd hb (by decide)) (hall 9 _ rfl rfl)
      obtain rfl : b10 = true := by
        cases b10 with
        | true => rfl
        | false => exact absurd (by intro e he hb; simp at he <;> (repeat' (rcases he with rfl | he)) <;> first | rfl | exact absurd hb (by decide)) (hall 10 _ rfl rfl)
      obtain rfl : b11 = true := by
        cases b11 with
        | true => rfl
        | false => exact absurd (by intro e he hb; simp at he <;> (repeat' (rcases he with rfl | he)) <;> first | rfl | exact absurd hb (by decide)) (hall 11 _ rfl rfl)
      obtain rfl : b12 = true := by
        cases b12 with
        | true => rfl
        | false => exact absurd (by intro e he hb; simp at he <;> (repeat' (rcases he with rfl | he)) <;> first | rfl | exact absurd hb (by decide)) (hall 12 _ rfl rfl)
      obtain rfl := hv0 rfl
      obtain rfl := hv1 rfl
      obtain rfl := hv2 rfl
      obtain rfl := hv3 rfl
      obtain rfl := hv4 rfl
      obtain rfl := hv5 rfl
      obtain rfl := hv6 rfl
      obtain rfl := hv7 rfl
      obtain rfl := hv8 rfl
      obtain rfl := hv9 rfl
      obtain rfl := hv12 rfl
      obtain ⟨Bt3, rfl, ot3, _, gt3⟩ := hk10 rfl
      obtain ⟨t3c0, t3c1, t3c2, t3c3, t3f0, t3f1, t3f2, t3f3, lt3⟩ := gt3 rfl
      clear gt3
      replace hA := hA.dn qW12
      replace hB := hB.dn qW12
      replace hO := hO.dn qW12
      have aR := nlt xl qW12.size
      have aS := nlt yl qW12.size
      have aT := nlt la qW12.size
      have aU := nlt lb qW12.size
      obtain ⟨a0, a1, a5, a6, a7, a8, a9, aA, aB, aC⟩ := mv10 qW12.cell xq0 xq1 xq2 xq3 yq0 yq1 yq2 yq3 av1 bv1
      clear xl xq0 xq1 xq2 xq3 yl yq0 yq1 yq2 yq3 la av1 lb bv1
      clear t3f0 t3f1 t3f2 t3f3
      have vW12 := hd.trans qW12
      clear hv0 hv1 hv2 hv3 hv4 hv5 hv6 hv7 hv8 hv9 hv12 hs10 hk10 ot3 hall
      simp only [Act.put, pL]
      go_upto_region 3 with fail
      clear a0 a1 a5 a6 a7 a8 a9 aA aB aC t3c0 t3c1 t3c2 t3c3
      by_cases hc : eC x.c x.d y.c y.d < 0
      · have dc : decide (eC x.c x.d y.c y.d < 0) = true := by simpa using hc
        have HLT : Hid (x.hi < y.hi) := Lib.hid (hlt.1 hc)
        clear hc hlt
        generalize eC x.c x.d y.c y.d = n at *
        obtain ⟨⟨pa, ca2, aw1, aw2, aw3, aw4⟩, -, la'⟩ := (id hA : SlV w0 W12 A (x :: s))
        obtain ⟨ga', oa', rfl, hca⟩ := aw4.cs (by simp)
        have HCA' := Lib.hid hca
        rw [List.length_cons] at aw1 aw2
        clear aw4 hca
        obtain ⟨⟨pb, cb2, bw1, bw2, bw3, bw4⟩, -, lb'⟩ := (id hB : SlV w0 W12 B (y :: t))
        obtain ⟨gb', ob', rfl, hcb⟩ := bw4.cs (by simp)
        have HCB' := Lib.hid hcb
        rw [List.length_cons] at bw1 bw2
        clear bw4 hcb
        obtain ⟨xq0, xq1, xq2, xq3⟩ := (HCA'.out.dn vW12).head
        have xl := (HCA'.out.dn vW12).lt
        obtain ⟨yq0, yq1, yq2, yq3⟩ := (HCB'.out.dn vW12).head
        have yl := (HCB'.out.dn vW12).lt
        go_wp2_with fail
        have hS27 := kdSK_10 (W := W12) (Dn.refl _) ⟨Dn.refl _, xq0, xq1, xq2, xq3, yq0, yq1, yq2, yq3, aw1, bw1⟩
        have HShS27 := Lib.hid hS27
        clear xq0 xq1 xq2 xq3 yq0 yq1 yq2 yq3 aw1 bw1
        refine wp_region_held_drew (S := fun w' => Dn W12 w' ∧ w'.cell? ⟨ga', oa', none⟩ = some (.int .i8 x.a) ∧ w'.cell? ⟨ga', oa' + 1, none⟩ = some (.int .i64 x.b) ∧ w'.cell? ⟨ga', oa' + 2, none⟩ = some (.int .i8 x.c) ∧ w'.cell? ⟨ga', oa' + 3, none⟩ = some (.int .i64 x.d) ∧ w'.cell? ⟨gb', ob', none⟩ = some (.int .i8 y.a) ∧ w'.cell? ⟨gb', ob' + 1, none⟩ = some (.int .i64 y.b) ∧ w'.cell? ⟨gb', ob' + 2, none⟩ = some (.int .i8 y.c) ∧ w'.cell? ⟨gb', ob' + 3, none⟩ = some (.int .i64 y.d) ∧ w'.cell? ⟨A, 0, none⟩ = some (.slice (some ⟨ga', oa', none⟩) (s.length + 1) ca2) ∧ w'.cell? ⟨B, 0, none⟩ = some (.slice (some ⟨gb', ob', none⟩) (t.length + 1) cb2)) (by kernel_rfl) ?_ (fun hHeld => ?_)
        · (try dsimp only); (first | exact kdSK_10 ((Dn.refl _).drew) hS27 | exact kdSK_10 ‹Dn _ _› ‹_› | exact kdSK_10 (Up.dn ‹Up _ _›) ‹_› | assumption | exact kdSK_10 ((Dn.refl _).alloc _) ‹_›)
        refine tk 0 ?_ rfl (by kernel_rfl) (fun _ _ _ => id) (by rfl) (by assumption) ?_ ?_
        rotate_left
        · (intro w hSw; (try dsimp only at hSw); go_simp)
          all_goals with_reducible rfl
        try simp only [Act.put, pL]
        refine tk 1 ?_ rfl (by kernel_rfl) (fun _ _ _ => id) (by rfl) (by assumption) ?_ ?_
        rotate_left
        · (intro w hSw; (try dsimp only at hSw); go_simp)
          all_goals with_reducible rfl
        try simp only [Act.put, pL]
        refine tk 2 ?_ rfl (by kernel_rfl) (fun _ _ _ => id) (by rfl) (by assumption) ?_ ?_
        rotate_left
        · (intro w hSw; (try dsimp only at hSw); go_simp)
          all_goals with_reducible rfl
        try simp only [Act.put, pL]
        refine tk 3 ?_ rfl (by kernel_rfl) (fun _ _ _ => id) (by rfl) (by assumption) ?_ ?_
        rotate_left
        · (intro w hSw; (try dsimp only at hSw); go_simp)
          all_goals with_reducible rfl
        try simp only [Act.put, pL]
        refine tk 4 ?_ rfl (by kernel_rfl) (fun _ _ _ => id) (by rfl) (by assumption) ?_ ?_
        rotate_left
        · (intro w hSw; (try dsimp only at hSw); go_simp)
          all_goals with_reducible rfl
        try simp only [Act.put, pL]
        refine tk 5 ?_ rfl (by kernel_rfl) (fun _ _ _ => id) (by rfl) (by assumption) ?_ ?_
        rotate_left
        · (intro w hSw; (try dsimp only at hSw); go_simp)
          all_goals with_reducible rfl
        try simp only [Act.put, pL]
        refine tk 6 ?_ rfl (by kernel_rfl) (fun _ _ _ => id) (by rfl) (by assumption) ?_ ?_
        rotate_left
        · (intro w hSw; (try dsimp only at hSw); go_simp)
          all_goals with_reducible rfl
        try simp only [Act.put, pL]
        refine tk 7 ?_ rfl (by kernel_rfl) (fun _ _ _ => id) (by rfl) (by assumption) ?_ ?_
        rotate_left
        · (intro w hSw; (try dsimp only at hSw); go_simp)
          all_goals with_reducible rfl
        try simp only [Act.put, pL]
        refine wpAnyH_ready (rs := [8]) (by kernel_rfl) (by simp) ?_
        refine AllReadyH.cons rfl (fun K hK => ?_) AllReadyH.nil
        go_simp
        (first
            | (go_at_call 15; refine (hCe.out _).mono ?_; rintro e wa ⟨rfl, qa⟩; replace qa := Up.dn qa))
        try go_wp2_with fail
        refine hK.out _ _ ?_ (fun hHeld => ?_)
        · (try dsimp only); (first | exact kdSK_10 ((Dn.refl _).drew) hS27 | exact kdSK_10 ‹Dn _ _› ‹_› | exact kdSK_10 (Up.dn ‹Up _ _›) ‹_› | assumption | exact kdSK_10 ((Dn.refl _).alloc _) ‹_›)
        clear hK K
        try simp only [Act.put, pL]
        refine tk 9 ?_ rfl (by kernel_rfl) (fun _ _ _ => id) (by rfl) (by assumption) ?_ ?_
        rotate_left
        · (intro w hSw; (try dsimp only at hSw); go_simp)
          all_goals with_reducible rfl
        try simp only [Act.put, pL]
        refine wpAnyH_done (by kernel_rfl) ?_ _
        all_goals skip
        all_goals
          clear hS27
          obtain ⟨uf38, aD, aE, aF, aG, aH, aI, aJ, aK, aL, aM⟩ := (‹Dn W12 _ ∧ _› : _ ∧ _)
          obtain ⟨w39, rfl⟩ : ∃ w39 : World, w39 = wa := ⟨_, rfl⟩
          have aN := nlt xl uf38.size
          clear xl
          have aO := nlt yl uf38.size
          clear yl
          have aP := nlt la' uf38.size
          clear la'
          have aQ := nlt lb' uf38.size
          clear lb'
          replace hA := hA.dn uf38
          replace hB := hB.dn uf38
          replace hO := hO.dn uf38
          have vuf38 := vW12.trans uf38
          clear uf38 vW12 HShS27
          have zf := hA.f
          go_wp2_with fail
          all_goals
            (try simp only [Exit.inBlock, Exit.then])
            refine bodyPost_ret (results_none rfl _ _ _) rfl ?_
            refine ⟨rfl, s, y :: t, fun _ => ⟨rfl, rfl⟩, fun h => by have h2 := HLT.out; omega, ?_⟩
            first | rw [if_neg HM.out] | skip
            first | rw [List.append_nil] | skip
            first
              | exact ⟨(hA.set (t := s) (by omega) (by omega) (rt1 (by omega))), (hB.far (by omega) _), hO.far (by omega) (by omega) _, vuf38.setCell (show w0.heap.size ≤ A by omega) _⟩
              | exact ⟨(hA.set (t := s) (by omega) (by omega) HCA'.out.tail.row), (hB.far (by omega) _), hO.far (by omega) (by omega) _, vuf38.setCell (show w0.heap.size ≤ A by omega) _⟩
      · have dc : decide (eC x.c x.d y.c y.d < 0) = false := by simpa using hc
        have HLT : Hid (¬ x.hi < y.hi) := Lib.hid (fun h => hc (hlt.2 h))
        clear hc hlt
        generalize eC x.c x.d y.c y.d = n at *
        obtain ⟨⟨pa, ca2, aw1, aw2, aw3, aw4⟩, -, la'⟩ := (id hA : SlV w0 W12 A (x :: s))
        obtain ⟨ga', oa', rfl, hca⟩ := aw4.cs (by simp)
        have HCA' := Lib.hid hca
        rw [List.length_cons] at aw1 aw2
        clear aw4 hca
        obtain ⟨⟨pb, cb2, bw1, bw2, bw3, bw4⟩, -, lb'⟩ := (id hB : SlV w0 W12 B (y :: t))
        obtain ⟨gb', ob', rfl, hcb⟩ := bw4.cs (by simp)
        have HCB' := Lib.hid hcb
        rw [List.length_cons] at bw1 bw2
        clear bw4 hcb
        obtain ⟨xq0, xq1, xq2, xq3⟩ := (HCA'.out.dn vW12).head
        have xl := (HCA'.out.dn vW12).lt
        obtain ⟨yq0, yq1, yq2, yq3⟩ := (HCB'.out.dn vW12).head
        have yl := (HCB'.out.dn vW12).lt
        go_wp2_with fail
        have hS27 := kdSK_10 (W := W12) (Dn.refl _) ⟨Dn.refl _, xq0, xq1, xq2, xq3, yq0, yq1, yq2, yq3, aw1, bw1⟩
        have HShS27 := Lib.hid hS27
        clear xq0 xq1 xq2 xq3 yq0 yq1 yq2 yq3 aw1 bw1
        refine wp_region_held_drew (S := fun w' => Dn W12 w' ∧ w'.cell? ⟨ga', oa', none⟩ = some (.int .i8 x.a) ∧ w'.cell? ⟨ga', oa' + 1, none⟩ = some (.int .i64 x.b) ∧ w'.cell? ⟨ga', oa' + 2, none⟩ = some (.int .i8 x.c) ∧ w'.cell? ⟨ga', oa' + 3, none⟩ = some (.int .i64 x.d) ∧ w'.cell? ⟨gb', ob', none⟩ = some (.int .i8 y.a) ∧ w'.cell? ⟨gb', ob' + 1, none⟩ = some (.int .i64 y.b) ∧ w'.cell? ⟨gb', ob' + 2, none⟩ = some (.int .i8 y.c) ∧ w'.cell? ⟨gb', ob' + 3, none⟩ = some (.int .i64 y.d) ∧ w'.cell? ⟨A, 0, none⟩ = some (.slice (some ⟨ga', oa', none⟩) (s.length + 1) ca2) ∧ w'.cell? ⟨B, 0, none⟩ = some (.slice (some ⟨gb', ob', none⟩) (t.length + 1) cb2)) (by kernel_rfl) ?_ (fun hHeld => ?_)
        · (try dsimp only); (first | exact kdSK_10 ((Dn.refl _).drew) hS27 | exact kdSK_10 ‹Dn _ _› ‹_› | exact kdSK_10 (Up.dn ‹Up _ _›) ‹_› | assumption | exact kdSK_10 ((Dn.refl _).alloc _) ‹_›)
        refine tk 0 ?_ rfl (by kernel_rfl) (fun _ _ _ => id) (by rfl) (by assumption) ?_ ?_
        rotate_left
        · (intro w hSw; (try dsimp only at hSw); go_simp)
          all_goals with_reducible rfl
        try simp only [Act.put, pL]
        refine tk 1 ?_ rfl (by kernel_rfl) (fun _ _ _ => id) (by rfl) (by assumption) ?_ ?_
        rotate_left
        · (intro w hSw; (try dsimp only at hSw); go_simp)
          all_goals with_reducible rfl
        try simp only [Act.put, pL]
        refine tk 2 ?_ rfl (by kernel_rfl) (fun _ _ _ => id) (by rfl) (by assumption) ?_ ?_
        rotate_left
        · (intro w hSw; (try dsimp only at hSw); go_simp)
          all_goals with_reducible rfl
        try simp only [Act.put, pL]
        refine tk 3 ?_ rfl (by kernel_rfl) (fun _ _ _ => id) (by rfl) (by assumption) ?_ ?_
        rotate_left
        · (intro w hSw; (try dsimp only at hSw); go_simp)
          all_goals with_reducible rfl
        try simp only [Act.put, pL]
        refine tk 4 ?_ rfl (by kernel_rfl) (fun _ _ _ => id) (by rfl) (by assumption) ?_ ?_
        rotate_left
        · (intro w hSw; (try dsimp only at hSw); go_simp)
          all_goals with_reducible rfl
        try simp only [Act.put, pL]
        refine tk 5 ?_ rfl (by kernel_rfl) (fun _ _ _ => id) (by rfl) (by assumption) ?_ ?_
        rotate_left
        · (intro w hSw; (try dsimp only at hSw); go_simp)
          all_goals with_reducible rfl
        try simp only [Act.put, pL]
        refine tk 6 ?_ rfl (by kernel_rfl) (fun _ _ _ => id) (by rfl) (by assumption) ?_ ?_
        rotate_left
        · (intro w hSw; (try dsimp only at hSw); go_simp)
          all_goals with_reducible rfl
        try simp only [Act.put, pL]
        refine tk 7 ?_ rfl (by kernel_rfl) (fun _ _ _ => id) (by rfl) (by assumption) ?_ ?_
        rotate_left
        · (intro w hSw; (try dsimp only at hSw); go_simp)
          all_goals with_reducible rfl
        try simp only [Act.put, pL]
        refine wpAnyH_ready (rs := [8]) (by kernel_rfl) (by simp) ?_
        refine AllReadyH.cons rfl (fun K hK => ?_) AllReadyH.nil
        go_simp
        (first
            | (go_at_call 15; refine (hCe.out _).mono ?_; rintro e wa ⟨rfl, qa⟩; replace qa := Up.dn qa))
        try go_wp2_with fail
        refine hK.out _ _ ?_ (fun hHeld => ?_)
        · (try dsimp only); (first | exact kdSK_10 ((Dn.refl _).drew) hS27 | exact kdSK_10 ‹Dn _ _› ‹_› | exact kdSK_10 (Up.dn ‹Up _ _›) ‹_› | assumption | exact kdSK_10 ((Dn.refl _).alloc _) ‹_›)
        clear hK K
        try simp only [Act.put, pL]
        refine tk 9 ?_ rfl (by kernel_rfl) (fun _ _ _ => id) (by rfl) (by assumption) ?_ ?_
        rotate_left
        · (intro w hSw; (try dsimp only at hSw); go_simp)
          all_goals with_reducible rfl
        try simp only [Act.put, pL]
        refine wpAnyH_done (by kernel_rfl) ?_ _
        all_goals skip
        all_goals
          clear hS27
          obtain ⟨uf38, aD, aE, aF, aG, aH, aI, aJ, aK, aL, aM⟩ := (‹Dn W12 _ ∧ _› : _ ∧ _)
          obtain ⟨w39, rfl⟩ : ∃ w39 : World, w39 = wa := ⟨_, rfl⟩
          have aN := nlt xl uf38.size
          clear xl
          have aO := nlt yl uf38.size
          clear yl
          have aP := nlt la' uf38.size
          clear la'
          have aQ := nlt lb' uf38.size
          clear lb'
          replace hA := hA.dn uf38
          replace hB := hB.dn uf38
          replace hO := hO.dn uf38
          have vuf38 := vW12.trans uf38
          clear uf38 vW12 HShS27
          have zf := hB.f
          go_wp2_with fail
          all_goals
            (try simp only [Exit.inBlock, Exit.then])
            refine bodyPost_end (results_none rfl _ _ _) rfl ?_
            refine ⟨rfl, x :: s, t, fun h => by have h2 := HLT.out; omega, fun _ => ⟨rfl, rfl⟩, ?_⟩
            first | rw [if_neg HM.out] | skip
            first | rw [List.append_nil] | skip
            first
              | exact ⟨(hA.far (by omega) _), (hB.set (t := t) (by omega) (by omega) (rt1 (by omega))), hO.far (by omega) (by omega) _, vuf38.setCell (show w0.heap.size ≤ B by omega) _⟩
              | exact ⟨(hA.far (by omega) _), (hB.set (t := t) (by omega) (by omega) HCB'.out.tail.row), hO.far (by omega) (by omega) _, vuf38.setCell (show w0.heap.size ≤ B by omega) _⟩
end Go.Proofs.YteodjglbpfmikaaGreatDoor
