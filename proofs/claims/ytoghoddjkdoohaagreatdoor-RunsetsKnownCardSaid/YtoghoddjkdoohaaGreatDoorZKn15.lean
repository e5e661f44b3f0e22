/- Walks and laws that the claim's theorem leans on: part 15. -/
import Derived.Test.YtoghoddjkdoohaaGreatDoorZKn1
import Derived.Test.YtoghoddjkdoohaaGreatDoorZKn9
import Derived.Test.YtoghoddjkdoohaaGreatDoorZKn14
namespace Go.Proofs.YtoghoddjkdoohaaGreatDoor
set_option maxHeartbeats 4000000
set_option maxRecDepth 100000
open Go.RowKit
set_option linter.unusedVariables false
set_option linter.unusedSimpArgs false
theorem list_runB {ops : Array Oper} {rest : List Oper} {o : Oper} {a : Act} {Q : Exit -> Act -> World -> Prop} (hgd : o.guard = none) (s x : Operand)
   (ho : o.op = .call { callee := .builtin .append, args := #[s, x], argTypes := #[22, 22] }) (w : World) (base : Nat) (v : Value) (L : List Rq) (a0 b0 c0 d0 : Int) (hs : a.eval s = v) (hown : OwnQ w base v L)
   (hx : a.eval x = .slice (some ⟨w.heap.size, 0, none⟩) 1 1) (hl : L.length <= 1000000) (hb : base <= w.heap.size)
   (h : ∀ v' w', OwnQ w' base v' (L ++ [⟨a0, b0, c0, d0⟩]) -> (∀ b, b < base -> w'.heap[b]? = w.heap[b]?) -> w.heap.size <= w'.heap.size -> (∀ w0, Dn w0 w -> w0.heap.size <= base -> Dn w0 w') -> wpList Tryz.prog ops Q rest (a.put o.dst v') w') :
   wpList Tryz.prog ops Q (o :: rest) a (w.alloc (.cells #[.int .i8 a0, .int .i64 b0, .int .i8 c0, .int .i64 d0] 45)) := by
 obtain ⟨i0, hi, hz0, hz1, hz2⟩ := info_parts infoRun
 refine wpList_append_own (w.alloc (.cells #[.int .i8 a0, .int .i64 b0, .int .i8 c0, .int .i64 d0] 45)) hgd s x 22 ho base 45 i0 _ 4 32 Tryz.underlying22 hi hz0 hz1 hz2 rfl (by decide) v _ _ hs (hown.own.alloc _) ⟨w.heap.size, 0, none⟩ 1 1 (qc ⟨a0, b0, c0, d0⟩) hx rfl ?_ ?_ ?_ ?_ ?_ ?_
 · intro j u hj
   match j, hj with
   | 0, hj => simp [qc] at hj; subst hj; simp [Addr.add]
   | 1, hj => simp [qc] at hj; subst hj; simp [Addr.add]
   | 2, hj => simp [qc] at hj; subst hj; simp [Addr.add]
   | 3, hj => simp [qc] at hj; subst hj; simp [Addr.add]
   | n + 4, hj => simp [qc] at hj
 · intro u hu; simp [qc] at hu; rcases hu with rfl | rfl | rfl | rfl <;> rfl
 · unfold maxLen; omega
 · omega
 · simp; omega
 · intro v' w' k1 k2 _
   have hall : w.grownBy w' v.ownBlock := by
     have := World.grownBy_alloc w (.cells #[.int .i8 a0, .int .i64 b0, .int .i8 c0, .int .i64 d0] 45) v.ownBlock; exact grown_trans this k2
   refine h v' w' ⟨?_⟩ ?_ hall.size ?_
   · simpa using k1
   · intro b hb1
     exact hall.block b (by omega) (fun e => by have := (hown.own.lt b e.symm).1; omega)
   · intro w0 hd e
     exact ⟨hd.below.trans ⟨hall.os, hall.tape, hall.output, hall.size, fun i hi => hall.block i (Nat.lt_of_lt_of_le hi hd.size) (fun e2 => by have := (hown.own.lt i e2.symm).1; omega)⟩⟩
theorem cell_same {w w' : World} {b j : Nat} {u : Value} (h : w'.heap[b]? = w.heap[b]?) (hc : w.cell? ⟨b, j, none⟩ = some u) : w'.cell? ⟨b, j, none⟩ = some u := by
 simp only [World.cell?, h] at hc ⊢; exact hc
theorem frozen_same {w w' : World} {b j : Nat} (h : w'.heap[b]? = w.heap[b]?) : w'.frozen? ⟨b, j, none⟩ = w.frozen? ⟨b, j, none⟩ := by
 simp only [World.frozen?, h]
structure SlV (w0 w : World) (A : Nat) (s : List Rq) : Prop where
 c : ∃ p cap, w.cell? ⟨A, 0, none⟩ = some (.slice p s.length cap) /\ s.length <= cap /\ cap <= 9223372036854775807 /\ Row w0 p s
 f : w.frozen? ⟨A, 0, none⟩ = false
 lt : A < w.heap.size
theorem SlV.dn {w0 w w' : World} {A : Nat} {s : List Rq} (h : SlV w0 w A s) (q : Dn w w') : SlV w0 w' A s := by
 obtain ⟨⟨p, cap, h1, h2⟩, h3, h4⟩ := h
 exact ⟨⟨p, cap, q.cell h1, h2⟩, (q.frozen (a := ⟨A, 0, none⟩) h4).trans h3, Nat.lt_of_lt_of_le h4 q.size⟩
theorem SlV.same {w0 w w' : World} {A : Nat} {s : List Rq} (h : SlV w0 w A s) (e : w'.heap[A]? = w.heap[A]?) (hl : w.heap.size <= w'.heap.size) : SlV w0 w' A s := by
 obtain ⟨⟨p, cap, h1, h2⟩, h3, h4⟩ := h
 exact ⟨⟨p, cap, cell_same e h1, h2⟩, (frozen_same e).trans h3, Nat.lt_of_lt_of_le h4 hl⟩
theorem SlV.far {w0 w : World} {A B : Nat} {s : List Rq} (h : SlV w0 w A s) (n : A ≠ B) (u : Value) : SlV w0 (w.setCell ⟨B, 0, none⟩ u) A s := by
 obtain ⟨⟨p, cap, h1, h2⟩, h3, h4⟩ := h
 exact ⟨⟨p, cap, by rw [World.cell?_setCell_other _ _ _ _ (fun e => n (by simpa using (congrArg Addr.block e).symm))]; exact h1, h2⟩, by simpa using h3, by simpa using h4⟩
theorem SlV.set {w0 w : World} {A : Nat} {s t : List Rq} (h : SlV w0 w A s) {p : Option Addr} {cap : Nat} (h2 : t.length <= cap) (h3 : cap <= 9223372036854775807) (h4 : Row w0 p t) : SlV w0 (w.setCell ⟨A, 0, none⟩ (.slice p t.length cap)) A t := by
 obtain ⟨⟨p', cap', h1, _⟩, h5, h6⟩ := h
 exact ⟨⟨p, cap, by simp [go_sem, h1], h2, h3, h4⟩, by simpa using h5, by simpa using h6⟩
structure OwV (w : World) (base O : Nat) (L : List Rq) : Prop where
 c : ∃ v, w.cell? ⟨O, 0, none⟩ = some v /\ OwnQ w base v L
 f : w.frozen? ⟨O, 0, none⟩ = false
 lt : O < base
 bl : base <= w.heap.size
theorem OwV.dn {w w' : World} {base O : Nat} {L : List Rq} (h : OwV w base O L) (q : Dn w w') : OwV w' base O L := by
 obtain ⟨⟨v, h1, h2⟩, h3, h4, h5⟩ := h
 exact ⟨⟨v, q.cell h1, h2.dn q⟩, (q.frozen (a := ⟨O, 0, none⟩) (by show O < w.heap.size; omega)).trans h3, h4, Nat.le_trans h5 q.size⟩
theorem OwnQ.low {w : World} {base B : Nat} {v : Value} {L : List Rq} (h : OwnQ w base v L) (hB : B < base) (u : Value) : OwnQ (w.setCell ⟨B, 0, none⟩ u) base v L :=
 h.kept (grown_set w ⟨B, 0, none⟩ u) (fun k e => by cases e; exact hB)
theorem OwV.far {w : World} {base O B : Nat} {L : List Rq} (h : OwV w base O L) (n : O ≠ B) (hB : B < base) (u : Value) : OwV (w.setCell ⟨B, 0, none⟩ u) base O L := by
 obtain ⟨⟨v, h1, h2⟩, h3, h4, h5⟩ := h
 exact ⟨⟨v, by rw [World.cell?_setCell_other _ _ _ _ (fun e => n (by simpa using (congrArg Addr.block e).symm))]; exact h1, h2.low hB u⟩, by simpa using h3, h4, by simpa using h5⟩
theorem rt1 {w : World} {p : Option Addr} {t : List Rq} (h : t.length + 1 <= 1) : Row w p t := by
 cases t with
 | nil => exact Row.nil _ _
 | cons z t => simp at h
theorem cmn_step (x y : Rq) (s t : List Rq) : cmn (x :: s) (y :: t) = (if MeetR x y then [inR x y] else []) ++ (if x.hi < y.hi then cmn s (y :: t) else cmn (x :: s) t) := by rw [cmn]
theorem cmn_nil (s : List Rq) : cmn s [] = [] := by cases s <;> simp [cmn]
theorem cmn_nil' (t : List Rq) : cmn [] t = [] := by cases t <;> simp [cmn]
theorem cmn1 (A B O base : Nat) (x y : Rq) (s t L : List Rq) (w0 : World) (w : World) (hA : SlV w0 w A (x :: s)) (hB : SlV w0 w B (y :: t)) (hO : OwV w base O L) (hd : Dn w0 w) (n0 : w0.heap.size <= A) (n1 : A < B) (n2 : B < O) (n3 : O < base) (hx : x.ok) (hy : y.ok) (hL : L.length <= 900000) :
   Calls Tryz.prog 104 #[.pointer (some ⟨A, 0, none⟩), .pointer (some ⟨B, 0, none⟩), .pointer (some ⟨O, 0, none⟩)] w fun ro w' => ro = .returned (.tuple #[]) /\ ∃ s' t', (x.hi < y.hi -> s' = s /\ t' = y :: t) /\ (¬ x.hi < y.hi -> s' = x :: s /\ t' = t) /\ SlV w0 w' A s' /\ SlV w0 w' B t' /\ OwV w' base O (L ++ (if MeetR x y then [inR x y] else [])) /\ Dn w0 w' := by
 have hmi := meet_iff (p := x) (x := y) ⟨hx.1, hx.2.1⟩ ⟨hy.1, hy.2.1⟩
 have HXO := Lib.hid hx
 have HYO := Lib.hid hy
 have hT := Lib.hid (fun i1 d1 i2 d2 is W k => rnCommon x.a x.b x.c x.d y.a y.b y.c y.d i1 d1 i2 d2 is W hx.1 hx.2.1 hy.1 hy.2.1 k)
 have hCe := Lib.hid (fun W => eCmp x.c x.d y.c y.d W)
 have hlt := eC_lt (i := x.c) (j := y.c) hx.2.1 hy.2.1
 have hs0 : (0 : Int) < (s.length : Int) + 1 := by omega
 have ht0 : (0 : Int) < (t.length : Int) + 1 := by omega
 obtain ⟨⟨pa, ca, av1, a2, a3, a4⟩, -, la⟩ := id hA
 obtain ⟨⟨pb, cb, bv1, b2', b3', b4'⟩, -, lb⟩ := id hB
 obtain ⟨g, o, rfl, cx0⟩ := a4.cs (by simp)
 obtain ⟨g2, o2, rfl, cy0⟩ := b4'.cs (by simp)
 rw [List.length_cons] at av1 a2 bv1 b2'
 have HCX := Lib.hid cx0
 have HCY := Lib.hid cy0
 clear a4 b4' hx hy cx0 cy0
 by_cases hm : MeetR x y
 · have HM := Lib.hid hm
   have hmt : Meet x.a x.b x.c x.d y.a y.b y.c y.d := hmi.2 hm; clear hm hmi; have HMT := Lib.hid hmt; clear hmt; go_enter Tryz.func104, Tryz.ntmps104; go_wp2_with fail; obtain ⟨xq0, xq1, xq2, xq3⟩ := (HCX.out.dn hd).head; have xl := (HCX.out.dn hd).lt; obtain ⟨yq0, yq1, yq2, yq3⟩ := (HCY.out.dn hd).head; have yl := (HCY.out.dn hd).lt; refine region_inv (fun A l a' w' => ∃ (b0 b1 b2 b3 b4 b5 b6 b7 b8 b9 b10 b11 b12 : Bool) (x6 x7 x8 x9 x10 x11 x12 x5 x13 x14 x3 x4 : Value), l = #[b0, b1, b2, b3, b4, b5, b6, b7, b8, b9, b10, b11, b12] /\ a' = ((((((((((((A.put (some 6) x6).put (some 7) x7).put (some 8) x8).put (some 9) x9).put (some 10) x10).put (some 11) x11).put (some 12) x12).put (some 5) x5).put (some 13) x13).put (some 14) x14).put (some 3) x3).put (some 4) x4) /\ Dn w w' /\ (b0 = true -> x6 = .slice (some ⟨g, o, none⟩) (s.length + 1) ca) /\ (b1 = true -> x7 = .pointer (some ⟨g, o, none⟩)) /\ (b2 = true -> x8 = .agg #[.int .i8 x.a, .int .i64 x.b, .int .i8 x.c, .int .i64 x.d]) /\ (b3 = true -> x9 = .slice (some ⟨g2, o2, none⟩) (t.length + 1) cb) /\ (b4 = true -> x10 = .pointer (some ⟨g2, o2, none⟩)) /\ (b5 = true -> x11 = .agg #[.int .i8 y.a, .int .i64 y.b, .int .i8 y.c, .int .i64 y.d]) /\ (b6 = true -> x12 = .tuple #[.agg #[.int .i8 (mxI x.a x.b y.a y.b), .int .i64 (mxD x.a x.b y.a y.b), .int .i8 (mnI x.c x.d y.c y.d), .int .i64 (mnD x.c x.d y.c y.d)], .bool true]) /\ (b7 = true -> x5 = .tuple #[.agg #[.int .i8 (mxI x.a x.b y.a y.b), .int .i64 (mxD x.a x.b y.a y.b), .int .i8 (mnI x.c x.d y.c y.d), .int .i64 (mnD x.c x.d y.c y.d)], .bool true]) /\ (b8 = true -> x13 = .agg #[.int .i8 (mxI x.a x.b y.a y.b), .int .i64 (mxD x.a x.b y.a y.b), .int .i8 (mnI x.c x.d y.c y.d), .int .i64 (mnD x.c x.d y.c y.d)]) /\ (b9 = true -> x14 = .bool true) /\ (b12 = true -> x4 = .bool true) /\ (b11 = true -> b10 = true) /\ Bl w.heap.size w' b10 b11 x3 (.int .i8 (mxI x.a x.b y.a y.b)) (.int .i64 (mxD x.a x.b y.a y.b)) (.int .i8 (mnI x.c x.d y.c y.d)) (.int .i64 (mnD x.c x.d y.c y.d))) (by kernel_rfl) ?_ ?_ ?_
   · exact ⟨false, false, false, false, false, false, false, false, false, false, false, false, false, undef, undef, undef, undef, undef, undef, undef, undef, undef, undef, undef, undef, rfl, by simp only [Act.put, pL], (Dn.refl _).drew, (fun h => by cases h), (fun h => by cases h), (fun h => by cases h), (fun h => by cases h), (fun h => by cases h), (fun h => by cases h), (fun h => by cases h), (fun h => by cases h), (fun h => by cases h), (fun h => by cases h), (fun h => by cases h), (fun h => by cases h), Bl.no⟩
   · rintro l a' w' i ⟨b0, b1, b2, b3, b4, b5, b6, b7, b8, b9, b10, b11, b12, x6, x7, x8, x9, x10, x11, x12, x5, x13, x14, x3, x4, rfl, rfl, q, hv0, hv1, hv2, hv3, hv4, hv5, hv6, hv7, hv8, hv9, hv12, hs10, hk10⟩ hun hdep hi
     simp only [Act.put, pL]; have hi' : i < 13 := hi; rcases (show i = 0 \/ i = 1 \/ i = 2 \/ i = 3 \/ i = 4 \/ i = 5 \/ i = 6 \/ i = 7 \/ i = 8 \/ i = 9 \/ i = 10 \/ i = 11 \/ i = 12 by omega) with rfl | rfl | rfl | rfl | rfl | rfl | rfl | rfl | rfl | rfl | rfl | rfl | rfl
     ·
       have f0 : b0 = false := (by simpa using hun); subst f0; have g2 := q.cell av1; refine wpOp_step rfl (fun K hK => ?_); replace hK := Lib.hid hK; go_simp; exact hK.out _ _ ⟨true, b1, b2, b3, b4, b5, b6, b7, b8, b9, b10, b11, b12, .slice (some ⟨g, o, none⟩) (s.length + 1) ca, x7, x8, x9, x10, x11, x12, x5, x13, x14, x3, x4, rfl, by first | (simp only [Act.put, pL]; done) | rfl, q, fun _ => rfl, hv1, hv2, hv3, hv4, hv5, hv6, hv7, hv8, hv9, hv12, hs10, hk10⟩
     ·
       have e0 : b0 = true := hdep _ rfl ⟨0, .data⟩ (by simp) rfl; have f1 : b1 = false := (by simpa using hun); subst f1 e0; obtain rfl := hv0 rfl; refine wpOp_step rfl (fun K hK => ?_); replace hK := Lib.hid hK; go_simp; exact hK.out _ _ ⟨true, true, b2, b3, b4, b5, b6, b7, b8, b9, b10, b11, b12, .slice (some ⟨g, o, none⟩) (s.length + 1) ca, .pointer (some ⟨g, o, none⟩), x8, x9, x10, x11, x12, x5, x13, x14, x3, x4, rfl, by first | (simp only [Act.put, pL]; done) | rfl, q, fun _ => rfl, fun _ => rfl, hv2, hv3, hv4, hv5, hv6, hv7, hv8, hv9, hv12, hs10, hk10⟩
     ·
       have e1 : b1 = true := hdep _ rfl ⟨1, .data⟩ (by simp) rfl; have f2 : b2 = false := (by simpa using hun); subst f2 e1; obtain rfl := hv1 rfl; obtain ⟨g3, g4, g5, g6⟩ := mv4 q.cell xq0 xq1 xq2 xq3; refine wpOp_step rfl (fun K hK => ?_); replace hK := Lib.hid hK; go_simp; exact hK.out _ _ ⟨b0, true, true, b3, b4, b5, b6, b7, b8, b9, b10, b11, b12, x6, .pointer (some ⟨g, o, none⟩), .agg #[.int .i8 x.a, .int .i64 x.b, .int .i8 x.c, .int .i64 x.d], x9, x10, x11, x12, x5, x13, x14, x3, x4, rfl, by first | (simp only [Act.put, pL]; done) | rfl, q, hv0, fun _ => rfl, fun _ => rfl, hv3, hv4, hv5, hv6, hv7, hv8, hv9, hv12, hs10, hk10⟩
     ·
       have f3 : b3 = false := (by simpa using hun); subst f3; have g7 := q.cell bv1; refine wpOp_step rfl (fun K hK => ?_); replace hK := Lib.hid hK; go_simp; exact hK.out _ _ ⟨b0, b1, b2, true, b4, b5, b6, b7, b8, b9, b10, b11, b12, x6, x7, x8, .slice (some ⟨g2, o2, none⟩) (t.length + 1) cb, x10, x11, x12, x5, x13, x14, x3, x4, rfl, by first | (simp only [Act.put, pL]; done) | rfl, q, hv0, hv1, hv2, fun _ => rfl, hv4, hv5, hv6, hv7, hv8, hv9, hv12, hs10, hk10⟩
     ·
       have e3 : b3 = true := hdep _ rfl ⟨3, .data⟩ (by simp) rfl; have f4 : b4 = false := (by simpa using hun); subst f4 e3; obtain rfl := hv3 rfl; refine wpOp_step rfl (fun K hK => ?_); replace hK := Lib.hid hK; go_simp; exact hK.out _ _ ⟨b0, b1, b2, true, true, b5, b6, b7, b8, b9, b10, b11, b12, x6, x7, x8, .slice (some ⟨g2, o2, none⟩) (t.length + 1) cb, .pointer (some ⟨g2, o2, none⟩), x11, x12, x5, x13, x14, x3, x4, rfl, by first | (simp only [Act.put, pL]; done) | rfl, q, hv0, hv1, hv2, fun _ => rfl, fun _ => rfl, hv5, hv6, hv7, hv8, hv9, hv12, hs10, hk10⟩
     ·
       have e4 : b4 = true := hdep _ rfl ⟨4, .data⟩ (by simp) rfl; have f5 : b5 = false := (by simpa using hun); subst f5 e4; obtain rfl := hv4 rfl; obtain ⟨g8, g9, g10, g11⟩ := mv4 q.cell yq0 yq1 yq2 yq3; refine wpOp_step rfl (fun K hK => ?_); replace hK := Lib.hid hK; go_simp; exact hK.out _ _ ⟨b0, b1, b2, b3, true, true, b6, b7, b8, b9, b10, b11, b12, x6, x7, x8, x9, .pointer (some ⟨g2, o2, none⟩), .agg #[.int .i8 y.a, .int .i64 y.b, .int .i8 y.c, .int .i64 y.d], x12, x5, x13, x14, x3, x4, rfl, by first | (simp only [Act.put, pL]; done) | rfl, q, hv0, hv1, hv2, hv3, fun _ => rfl, fun _ => rfl, hv6, hv7, hv8, hv9, hv12, hs10, hk10⟩
     ·
       have e2 : b2 = true := hdep _ rfl ⟨2, .data⟩ (by simp) rfl; have e5 : b5 = true := hdep _ rfl ⟨5, .data⟩ (by simp) rfl; have f6 : b6 = false := (by simpa using hun); subst f6 e2 e5; obtain rfl := hv2 rfl; obtain rfl := hv5 rfl; refine wpOp_step rfl (fun K hK => ?_); replace hK := Lib.hid hK; go_simp; go_at_call 105; refine (hT.out _ _ _ _ _ _ (Or.inl ⟨HMT.out, rfl, rfl, rfl, rfl, rfl⟩)).mono ?_; rintro e wa ⟨rfl, qa⟩
       try go_wp2_with fail
       exact hK.out _ _ ⟨b0, b1, true, b3, b4, true, true, b7, b8, b9, b10, b11, b12, x6, x7, .agg #[.int .i8 x.a, .int .i64 x.b, .int .i8 x.c, .int .i64 x.d], x9, x10, .agg #[.int .i8 y.a, .int .i64 y.b, .int .i8 y.c, .int .i64 y.d], .tuple #[.agg #[.int .i8 (mxI x.a x.b y.a y.b), .int .i64 (mxD x.a x.b y.a y.b), .int .i8 (mnI x.c x.d y.c y.d), .int .i64 (mnD x.c x.d y.c y.d)], .bool true], x5, x13, x14, x3, x4, rfl, by first | (simp only [Act.put, pL]; done) | rfl, q.trans qa, hv0, hv1, fun _ => rfl, hv3, hv4, fun _ => rfl, fun _ => rfl, hv7, hv8, hv9, hv12, hs10, hk10.dn qa⟩
     ·
       have e6 : b6 = true := hdep _ rfl ⟨6, .data⟩ (by simp) rfl; have f7 : b7 = false := (by simpa using hun); subst f7 e6; obtain rfl := hv6 rfl; refine wpOp_step rfl (fun K hK => ?_); replace hK := Lib.hid hK; go_simp; exact hK.out _ _ ⟨b0, b1, b2, b3, b4, b5, true, true, b8, b9, b10, b11, b12, x6, x7, x8, x9, x10, x11, .tuple #[.agg #[.int .i8 (mxI x.a x.b y.a y.b), .int .i64 (mxD x.a x.b y.a y.b), .int .i8 (mnI x.c x.d y.c y.d), .int .i64 (mnD x.c x.d y.c y.d)], .bool true], .tuple #[.agg #[.int .i8 (mxI x.a x.b y.a y.b), .int .i64 (mxD x.a x.b y.a y.b), .int .i8 (mnI x.c x.d y.c y.d), .int .i64 (mnD x.c x.d y.c y.d)], .bool true], x13, x14, x3, x4, rfl, by first | (simp only [Act.put, pL]; done) | rfl, q, hv0, hv1, hv2, hv3, hv4, hv5, fun _ => rfl, fun _ => rfl, hv8, hv9, hv12, hs10, hk10⟩
     ·
       have e7 : b7 = true := hdep _ rfl ⟨7, .data⟩ (by simp) rfl; have f8 : b8 = false := (by simpa using hun); subst f8 e7; obtain rfl := hv7 rfl; refine wpOp_step rfl (fun K hK => ?_); replace hK := Lib.hid hK; go_simp; exact hK.out _ _ ⟨b0, b1, b2, b3, b4, b5, b6, true, true, b9, b10, b11, b12, x6, x7, x8, x9, x10, x11, x12, .tuple #[.agg #[.int .i8 (mxI x.a x.b y.a y.b), .int .i64 (mxD x.a x.b y.a y.b), .int .i8 (mnI x.c x.d y.c y.d), .int .i64 (mnD x.c x.d y.c y.d)], .bool true], .agg #[.int .i8 (mxI x.a x.b y.a y.b), .int .i64 (mxD x.a x.b y.a y.b), .int .i8 (mnI x.c x.d y.c y.d), .int .i64 (mnD x.c x.d y.c y.d)], x14, x3, x4, rfl, by first | (simp only [Act.put, pL]; done) | rfl, q, hv0, hv1, hv2, hv3, hv4, hv5, hv6, fun _ => rfl, fun _ => rfl, hv9, hv12, hs10, hk10⟩
     ·
       have e7 : b7 = true := hdep _ rfl ⟨7, .data⟩ (by simp) rfl; have f9 : b9 = false := (by simpa using hun); subst f9 e7; obtain rfl := hv7 rfl; refine wpOp_step rfl (fun K hK => ?_); replace hK := Lib.hid hK; go_simp; exact hK.out _ _ ⟨b0, b1, b2, b3, b4, b5, b6, true, b8, true, b10, b11, b12, x6, x7, x8, x9, x10, x11, x12, .tuple #[.agg #[.int .i8 (mxI x.a x.b y.a y.b), .int .i64 (mxD x.a x.b y.a y.b), .int .i8 (mnI x.c x.d y.c y.d), .int .i64 (mnD x.c x.d y.c y.d)], .bool true], x13, .bool true, x3, x4, rfl, by first | (simp only [Act.put, pL]; done) | rfl, q, hv0, hv1, hv2, hv3, hv4, hv5, hv6, fun _ => rfl, hv8, fun _ => rfl, hv12, hs10, hk10⟩
     ·
       have f10 : b10 = false := (by simpa using hun); subst f10; obtain rfl : b11 = false := (by cases b11 with | false => rfl | true => exact absurd (hs10 rfl) (by simp)); refine wpOp_step rfl (fun K hK => ?_); replace hK := Lib.hid hK; go_simp; exact hK.out _ _ ⟨b0, b1, b2, b3, b4, b5, b6, b7, b8, b9, true, false, b12, x6, x7, x8, x9, x10, x11, x12, x5, x13, x14, .pointer (some ⟨w'.heap.size, 0, none⟩), x4, rfl, by first | (simp only [Act.put, pL]; done) | rfl, q.alloc _, hv0, hv1, hv2, hv3, hv4, hv5, hv6, hv7, hv8, hv9, hv12, fun _ => rfl, Bl.new q.size _⟩
     ·
       have e10 : b10 = true := hdep _ rfl ⟨10, .data⟩ (by simp) rfl; have e8 : b8 = true := hdep _ rfl ⟨8, .data⟩ (by simp) rfl; have f11 : b11 = false := (by simpa using hun); subst f11 e10 e8; obtain rfl := hv8 rfl; obtain ⟨B, rfl, hL, hz, _⟩ := hk10 rfl; have hB := hz rfl; have z0 := hB.c0; have y0 := hB.f0; have z1 := hB.c1; have y1 := hB.f1; have z2 := hB.c2; have y2 := hB.f2; have z3 := hB.c3; have y3 := hB.f3; have zl := hB.lt; refine wpOp_step rfl (fun K hK => ?_); replace hK := Lib.hid hK; go_simp; exact hK.out _ _ ⟨b0, b1, b2, b3, b4, b5, b6, b7, true, b9, true, true, b12, x6, x7, x8, x9, x10, x11, x12, x5, .agg #[.int .i8 (mxI x.a x.b y.a y.b), .int .i64 (mxD x.a x.b y.a y.b), .int .i8 (mnI x.c x.d y.c y.d), .int .i64 (mnD x.c x.d y.c y.d)], x14, .pointer (some ⟨B, 0, none⟩), x4, rfl, by first | (simp only [Act.put, pL]; done) | rfl, (Dn.setCell (Dn.setCell (Dn.setCell (Dn.setCell q (by simpa using hL) _) (by simpa using hL) _) (by simpa using hL) _) (by simpa using hL) _), hv0, hv1, hv2, hv3, hv4, hv5, hv6, hv7, fun _ => rfl, hv9, hv12, fun _ => rfl, fun _ => ⟨B, rfl, hL, (fun k => by cases k), fun _ => hB.fill _ _ _ _⟩⟩
     ·
       have e9 : b9 = true := hdep _ rfl ⟨9, .data⟩ (by simp) rfl; have f12 : b12 = false := (by simpa using hun); subst f12 e9; obtain rfl := hv9 rfl; refine wpOp_step rfl (fun K hK => ?_); replace hK := Lib.hid hK; go_simp; exact hK.out _ _ ⟨b0, b1, b2, b3, b4, b5, b6, b7, b8, true, b10, b11, true, x6, x7, x8, x9, x10, x11, x12, x5, x13, .bool true, x3, .bool true, rfl, by first | (simp only [Act.put, pL]; done) | rfl, q, hv0, hv1, hv2, hv3, hv4, hv5, hv6, hv7, hv8, fun _ => rfl, fun _ => rfl, hs10, hk10⟩
   · rintro l a' W12 ⟨b0, b1, b2, b3, b4, b5, b6, b7, b8, b9, b10, b11, b12, x6, x7, x8, x9, x10, x11, x12, x5, x13, x14, x3, x4, rfl, rfl, qW12, hv0, hv1, hv2, hv3, hv4, hv5, hv6, hv7, hv8, hv9, hv12, hs10, hk10⟩ hall
     obtain rfl : b0 = true := (by cases b0 with | true => rfl | false => exact nB (hall 0 _ rfl rfl)); obtain rfl : b1 = true := (by cases b1 with | true => rfl | false => exact nB (hall 1 _ rfl rfl)); obtain rfl : b2 = true := (by cases b2 with | true => rfl | false => exact nB (hall 2 _ rfl rfl)); obtain rfl : b3 = true := (by cases b3 with | true => rfl | false => exact nB (hall 3 _ rfl rfl)); obtain rfl : b4 = true := (by cases b4 with | true => rfl | false => exact nB (hall 4 _ rfl rfl)); obtain rfl : b5 = true := (by cases b5 with | true => rfl | false => exact nB (hall 5 _ rfl rfl)); obtain rfl : b6 = true := (by cases b6 with | true => rfl | false => exact nB (hall 6 _ rfl rfl)); obtain rfl : b7 = true := (by cases b7 with | true => rfl | false => exact nB (hall 7 _ rfl rfl)); obtain rfl : b8 = true := (by cases b8 with | true => rfl | false => exact nB (hall 8 _ rfl rfl)); obtain rfl : b9 = true := (by cases b9 with | true => rfl | false => exact nB (hall 9 _ rfl rfl)); obtain rfl : b10 = true := (by cases b10 with | true => rfl | false => exact nB (hall 10 _ rfl rfl)); obtain rfl : b11 = true := (by cases b11 with | true => rfl | false => exact nB (hall 11 _ rfl rfl)); obtain rfl : b12 = true := (by cases b12 with | true => rfl | false => exact nB (hall 12 _ rfl rfl)); obtain rfl := hv0 rfl; obtain rfl := hv1 rfl; obtain rfl := hv2 rfl; obtain rfl := hv3 rfl; obtain rfl := hv4 rfl; obtain rfl := hv5 rfl; obtain rfl := hv6 rfl; obtain rfl := hv7 rfl; obtain rfl := hv8 rfl; obtain rfl := hv9 rfl; obtain rfl := hv12 rfl; obtain ⟨Bt3, rfl, ot3, _, gt3⟩ := hk10 rfl; obtain ⟨t3c0, t3c1, t3c2, t3c3, t3f0, t3f1, t3f2, t3f3, lt3⟩ := gt3 rfl; clear gt3; replace hA := hA.dn qW12; replace hB := hB.dn qW12; replace hO := hO.dn qW12; obtain ⟨aR, aS, aT, aU⟩ := nl4 qW12.size xl yl la lb; obtain ⟨a0, a1, a5, a6, a7, a8, a9, aA, aB, aC⟩ := mv10 qW12.cell xq0 xq1 xq2 xq3 yq0 yq1 yq2 yq3 av1 bv1; clear xl xq0 xq1 xq2 xq3 yl yq0 yq1 yq2 yq3 la av1 lb bv1; clear t3f0 t3f1 t3f2 t3f3; have vW12 := hd.trans qW12; clear hv0 hv1 hv2 hv3 hv4 hv5 hv6 hv7 hv8 hv9 hv12 hs10 hk10 ot3 hall; simp only [Act.put, pL]; obtain ⟨⟨v, v1, v2⟩, vf, vl, vb⟩ := hO; go_wp2_with (at_builtin; refine list_runB rfl _ _ rfl W12 base v L (mxI x.a x.b y.a y.b) (mxD x.a x.b y.a y.b) (mnI x.c x.d y.c y.d) (mnD x.c x.d y.c y.d) rfl v2 rfl (by omega) vb ?_); intro v' w' hown' hold hsz hdn; have hd2 : Dn w0 w' := hdn w0 vW12 (by omega); have hA2 := hA.same (hold A (by omega)) hsz; have hB2 := hB.same (hold B (by omega)) hsz; have ov := cell_same (hold O vl) v1; have of : w'.frozen? ⟨O, 0, none⟩ = false := (frozen_same (hold O vl)).trans vf; have hsz2 := hd2.size; clear hA hB v1 v2 vf hold hdn vW12 a0 a1 a5 a6 a7 a8 a9 aA aB aC t3c0 t3c1 t3c2 t3c3; obtain ⟨p', cap', hv', -, -⟩ := hown'.rowOf; obtain ⟨n', hn'⟩ : ∃ n', n' = (L ++ [(⟨mxI x.a x.b y.a y.b, mxD x.a x.b y.a y.b, mnI x.c x.d y.c y.d, mnD x.c x.d y.c y.d⟩ : Rq)]).length := ⟨_, rfl⟩; rw [<- hn'] at hv'; subst hv'; clear hn'; go_upto_region 3 with fail; obtain ⟨W2, hW2⟩ : ∃ W2, W2 = w'.setCell ⟨O, 0, none⟩ (.slice p' n' cap') := ⟨_, rfl⟩; have hd : Dn w0 W2 := (by rw [hW2]; exact hd2.setCell (show w0.heap.size <= O by omega) _); have hA : SlV w0 W2 A (x :: s) := (by rw [hW2]; exact hA2.far (by omega) _); have hB : SlV w0 W2 B (y :: t) := (by rw [hW2]; exact hB2.far (by omega) _)
     have hO : OwV W2 base O (L ++ [inR x y]) := by
       rw [hW2]; exact ⟨⟨_, by simp [go_sem, ov], (show OwnQ w' base (.slice p' n' cap') (L ++ [inR x y]) from hown').low vl _⟩, by simpa using of, vl, by simp; omega⟩
     rw [<- hW2]; clear hW2 hA2 hB2 ov of hown' hd2
     by_cases hc : eC x.c x.d y.c y.d < 0
     · have dc : decide (eC x.c x.d y.c y.d < 0) = true := by simpa using hc
       have HLT : Hid (x.hi < y.hi) := Lib.hid (hlt.1 hc); clear hc hlt; generalize eC x.c x.d y.c y.d = n at *; obtain ⟨⟨pa, ca2, aw1, aw2, aw3, aw4⟩, -, la'⟩ := (id hA : SlV w0 W2 A (x :: s)); obtain ⟨ga', oa', rfl, hca⟩ := aw4.cs (by simp); have HCA' := Lib.hid hca; rw [List.length_cons] at aw1 aw2; clear aw4 hca; obtain ⟨⟨pb, cb2, bw1, bw2, bw3, bw4⟩, -, lb'⟩ := (id hB : SlV w0 W2 B (y :: t)); obtain ⟨gb', ob', rfl, hcb⟩ := bw4.cs (by simp); have HCB' := Lib.hid hcb; rw [List.length_cons] at bw1 bw2; clear bw4 hcb; obtain ⟨xq0, xq1, xq2, xq3⟩ := (HCA'.out.dn hd).head; have xl := (HCA'.out.dn hd).lt; obtain ⟨yq0, yq1, yq2, yq3⟩ := (HCB'.out.dn hd).head; have yl := (HCB'.out.dn hd).lt; go_wp2_with fail; have hS27 := kd_10 (W := W2) (Dn.refl _) ⟨Dn.refl _, xq0, xq1, xq2, xq3, yq0, yq1, yq2, yq3, aw1, bw1⟩; have HShS27 := Lib.hid hS27; clear xq0 xq1 xq2 xq3 yq0 yq1 yq2 yq3 aw1 bw1; refine wp_region_held_drew (S := fun w' => Dn W2 w' /\ w'.cell? ⟨ga', oa', none⟩ = some (.int .i8 x.a) /\ w'.cell? ⟨ga', oa' + 1, none⟩ = some (.int .i64 x.b) /\ w'.cell? ⟨ga', oa' + 2, none⟩ = some (.int .i8 x.c) /\ w'.cell? ⟨ga', oa' + 3, none⟩ = some (.int .i64 x.d) /\ w'.cell? ⟨gb', ob', none⟩ = some (.int .i8 y.a) /\ w'.cell? ⟨gb', ob' + 1, none⟩ = some (.int .i64 y.b) /\ w'.cell? ⟨gb', ob' + 2, none⟩ = some (.int .i8 y.c) /\ w'.cell? ⟨gb', ob' + 3, none⟩ = some (.int .i64 y.d) /\ w'.cell? ⟨A, 0, none⟩ = some (.slice (some ⟨ga', oa', none⟩) (s.length + 1) ca2) /\ w'.cell? ⟨B, 0, none⟩ = some (.slice (some ⟨gb', ob', none⟩) (t.length + 1) cb2)) (by kernel_rfl) ?_ (fun hHeld => ?_)
       · (try dsimp only); (exact ke kd_10)
       refine tS 0 rfl ?_; refine tS 1 rfl ?_; refine tS 2 rfl ?_; refine tS 3 rfl ?_; refine tS 4 rfl ?_; refine tS 5 rfl ?_; refine tS 6 rfl ?_; refine tS 7 rfl ?_; refine rD 8 rfl (fun K hK => ?_); go_simp
       (go_at_call 66; refine (hCe.out _).mono ?_; rintro e wa ⟨rfl, qa⟩; replace qa := Up.dn qa)
       try go_wp2_with fail
       refine hK.out _ _ ?_ (fun hHeld => ?_)
       · (try dsimp only); (exact ke kd_10)
       clear hK K
       try simp only [Act.put, pL]
       refine tS 9 rfl ?_; refine wpAnyH_done (by kernel_rfl) ?_ _
       all_goals skip
       all_goals
         clear hS27; obtain ⟨uf38, aD, aE, aF, aG, aH, aI, aJ, aK, aL, aM⟩ := (‹Dn W2 _ /\ _› : _ /\ _); obtain ⟨w39, rfl⟩ : ∃ w39 : World, w39 = wa := ⟨_, rfl⟩; have aN := nlt xl uf38.size; clear xl; have aO := nlt yl uf38.size; clear yl; have aP := nlt la' uf38.size; clear la'; have aQ := nlt lb' uf38.size; clear lb'; replace hA := hA.dn uf38; replace hB := hB.dn uf38; replace hO := hO.dn uf38; have vuf38 := hd.trans uf38; clear uf38 hd HShS27; have zf := hA.f; go_wp2_with fail
         all_goals
           (try simp only [Exit.inBlock, Exit.then])
           refine bodyPost_ret (results_none rfl _ _ _) rfl ?_; refine ⟨rfl, s, y :: t, fun _ => ⟨rfl, rfl⟩, fun h => by have h2 := HLT.out; omega, ?_⟩
           first | rw [if_pos HM.out] | skip
           first
            | exact ⟨(hA.set (t := s) (by omega) (by omega) (rt1 (by omega))), (hB.far (by omega) _), hO.far (by omega) (by omega) _, vuf38.setCell (show w0.heap.size <= A by omega) _⟩
            | exact ⟨(hA.set (t := s) (by omega) (by omega) HCA'.out.tail.row), (hB.far (by omega) _), hO.far (by omega) (by omega) _, vuf38.setCell (show w0.heap.size <= A by omega) _⟩
     · have dc : decide (eC x.c x.d y.c y.d < 0) = false := by simpa using hc
       have HLT : Hid (¬ x.hi < y.hi) := Lib.hid (fun h => hc (hlt.2 h)); clear hc hlt; generalize eC x.c x.d y.c y.d = n at *; obtain ⟨⟨pa, ca2, aw1, aw2, aw3, aw4⟩, -, la'⟩ := (id hA : SlV w0 W2 A (x :: s)); obtain ⟨ga', oa', rfl, hca⟩ := aw4.cs (by simp); have HCA' := Lib.hid hca; rw [List.length_cons] at aw1 aw2; clear aw4 hca; obtain ⟨⟨pb, cb2, bw1, bw2, bw3, bw4⟩, -, lb'⟩ := (id hB : SlV w0 W2 B (y :: t)); obtain ⟨gb', ob', rfl, hcb⟩ := bw4.cs (by simp); have HCB' := Lib.hid hcb; rw [List.length_cons] at bw1 bw2; clear bw4 hcb; obtain ⟨xq0, xq1, xq2, xq3⟩ := (HCA'.out.dn hd).head; have xl := (HCA'.out.dn hd).lt; obtain ⟨yq0, yq1, yq2, yq3⟩ := (HCB'.out.dn hd).head; have yl := (HCB'.out.dn hd).lt; go_wp2_with fail; have hS27 := kd_10 (W := W2) (Dn.refl _) ⟨Dn.refl _, xq0, xq1, xq2, xq3, yq0, yq1, yq2, yq3, aw1, bw1⟩; have HShS27 := Lib.hid hS27; clear xq0 xq1 xq2 xq3 yq0 yq1 yq2 yq3 aw1 bw1; refine wp_region_held_drew (S := fun w' => Dn W2 w' /\ w'.cell? ⟨ga', oa', none⟩ = some (.int .i8 x.a) /\ w'.cell? ⟨ga', oa' + 1, none⟩ = some (.int .i64 x.b) /\ w'.cell? ⟨ga', oa' + 2, none⟩ = some (.int .i8 x.c) /\ w'.cell? ⟨ga', oa' + 3, none⟩ = some (.int .i64 x.d) /\ w'.cell? ⟨gb', ob', none⟩ = some (.int .i8 y.a) /\ w'.cell? ⟨gb', ob' + 1, none⟩ = some (.int .i64 y.b) /\ w'.cell? ⟨gb', ob' + 2, none⟩ = some (.int .i8 y.c) /\ w'.cell? ⟨gb', ob' + 3, none⟩ = some (.int .i64 y.d) /\ w'.cell? ⟨A, 0, none⟩ = some (.slice (some ⟨ga', oa', none⟩) (s.length + 1) ca2) /\ w'.cell? ⟨B, 0, none⟩ = some (.slice (some ⟨gb', ob', none⟩) (t.length + 1) cb2)) (by kernel_rfl) ?_ (fun hHeld => ?_)
       · (try dsimp only); (exact ke kd_10)
       refine tS 0 rfl ?_; refine tS 1 rfl ?_; refine tS 2 rfl ?_; refine tS 3 rfl ?_; refine tS 4 rfl ?_; refine tS 5 rfl ?_; refine tS 6 rfl ?_; refine tS 7 rfl ?_; refine rD 8 rfl (fun K hK => ?_); go_simp
       (go_at_call 66; refine (hCe.out _).mono ?_; rintro e wa ⟨rfl, qa⟩; replace qa := Up.dn qa)
       try go_wp2_with fail
       refine hK.out _ _ ?_ (fun hHeld => ?_)
       · (try dsimp only); (exact ke kd_10)
       clear hK K
       try simp only [Act.put, pL]
       refine tS 9 rfl ?_; refine wpAnyH_done (by kernel_rfl) ?_ _
       all_goals skip
       all_goals
         clear hS27; obtain ⟨uf38, aD, aE, aF, aG, aH, aI, aJ, aK, aL, aM⟩ := (‹Dn W2 _ /\ _› : _ /\ _); obtain ⟨w39, rfl⟩ : ∃ w39 : World, w39 = wa := ⟨_, rfl⟩; have aN := nlt xl uf38.size; clear xl; have aO := nlt yl uf38.size; clear yl; have aP := nlt la' uf38.size; clear la'; have aQ := nlt lb' uf38.size; clear lb'; replace hA := hA.dn uf38; replace hB := hB.dn uf38; replace hO := hO.dn uf38; have vuf38 := hd.trans uf38; clear uf38 hd HShS27; have zf := hB.f; go_wp2_with fail
         all_goals
           (try simp only [Exit.inBlock, Exit.then])
           refine bodyPost_end (results_none rfl _ _ _) rfl ?_; refine ⟨rfl, x :: s, t, fun h => by have h2 := HLT.out; omega, fun _ => ⟨rfl, rfl⟩, ?_⟩
           first | rw [if_pos HM.out] | skip
           first
            | exact ⟨(hA.far (by omega) _), (hB.set (t := t) (by omega) (by omega) (rt1 (by omega))), hO.far (by omega) (by omega) _, vuf38.setCell (show w0.heap.size <= B by omega) _⟩
            | exact ⟨(hA.far (by omega) _), (hB.set (t := t) (by omega) (by omega) HCB'.out.tail.row), hO.far (by omega) (by omega) _, vuf38.setCell (show w0.heap.size <= B by omega) _⟩
 · have HM := Lib.hid hm
   have hmt : ¬ Meet x.a x.b x.c x.d y.a y.b y.c y.d := fun h => hm (hmi.1 h)
   clear hm hmi; have HMT := Lib.hid hmt; clear hmt; go_enter Tryz.func104, Tryz.ntmps104; go_wp2_with fail; obtain ⟨xq0, xq1, xq2, xq3⟩ := (HCX.out.dn hd).head; have xl := (HCX.out.dn hd).lt; obtain ⟨yq0, yq1, yq2, yq3⟩ := (HCY.out.dn hd).head; have yl := (HCY.out.dn hd).lt; refine region_inv (fun A l a' w' => ∃ (b0 b1 b2 b3 b4 b5 b6 b7 b8 b9 b10 b11 b12 : Bool) (x6 x7 x8 x9 x10 x11 x12 x5 x13 x14 x3 x4 : Value), l = #[b0, b1, b2, b3, b4, b5, b6, b7, b8, b9, b10, b11, b12] /\ a' = ((((((((((((A.put (some 6) x6).put (some 7) x7).put (some 8) x8).put (some 9) x9).put (some 10) x10).put (some 11) x11).put (some 12) x12).put (some 5) x5).put (some 13) x13).put (some 14) x14).put (some 3) x3).put (some 4) x4) /\ Dn w w' /\ (b0 = true -> x6 = .slice (some ⟨g, o, none⟩) (s.length + 1) ca) /\ (b1 = true -> x7 = .pointer (some ⟨g, o, none⟩)) /\ (b2 = true -> x8 = .agg #[.int .i8 x.a, .int .i64 x.b, .int .i8 x.c, .int .i64 x.d]) /\ (b3 = true -> x9 = .slice (some ⟨g2, o2, none⟩) (t.length + 1) cb) /\ (b4 = true -> x10 = .pointer (some ⟨g2, o2, none⟩)) /\ (b5 = true -> x11 = .agg #[.int .i8 y.a, .int .i64 y.b, .int .i8 y.c, .int .i64 y.d]) /\ (b6 = true -> x12 = .tuple #[.agg #[.int .i8 0, .int .i64 0, .int .i8 0, .int .i64 0], .bool false]) /\ (b7 = true -> x5 = .tuple #[.agg #[.int .i8 0, .int .i64 0, .int .i8 0, .int .i64 0], .bool false]) /\ (b8 = true -> x13 = .agg #[.int .i8 0, .int .i64 0, .int .i8 0, .int .i64 0]) /\ (b9 = true -> x14 = .bool false) /\ (b12 = true -> x4 = .bool false) /\ (b11 = true -> b10 = true) /\ Bl w.heap.size w' b10 b11 x3 (.int .i8 0) (.int .i64 0) (.int .i8 0) (.int .i64 0)) (by kernel_rfl) ?_ ?_ ?_
   · exact ⟨false, false, false, false, false, false, false, false, false, false, false, false, false, undef, undef, undef, undef, undef, undef, undef, undef, undef, undef, undef, undef, rfl, by simp only [Act.put, pL], (Dn.refl _).drew, (fun h => by cases h), (fun h => by cases h), (fun h => by cases h), (fun h => by cases h), (fun h => by cases h), (fun h => by cases h), (fun h => by cases h), (fun h => by cases h), (fun h => by cases h), (fun h => by cases h), (fun h => by cases h), (fun h => by cases h), Bl.no⟩
   · rintro l a' w' i ⟨b0, b1, b2, b3, b4, b5, b6, b7, b8, b9, b10, b11, b12, x6, x7, x8, x9, x10, x11, x12, x5, x13, x14, x3, x4, rfl, rfl, q, hv0, hv1, hv2, hv3, hv4, hv5, hv6, hv7, hv8, hv9, hv12, hs10, hk10⟩ hun hdep hi
     simp only [Act.put, pL]; have hi' : i < 13 := hi; rcases (show i = 0 \/ i = 1 \/ i = 2 \/ i = 3 \/ i = 4 \/ i = 5 \/ i = 6 \/ i = 7 \/ i = 8 \/ i = 9 \/ i = 10 \/ i = 11 \/ i = 12 by omega) with rfl | rfl | rfl | rfl | rfl | rfl | rfl | rfl | rfl | rfl | rfl | rfl | rfl
     ·
       have f0 : b0 = false := (by simpa using hun); subst f0; have g2 := q.cell av1; refine wpOp_step rfl (fun K hK => ?_); replace hK := Lib.hid hK; go_simp; exact hK.out _ _ ⟨true, b1, b2, b3, b4, b5, b6, b7, b8, b9, b10, b11, b12, .slice (some ⟨g, o, none⟩) (s.length + 1) ca, x7, x8, x9, x10, x11, x12, x5, x13, x14, x3, x4, rfl, by first | (simp only [Act.put, pL]; done) | rfl, q, fun _ => rfl, hv1, hv2, hv3, hv4, hv5, hv6, hv7, hv8, hv9, hv12, hs10, hk10⟩
     ·
       have e0 : b0 = true := hdep _ rfl ⟨0, .data⟩ (by simp) rfl; have f1 : b1 = false := (by simpa using hun); subst f1 e0; obtain rfl := hv0 rfl; refine wpOp_step rfl (fun K hK => ?_); replace hK := Lib.hid hK; go_simp; exact hK.out _ _ ⟨true, true, b2, b3, b4, b5, b6, b7, b8, b9, b10, b11, b12, .slice (some ⟨g, o, none⟩) (s.length + 1) ca, .pointer (some ⟨g, o, none⟩), x8, x9, x10, x11, x12, x5, x13, x14, x3, x4, rfl, by first | (simp only [Act.put, pL]; done) | rfl, q, fun _ => rfl, fun _ => rfl, hv2, hv3, hv4, hv5, hv6, hv7, hv8, hv9, hv12, hs10, hk10⟩
     ·
       have e1 : b1 = true := hdep _ rfl ⟨1, .data⟩ (by simp) rfl; have f2 : b2 = false := (by simpa using hun); subst f2 e1; obtain rfl := hv1 rfl; obtain ⟨g3, g4, g5, g6⟩ := mv4 q.cell xq0 xq1 xq2 xq3; refine wpOp_step rfl (fun K hK => ?_); replace hK := Lib.hid hK; go_simp; exact hK.out _ _ ⟨b0, true, true, b3, b4, b5, b6, b7, b8, b9, b10, b11, b12, x6, .pointer (some ⟨g, o, none⟩), .agg #[.int .i8 x.a, .int .i64 x.b, .int .i8 x.c, .int .i64 x.d], x9, x10, x11, x12, x5, x13, x14, x3, x4, rfl, by first | (simp only [Act.put, pL]; done) | rfl, q, hv0, fun _ => rfl, fun _ => rfl, hv3, hv4, hv5, hv6, hv7, hv8, hv9, hv12, hs10, hk10⟩
     ·
       have f3 : b3 = false := (by simpa using hun); subst f3; have g7 := q.cell bv1; refine wpOp_step rfl (fun K hK => ?_); replace hK := Lib.hid hK; go_simp; exact hK.out _ _ ⟨b0, b1, b2, true, b4, b5, b6, b7, b8, b9, b10, b11, b12, x6, x7, x8, .slice (some ⟨g2, o2, none⟩) (t.length + 1) cb, x10, x11, x12, x5, x13, x14, x3, x4, rfl, by first | (simp only [Act.put, pL]; done) | rfl, q, hv0, hv1, hv2, fun _ => rfl, hv4, hv5, hv6, hv7, hv8, hv9, hv12, hs10, hk10⟩
     ·
       have e3 : b3 = true := hdep _ rfl ⟨3, .data⟩ (by simp) rfl; have f4 : b4 = false := (by simpa using hun); subst f4 e3; obtain rfl := hv3 rfl; refine wpOp_step rfl (fun K hK => ?_); replace hK := Lib.hid hK; go_simp; exact hK.out _ _ ⟨b0, b1, b2, true, true, b5, b6, b7, b8, b9, b10, b11, b12, x6, x7, x8, .slice (some ⟨g2, o2, none⟩) (t.length + 1) cb, .pointer (some ⟨g2, o2, none⟩), x11, x12, x5, x13, x14, x3, x4, rfl, by first | (simp only [Act.put, pL]; done) | rfl, q, hv0, hv1, hv2, fun _ => rfl, fun _ => rfl, hv5, hv6, hv7, hv8, hv9, hv12, hs10, hk10⟩
     ·
       have e4 : b4 = true := hdep _ rfl ⟨4, .data⟩ (by simp) rfl; have f5 : b5 = false := (by simpa using hun); subst f5 e4; obtain rfl := hv4 rfl; obtain ⟨g8, g9, g10, g11⟩ := mv4 q.cell yq0 yq1 yq2 yq3; refine wpOp_step rfl (fun K hK => ?_); replace hK := Lib.hid hK; go_simp; exact hK.out _ _ ⟨b0, b1, b2, b3, true, true, b6, b7, b8, b9, b10, b11, b12, x6, x7, x8, x9, .pointer (some ⟨g2, o2, none⟩), .agg #[.int .i8 y.a, .int .i64 y.b, .int .i8 y.c, .int .i64 y.d], x12, x5, x13, x14, x3, x4, rfl, by first | (simp only [Act.put, pL]; done) | rfl, q, hv0, hv1, hv2, hv3, fun _ => rfl, fun _ => rfl, hv6, hv7, hv8, hv9, hv12, hs10, hk10⟩
     ·
       have e2 : b2 = true := hdep _ rfl ⟨2, .data⟩ (by simp) rfl; have e5 : b5 = true := hdep _ rfl ⟨5, .data⟩ (by simp) rfl; have f6 : b6 = false := (by simpa using hun); subst f6 e2 e5; obtain rfl := hv2 rfl; obtain rfl := hv5 rfl; refine wpOp_step rfl (fun K hK => ?_); replace hK := Lib.hid hK; go_simp; go_at_call 105; refine (hT.out _ _ _ _ _ _ (Or.inr ⟨HMT.out, rfl, rfl, rfl, rfl, rfl⟩)).mono ?_; rintro e wa ⟨rfl, qa⟩
       try go_wp2_with fail
       exact hK.out _ _ ⟨b0, b1, true, b3, b4, true, true, b7, b8, b9, b10, b11, b12, x6, x7, .agg #[.int .i8 x.a, .int .i64 x.b, .int .i8 x.c, .int .i64 x.d], x9, x10, .agg #[.int .i8 y.a, .int .i64 y.b, .int .i8 y.c, .int .i64 y.d], .tuple #[.agg #[.int .i8 0, .int .i64 0, .int .i8 0, .int .i64 0], .bool false], x5, x13, x14, x3, x4, rfl, by first | (simp only [Act.put, pL]; done) | rfl, q.trans qa, hv0, hv1, fun _ => rfl, hv3, hv4, fun _ => rfl, fun _ => rfl, hv7, hv8, hv9, hv12, hs10, hk10.dn qa⟩
     ·
       have e6 : b6 = true := hdep _ rfl ⟨6, .data⟩ (by simp) rfl; have f7 : b7 = false := (by simpa using hun); subst f7 e6; obtain rfl := hv6 rfl; refine wpOp_step rfl (fun K hK => ?_); replace hK := Lib.hid hK; go_simp; exact hK.out _ _ ⟨b0, b1, b2, b3, b4, b5, true, true, b8, b9, b10, b11, b12, x6, x7, x8, x9, x10, x11, .tuple #[.agg #[.int .i8 0, .int .i64 0, .int .i8 0, .int .i64 0], .bool false], .tuple #[.agg #[.int .i8 0, .int .i64 0, .int .i8 0, .int .i64 0], .bool false], x13, x14, x3, x4, rfl, by first | (simp only [Act.put, pL]; done) | rfl, q, hv0, hv1, hv2, hv3, hv4, hv5, fun _ => rfl, fun _ => rfl, hv8, hv9, hv12, hs10, hk10⟩
     ·
       have e7 : b7 = true := hdep _ rfl ⟨7, .data⟩ (by simp) rfl; have f8 : b8 = false := (by simpa using hun); subst f8 e7; obtain rfl := hv7 rfl; refine wpOp_step rfl (fun K hK => ?_); replace hK := Lib.hid hK; go_simp; exact hK.out _ _ ⟨b0, b1, b2, b3, b4, b5, b6, true, true, b9, b10, b11, b12, x6, x7, x8, x9, x10, x11, x12, .tuple #[.agg #[.int .i8 0, .int .i64 0, .int .i8 0, .int .i64 0], .bool false], .agg #[.int .i8 0, .int .i64 0, .int .i8 0, .int .i64 0], x14, x3, x4, rfl, by first | (simp only [Act.put, pL]; done) | rfl, q, hv0, hv1, hv2, hv3, hv4, hv5, hv6, fun _ => rfl, fun _ => rfl, hv9, hv12, hs10, hk10⟩
     ·
       have e7 : b7 = true := hdep _ rfl ⟨7, .data⟩ (by simp) rfl; have f9 : b9 = false := (by simpa using hun); subst f9 e7; obtain rfl := hv7 rfl; refine wpOp_step rfl (fun K hK => ?_); replace hK := Lib.hid hK; go_simp; exact hK.out _ _ ⟨b0, b1, b2, b3, b4, b5, b6, true, b8, true, b10, b11, b12, x6, x7, x8, x9, x10, x11, x12, .tuple #[.agg #[.int .i8 0, .int .i64 0, .int .i8 0, .int .i64 0], .bool false], x13, .bool false, x3, x4, rfl, by first | (simp only [Act.put, pL]; done) | rfl, q, hv0, hv1, hv2, hv3, hv4, hv5, hv6, fun _ => rfl, hv8, fun _ => rfl, hv12, hs10, hk10⟩
     ·
       have f10 : b10 = false := (by simpa using hun); subst f10; obtain rfl : b11 = false := (by cases b11 with | false => rfl | true => exact absurd (hs10 rfl) (by simp)); refine wpOp_step rfl (fun K hK => ?_); replace hK := Lib.hid hK; go_simp; exact hK.out _ _ ⟨b0, b1, b2, b3, b4, b5, b6, b7, b8, b9, true, false, b12, x6, x7, x8, x9, x10, x11, x12, x5, x13, x14, .pointer (some ⟨w'.heap.size, 0, none⟩), x4, rfl, by first | (simp only [Act.put, pL]; done) | rfl, q.alloc _, hv0, hv1, hv2, hv3, hv4, hv5, hv6, hv7, hv8, hv9, hv12, fun _ => rfl, Bl.new q.size _⟩
     ·
       have e10 : b10 = true := hdep _ rfl ⟨10, .data⟩ (by simp) rfl; have e8 : b8 = true := hdep _ rfl ⟨8, .data⟩ (by simp) rfl; have f11 : b11 = false := (by simpa using hun); subst f11 e10 e8; obtain rfl := hv8 rfl; obtain ⟨B, rfl, hL, hz, _⟩ := hk10 rfl; have hB := hz rfl; have z0 := hB.c0; have y0 := hB.f0; have z1 := hB.c1; have y1 := hB.f1; have z2 := hB.c2; have y2 := hB.f2; have z3 := hB.c3; have y3 := hB.f3; have zl := hB.lt; refine wpOp_step rfl (fun K hK => ?_); replace hK := Lib.hid hK; go_simp; exact hK.out _ _ ⟨b0, b1, b2, b3, b4, b5, b6, b7, true, b9, true, true, b12, x6, x7, x8, x9, x10, x11, x12, x5, .agg #[.int .i8 0, .int .i64 0, .int .i8 0, .int .i64 0], x14, .pointer (some ⟨B, 0, none⟩), x4, rfl, by first | (simp only [Act.put, pL]; done) | rfl, (Dn.setCell (Dn.setCell (Dn.setCell (Dn.setCell q (by simpa using hL) _) (by simpa using hL) _) (by simpa using hL) _) (by simpa using hL) _), hv0, hv1, hv2, hv3, hv4, hv5, hv6, hv7, fun _ => rfl, hv9, hv12, fun _ => rfl, fun _ => ⟨B, rfl, hL, (fun k => by cases k), fun _ => hB.fill _ _ _ _⟩⟩
     ·
       have e9 : b9 = true := hdep _ rfl ⟨9, .data⟩ (by simp) rfl; have f12 : b12 = false := (by simpa using hun); subst f12 e9; obtain rfl := hv9 rfl; refine wpOp_step rfl (fun K hK => ?_); replace hK := Lib.hid hK; go_simp; exact hK.out _ _ ⟨b0, b1, b2, b3, b4, b5, b6, b7, b8, true, b10, b11, true, x6, x7, x8, x9, x10, x11, x12, x5, x13, .bool false, x3, .bool false, rfl, by first | (simp only [Act.put, pL]; done) | rfl, q, hv0, hv1, hv2, hv3, hv4, hv5, hv6, hv7, hv8, fun _ => rfl, fun _ => rfl, hs10, hk10⟩
   · rintro l a' W12 ⟨b0, b1, b2, b3, b4, b5, b6, b7, b8, b9, b10, b11, b12, x6, x7, x8, x9, x10, x11, x12, x5, x13, x14, x3, x4, rfl, rfl, qW12, hv0, hv1, hv2, hv3, hv4, hv5, hv6, hv7, hv8, hv9, hv12, hs10, hk10⟩ hall
     obtain rfl : b0 = true := (by cases b0 with | true => rfl | false => exact nB (hall 0 _ rfl rfl)); obtain rfl : b1 = true := (by cases b1 with | true => rfl | false => exact nB (hall 1 _ rfl rfl)); obtain rfl : b2 = true := (by cases b2 with | true => rfl | false => exact nB (hall 2 _ rfl rfl)); obtain rfl : b3 = true := (by cases b3 with | true => rfl | false => exact nB (hall 3 _ rfl rfl)); obtain rfl : b4 = true := (by cases b4 with | true => rfl | false => exact nB (hall 4 _ rfl rfl)); obtain rfl : b5 = true := (by cases b5 with | true => rfl | false => exact nB (hall 5 _ rfl rfl)); obtain rfl : b6 = true := (by cases b6 with | true => rfl | false => exact nB (hall 6 _ rfl rfl)); obtain rfl : b7 = true := (by cases b7 with | true => rfl | false => exact nB (hall 7 _ rfl rfl)); obtain rfl : b8 = true := (by cases b8 with | true => rfl | false => exact nB (hall 8 _ rfl rfl)); obtain rfl : b9 = true := (by cases b9 with | true => rfl | false => exact nB (hall 9 _ rfl rfl)); obtain rfl : b10 = true := (by cases b10 with | true => rfl | false => exact nB (hall 10 _ rfl rfl)); obtain rfl : b11 = true := (by cases b11 with | true => rfl | false => exact nB (hall 11 _ rfl rfl)); obtain rfl : b12 = true := (by cases b12 with | true => rfl | false => exact nB (hall 12 _ rfl rfl)); obtain rfl := hv0 rfl; obtain rfl := hv1 rfl; obtain rfl := hv2 rfl; obtain rfl := hv3 rfl; obtain rfl := hv4 rfl; obtain rfl := hv5 rfl; obtain rfl := hv6 rfl; obtain rfl := hv7 rfl; obtain rfl := hv8 rfl; obtain rfl := hv9 rfl; obtain rfl := hv12 rfl; obtain ⟨Bt3, rfl, ot3, _, gt3⟩ := hk10 rfl; obtain ⟨t3c0, t3c1, t3c2, t3c3, t3f0, t3f1, t3f2, t3f3, lt3⟩ := gt3 rfl; clear gt3; replace hA := hA.dn qW12; replace hB := hB.dn qW12; replace hO := hO.dn qW12; obtain ⟨aR, aS, aT, aU⟩ := nl4 qW12.size xl yl la lb; obtain ⟨a0, a1, a5, a6, a7, a8, a9, aA, aB, aC⟩ := mv10 qW12.cell xq0 xq1 xq2 xq3 yq0 yq1 yq2 yq3 av1 bv1; clear xl xq0 xq1 xq2 xq3 yl yq0 yq1 yq2 yq3 la av1 lb bv1; clear t3f0 t3f1 t3f2 t3f3; have vW12 := hd.trans qW12; clear hv0 hv1 hv2 hv3 hv4 hv5 hv6 hv7 hv8 hv9 hv12 hs10 hk10 ot3 hall; simp only [Act.put, pL]; go_upto_region 3 with fail; clear a0 a1 a5 a6 a7 a8 a9 aA aB aC t3c0 t3c1 t3c2 t3c3
     by_cases hc : eC x.c x.d y.c y.d < 0
     · have dc : decide (eC x.c x.d y.c y.d < 0) = true := by simpa using hc
       have HLT : Hid (x.hi < y.hi) := Lib.hid (hlt.1 hc); clear hc hlt; generalize eC x.c x.d y.c y.d = n at *; obtain ⟨⟨pa, ca2, aw1, aw2, aw3, aw4⟩, -, la'⟩ := (id hA : SlV w0 W12 A (x :: s)); obtain ⟨ga', oa', rfl, hca⟩ := aw4.cs (by simp); have HCA' := Lib.hid hca; rw [List.length_cons] at aw1 aw2; clear aw4 hca; obtain ⟨⟨pb, cb2, bw1, bw2, bw3, bw4⟩, -, lb'⟩ := (id hB : SlV w0 W12 B (y :: t)); obtain ⟨gb', ob', rfl, hcb⟩ := bw4.cs (by simp); have HCB' := Lib.hid hcb; rw [List.length_cons] at bw1 bw2; clear bw4 hcb; obtain ⟨xq0, xq1, xq2, xq3⟩ := (HCA'.out.dn vW12).head; have xl := (HCA'.out.dn vW12).lt; obtain ⟨yq0, yq1, yq2, yq3⟩ := (HCB'.out.dn vW12).head; have yl := (HCB'.out.dn vW12).lt; go_wp2_with fail; have hS27 := kd_10 (W := W12) (Dn.refl _) ⟨Dn.refl _, xq0, xq1, xq2, xq3, yq0, yq1, yq2, yq3, aw1, bw1⟩; have HShS27 := Lib.hid hS27; clear xq0 xq1 xq2 xq3 yq0 yq1 yq2 yq3 aw1 bw1; refine wp_region_held_drew (S := fun w' => Dn W12 w' /\ w'.cell? ⟨ga', oa', none⟩ = some (.int .i8 x.a) /\ w'.cell? ⟨ga', oa' + 1, none⟩ = some (.int .i64 x.b) /\ w'.cell? ⟨ga', oa' + 2, none⟩ = some (.int .i8 x.c) /\ w'.cell? ⟨ga', oa' + 3, none⟩ = some (.int .i64 x.d) /\ w'.cell? ⟨gb', ob', none⟩ = some (.int .i8 y.a) /\ w'.cell? ⟨gb', ob' + 1, none⟩ = some (.int .i64 y.b) /\ w'.cell? ⟨gb', ob' + 2, none⟩ = some (.int .i8 y.c) /\ w'.cell? ⟨gb', ob' + 3, none⟩ = some (.int .i64 y.d) /\ w'.cell? ⟨A, 0, none⟩ = some (.slice (some ⟨ga', oa', none⟩) (s.length + 1) ca2) /\ w'.cell? ⟨B, 0, none⟩ = some (.slice (some ⟨gb', ob', none⟩) (t.length + 1) cb2)) (by kernel_rfl) ?_ (fun hHeld => ?_)
       · (try dsimp only); (exact ke kd_10)
       refine tS 0 rfl ?_; refine tS 1 rfl ?_; refine tS 2 rfl ?_; refine tS 3 rfl ?_; refine tS 4 rfl ?_; refine tS 5 rfl ?_; refine tS 6 rfl ?_; refine tS 7 rfl ?_; refine rD 8 rfl (fun K hK => ?_); go_simp
       (go_at_call 66; refine (hCe.out _).mono ?_; rintro e wa ⟨rfl, qa⟩; replace qa := Up.dn qa)
       try go_wp2_with fail
       refine hK.out _ _ ?_ (fun hHeld => ?_)
       · (try dsimp only); (exact ke kd_10)
       clear hK K
       try simp only [Act.put, pL]
       refine tS 9 rfl ?_; refine wpAnyH_done (by kernel_rfl) ?_ _
       all_goals skip
       all_goals
         clear hS27; obtain ⟨uf38, aD, aE, aF, aG, aH, aI, aJ, aK, aL, aM⟩ := (‹Dn W12 _ /\ _› : _ /\ _); obtain ⟨w39, rfl⟩ : ∃ w39 : World, w39 = wa := ⟨_, rfl⟩; have aN := nlt xl uf38.size; clear xl; have aO := nlt yl uf38.size; clear yl; have aP := nlt la' uf38.size; clear la'; have aQ := nlt lb' uf38.size; clear lb'; replace hA := hA.dn uf38; replace hB := hB.dn uf38; replace hO := hO.dn uf38; have vuf38 := vW12.trans uf38; clear uf38 vW12 HShS27; have zf := hA.f; go_wp2_with fail
         all_goals
           (try simp only [Exit.inBlock, Exit.then])
           refine bodyPost_ret (results_none rfl _ _ _) rfl ?_; refine ⟨rfl, s, y :: t, fun _ => ⟨rfl, rfl⟩, fun h => by have h2 := HLT.out; omega, ?_⟩
           first | rw [if_neg HM.out] | skip
           first | rw [List.append_nil] | skip
           first
            | exact ⟨(hA.set (t := s) (by omega) (by omega) (rt1 (by omega))), (hB.far (by omega) _), hO.far (by omega) (by omega) _, vuf38.setCell (show w0.heap.size <= A by omega) _⟩
            | exact ⟨(hA.set (t := s) (by omega) (by omega) HCA'.out.tail.row), (hB.far (by omega) _), hO.far (by omega) (by omega) _, vuf38.setCell (show w0.heap.size <= A by omega) _⟩
     · have dc : decide (eC x.c x.d y.c y.d < 0) = false := by simpa using hc
       have HLT : Hid (¬ x.hi < y.hi) := Lib.hid (fun h => hc (hlt.2 h)); clear hc hlt; generalize eC x.c x.d y.c y.d = n at *; obtain ⟨⟨pa, ca2, aw1, aw2, aw3, aw4⟩, -, la'⟩ := (id hA : SlV w0 W12 A (x :: s)); obtain ⟨ga', oa', rfl, hca⟩ := aw4.cs (by simp); have HCA' := Lib.hid hca; rw [List.length_cons] at aw1 aw2; clear aw4 hca; obtain ⟨⟨pb, cb2, bw1, bw2, bw3, bw4⟩, -, lb'⟩ := (id hB : SlV w0 W12 B (y :: t)); obtain ⟨gb', ob', rfl, hcb⟩ := bw4.cs (by simp); have HCB' := Lib.hid hcb; rw [List.length_cons] at bw1 bw2; clear bw4 hcb; obtain ⟨xq0, xq1, xq2, xq3⟩ := (HCA'.out.dn vW12).head; have xl := (HCA'.out.dn vW12).lt; obtain ⟨yq0, yq1, yq2, yq3⟩ := (HCB'.out.dn vW12).head; have yl := (HCB'.out.dn vW12).lt; go_wp2_with fail; have hS27 := kd_10 (W := W12) (Dn.refl _) ⟨Dn.refl _, xq0, xq1, xq2, xq3, yq0, yq1, yq2, yq3, aw1, bw1⟩; have HShS27 := Lib.hid hS27; clear xq0 xq1 xq2 xq3 yq0 yq1 yq2 yq3 aw1 bw1; refine wp_region_held_drew (S := fun w' => Dn W12 w' /\ w'.cell? ⟨ga', oa', none⟩ = some (.int .i8 x.a) /\ w'.cell? ⟨ga', oa' + 1, none⟩ = some (.int .i64 x.b) /\ w'.cell? ⟨ga', oa' + 2, none⟩ = some (.int .i8 x.c) /\ w'.cell? ⟨ga', oa' + 3, none⟩ = some (.int .i64 x.d) /\ w'.cell? ⟨gb', ob', none⟩ = some (.int .i8 y.a) /\ w'.cell? ⟨gb', ob' + 1, none⟩ = some (.int .i64 y.b) /\ w'.cell? ⟨gb', ob' + 2, none⟩ = some (.int .i8 y.c) /\ w'.cell? ⟨gb', ob' + 3, none⟩ = some (.int .i64 y.d) /\ w'.cell? ⟨A, 0, none⟩ = some (.slice (some ⟨ga', oa', none⟩) (s.length + 1) ca2) /\ w'.cell? ⟨B, 0, none⟩ = some (.slice (some ⟨gb', ob', none⟩) (t.length + 1) cb2)) (by kernel_rfl) ?_ (fun hHeld => ?_)
       · (try dsimp only); (exact ke kd_10)
       refine tS 0 rfl ?_; refine tS 1 rfl ?_; refine tS 2 rfl ?_; refine tS 3 rfl ?_; refine tS 4 rfl ?_; refine tS 5 rfl ?_; refine tS 6 rfl ?_; refine tS 7 rfl ?_; refine rD 8 rfl (fun K hK => ?_); go_simp
       (go_at_call 66; refine (hCe.out _).mono ?_; rintro e wa ⟨rfl, qa⟩; replace qa := Up.dn qa)
       try go_wp2_with fail
       refine hK.out _ _ ?_ (fun hHeld => ?_)
       · (try dsimp only); (exact ke kd_10)
       clear hK K
       try simp only [Act.put, pL]
       refine tS 9 rfl ?_; refine wpAnyH_done (by kernel_rfl) ?_ _
       all_goals skip
       all_goals
         clear hS27; obtain ⟨uf38, aD, aE, aF, aG, aH, aI, aJ, aK, aL, aM⟩ := (‹Dn W12 _ /\ _› : _ /\ _); obtain ⟨w39, rfl⟩ : ∃ w39 : World, w39 = wa := ⟨_, rfl⟩; have aN := nlt xl uf38.size; clear xl; have aO := nlt yl uf38.size; clear yl; have aP := nlt la' uf38.size; clear la'; have aQ := nlt lb' uf38.size; clear lb'; replace hA := hA.dn uf38; replace hB := hB.dn uf38; replace hO := hO.dn uf38; have vuf38 := vW12.trans uf38; clear uf38 vW12 HShS27; have zf := hB.f; go_wp2_with fail
         all_goals
           (try simp only [Exit.inBlock, Exit.then])
           refine bodyPost_end (results_none rfl _ _ _) rfl ?_; refine ⟨rfl, x :: s, t, fun h => by have h2 := HLT.out; omega, fun _ => ⟨rfl, rfl⟩, ?_⟩
           first | rw [if_neg HM.out] | skip
           first | rw [List.append_nil] | skip
           first
            | exact ⟨(hA.far (by omega) _), (hB.set (t := t) (by omega) (by omega) (rt1 (by omega))), hO.far (by omega) (by omega) _, vuf38.setCell (show w0.heap.size <= B by omega) _⟩
            | exact ⟨(hA.far (by omega) _), (hB.set (t := t) (by omega) (by omega) HCB'.out.tail.row), hO.far (by omega) (by omega) _, vuf38.setCell (show w0.heap.size <= B by omega) _⟩
set_option maxHeartbeats 4000000
set_option maxRecDepth 100000
def cellLen (w : World) (A : Nat) : Nat := match w.cell? ⟨A, 0, none⟩ with
 | some v => lenOf v
 | none => 0
theorem SlV.len {w0 w : World} {A : Nat} {s : List Rq} (h : SlV w0 w A s) : cellLen w A = s.length := by
 obtain ⟨⟨p, cap, h1, _⟩, _, _⟩ := h
 unfold cellLen; rw [h1]; rfl
structure Cm (a b : List Rq) (w w' : World) (s t L : List Rq) : Prop where
 A : SlV w w' w.heap.size s
 B : SlV w w' (w.heap.size + 1) t
 O : OwV w' (w.heap.size + 1 + 1 + 1) (w.heap.size + 1 + 1) L
 sk : ∀ x ∈ s, x.ok
 tk : ∀ x ∈ t, x.ok
 lk : ∀ x ∈ L, x.ok
 e : cmn a b = L ++ cmn s t
 n : L.length + s.length + t.length <= a.length + b.length
 dn : Dn w w'
theorem ret_sl {p : Option Addr} {M N : List Rq} (h : N = M) : Ending.returned (.slice p M.length M.length) = .returned (.slice p N.length N.length) := by rw [h]
theorem rsCommonIn (p : Option Addr) (cap : Nat) (a : List Rq) (q : Option Addr) (cap' : Nat) (b : List Rq)  (w : World) (hab : a.length + b.length <= 800000) (hc1 : a.length <= cap) (hm1 : cap <= 9223372036854775807) (hc2 : b.length <= cap') (hm2 : cap' <= 9223372036854775807) (ha : ∀ x ∈ a, x.ok) (hb : ∀ x ∈ b, x.ok) (hR1 : Row w p a) (hR2 : Row w q b) :
  Calls Tryz.prog 65 #[.slice p a.length cap, .slice q b.length cap'] w fun ro w' => ∃ p', ro = .returned (.slice p' (joinedL (cmn a b)).length (joinedL (cmn a b)).length) /\ Row w' p' (joinedL (cmn a b)) /\ Dn w w' := by
 go_enter Tryz.func65, Tryz.ntmps65
 go_wp2_with fail
 obtain ⟨W1, hW1⟩ : ∃ W1, W1 = ((w.alloc (.cells #[.slice p a.length cap] 22)).alloc (.cells #[.slice q b.length cap'] 22)).alloc (.cells #[.slice none 0 0] 22) := ⟨_, rfl⟩
 have hcm : Cm a b w W1 a b [] := by
  have u : Dn w W1 := by rw [hW1]; exact (((Dn.refl _).alloc _).alloc _).alloc _
  refine ⟨⟨⟨p, cap, by rw [hW1]; simp [go_sem], hc1, hm1, hR1⟩, by rw [hW1]; simp [go_sem], by rw [hW1]; simp <;> omega⟩, ⟨⟨q, cap', by rw [hW1]; simp [go_sem], hc2, hm2, hR2⟩, by rw [hW1]; simp [go_sem], by rw [hW1]; simp <;> omega⟩,
    ⟨⟨_, by rw [hW1]; simp [go_sem], OwnQ.nil _ _⟩, by rw [hW1]; simp [go_sem], by omega, by rw [hW1]; simp <;> omega⟩, ha, hb, by simp, rfl, by simp, u⟩
 rw [<- hW1]
 clear hW1 hR1 hR2 ha hb
 go_loopw [8] (fun _ wr => ∃ s t L, Cm a b w wr s t L) (fun _ wr => cellLen wr w.heap.size + cellLen wr (w.heap.size + 1))
 case atStart => exact ⟨a, b, [], hcm⟩
 case round =>
  obtain ⟨s, t, L, hcm⟩ := hrel; have HC := Lib.hid hcm; obtain ⟨⟨pa, ca, a1, a2, a3, a4⟩, -, la⟩ := hcm.A; obtain ⟨⟨pb, cb, b1, b2, b3, b4⟩, -, lb⟩ := hcm.B; obtain ⟨⟨v, v1, v2⟩, -, vl, vb⟩ := hcm.O; have hn := hcm.n; clear hcm a4 b4; rcases s with _ | ⟨x, s⟩; rotate_left; rcases t with _ | ⟨y, t⟩; rotate_left
  · have hs0 : decide (0 < (s.length : Int) + 1) = true := by rw [decide_eq_true_iff]; omega
    have ht0 : decide (0 < (t.length : Int) + 1) = true := (by rw [decide_eq_true_iff]; omega); rw [List.length_cons] at a1 b1; have hx := HC.out.sk x List.mem_cons_self; have hy := HC.out.tk y List.mem_cons_self; have HX := Lib.hid hx; have HY := Lib.hid hy; clear hx hy v1 v2; go_wp2_with fail; refine (cmn1 _ _ _ (w.heap.size + 1 + 1 + 1) x y s t L w wr HC.out.A HC.out.B HC.out.O HC.out.dn (Nat.le_refl _) (by omega) (by omega) (by omega) HX.out HY.out (by omega)).mono ?_; rintro e w2 ⟨rfl, s', t', k1, k2, kA, kB, kO, kd⟩
    have hst : Cm a b w w2 s' t' (L ++ if MeetR x y then [inR x y] else []) /\ s'.length + t'.length < (x :: s).length + (y :: t).length := by
     have hlo : ∀ z ∈ L ++ (if MeetR x y then [inR x y] else []), z.ok := by
       intro z hz; rcases List.mem_append.1 hz with hz | hz
       · exact HC.out.lk z hz
       · split at hz
         · next hm => simp at hz; subst hz; exact inR_ok hm
         · cases hz
     have hle : (L ++ if MeetR x y then [inR x y] else []).length <= L.length + 1 := by
       rw [List.length_append]; split <;> simp
     have he := HC.out.e; rw [cmn_step] at he
     by_cases hlt : x.hi < y.hi
     · obtain ⟨rfl, rfl⟩ := k1 hlt
       rw [if_pos hlt] at he; simp only [List.length_cons] at hn hle ⊢; exact ⟨⟨kA, kB, kO, fun z hz => HC.out.sk z (List.mem_cons_of_mem _ hz), HC.out.tk, hlo, by rw [he, List.append_assoc], by simp only [List.length_cons]; omega, kd⟩, by omega⟩
     · obtain ⟨rfl, rfl⟩ := k2 hlt
       rw [if_neg hlt] at he; simp only [List.length_cons] at hn hle ⊢; exact ⟨⟨kA, kB, kO, HC.out.sk, fun z hz => HC.out.tk z (List.mem_cons_of_mem _ hz), hlo, by rw [he, List.append_assoc], by simp only [List.length_cons]; omega, kd⟩, by omega⟩
    have HST := Lib.hid hst; have m1 := HC.out.A.len; have m2 := HC.out.B.len; have m3 := hst.1.A.len; have m4 := hst.1.B.len; have m5 := hst.2; clear hst k1 k2 kA kB kO kd a1 b1; go_wp2_with fail; go_roundw
    case rel => exact ⟨s', t', _, HST.out.1⟩
    case measure => rw [m1, m2, m3, m4]; omega
  all_goals
    obtain ⟨p3, cap3, rfl, -, hr3⟩ := v2.rowOf; have HL : Hid (cmn a b = L) := Lib.hid (by have := HC.out.e; simpa [cmn_nil, cmn_nil'] using this); have HJ := Lib.hid (rsJoined p3 cap3 L wr (by omega) (sep_i6 HC.out.lk) hr3); clear v2 hr3
    try rw [List.length_cons] at a1
    try rw [List.length_nil] at a1
    try rw [List.length_nil] at b1
    try (have hs0 : decide (0 < (s.length : Int) + 1) = true := by rw [decide_eq_true_iff]; omega)
    go_wp2_with fail; refine HJ.out.mono ?_; rintro e w2 ⟨p4, rfl, hr4, q1⟩; have HR4 := Lib.hid hr4; clear hr4; go_wp2_with fail; go_ret; exact ⟨p4, ret_sl (by rw [HL.out]), by rw [HL.out]; exact HR4.out, HC.out.dn.trans q1⟩
end Go.Proofs.YtoghoddjkdoohaaGreatDoor
