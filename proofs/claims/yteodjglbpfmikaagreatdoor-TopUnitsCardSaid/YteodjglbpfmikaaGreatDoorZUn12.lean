/- Walks and laws that the claim's theorem leans on: part 12. -/
import Derived.Test.YteodjglbpfmikaaGreatDoorZUn1
import Derived.Test.YteodjglbpfmikaaGreatDoorZUn11
namespace Go.Proofs.YteodjglbpfmikaaGreatDoor
set_option maxHeartbeats 8000000
set_option maxRecDepth 100000
open Go.RowKit Go.Maps Go.Sort Go.Shelf Go.Proofs
set_option linter.unusedVariables false
set_option linter.unusedSimpArgs false
section
variable {J : Nat → (Nat → Prop) → World → Prop} {Jx : (Nat → Prop) → World → Prop} {R0 : LoopState → Option Code → Loop} {yv : Value} {b2 b3 b4 D l2 : Nat} {L : List Rq} {w : World}
theorem jn_touch {k m r s : Nat} {T M : Nat → Prop} {A B : World} {now x both : Rq} (hJ : Jok w J Jx) (hB : JnB b2 b3 b4 D l2) (h : JnM J R0 yv b2 b3 b4 D l2 m r s true now x both T M A B)
  (hi : I64 both.b ∧ I64 both.d) (N : List Rq) (hN : N.length = m) (hL : joinedL L = N ++ jn both (L.drop (k + 1))) :
  JnI J R0 yv b2 b3 b4 D l2 L (k + 1) T ((set4 B b3 both).putObj l2 (.loop (R0 .ready none))) ∧ ∀ b, T b → ((set4 B b3 both).putObj l2 (.loop (R0 .ready none))).heap[b]? = A.heap[b]? := by
 have q5 : Moves M B ((set4 B b3 both).putObj l2 (.loop (R0 .ready none))) := (Moves.set4 h.m3 _ _).trans (Moves.put h.ml _ _)
 have hl := heap_set4 (y := both) h.L2 (Ne.symm hB.n3l)
 refine ⟨⟨M, m, true, both, hJ.mv _ _ _ _ h.j (q5.more fun b x => .inr x), h.dis, h.m2, h.m3, h.m4, h.mD, h.ml, heap_put (heap_set4 h.c2 hB.n23) hB.n2l, heap_put (h.c3.put both) hB.n3l, heap_put (heap_set4 h.c4 (Ne.symm hB.n34)) hB.n4l, World.putObj_heap_same (heap_lt hl), heap_put (heap_set4 h.K (Ne.symm hB.n3D)) hB.nDl, hi, .inr ⟨rfl, N, hN, hL⟩⟩, fun b hb => ?_⟩
 exact (h.q.trans q5).block b (h.lt b hb) (fun e => h.dis b e hb)
theorem jn_fresh {k m m' r s : Nat} {T M : Nat → Prop} {A B C : World} {any : Bool} {now x both : Rq} (hJ : Jok w J Jx) (hB : JnB b2 b3 b4 D l2) (h : JnM J R0 yv b2 b3 b4 D l2 m r s any now x both T M A B)
  (hC : J m' (fun b => T b ∨ M b) C) (hk : ∀ b, T b ∨ M b → C.heap[b]? = B.heap[b]?) (hi : I64 x.b ∧ I64 x.d) (N : List Rq) (hN : N.length = m') (hL : joinedL L = N ++ jn x (L.drop (k + 1))) :
  JnI J R0 yv b2 b3 b4 D l2 L (k + 1) T (((set4 C b3 x).setCell ⟨b4, 0, none⟩ (.bool true)).putObj l2 (.loop (R0 .ready none))) ∧ ∀ b, T b → (((set4 C b3 x).setCell ⟨b4, 0, none⟩ (.bool true)).putObj l2 (.loop (R0 .ready none))).heap[b]? = A.heap[b]? := by
 have q5 : Moves M C (((set4 C b3 x).setCell ⟨b4, 0, none⟩ (.bool true)).putObj l2 (.loop (R0 .ready none))) := ((Moves.set4 h.m3 _ _).trans (Moves.set (p := ⟨b4, 0, none⟩) h.m4 _ _)).trans (Moves.put h.ml _ _)
 have hl := heap_set (b := b4) (j := 0) (v := .bool true) (heap_set4 (y := x) ((hk l2 (.inr h.ml)).trans h.L2) (Ne.symm hB.n3l)) (Ne.symm hB.n4l)
 have c3 : Q4 C b3 now := (hk b3 (.inr h.m3)).trans h.c3
 have c4 := (hk b4 (.inr h.m4)).trans h.c4
 refine ⟨⟨M, m', true, x, hJ.mv _ _ _ _ hC (q5.more fun b x => .inr x), h.dis, h.m2, h.m3, h.m4, h.mD, h.ml, heap_put (heap_set (heap_set4 ((hk b2 (.inr h.m2)).trans h.c2) hB.n23) hB.n24) hB.n2l, heap_put (heap_set (c3.put x) hB.n34) hB.n3l,
  heap_put (heap_setCell_box_a _ (heap_set4 c4 (Ne.symm hB.n34))) hB.n4l, World.putObj_heap_same (heap_lt hl), heap_put (heap_set (heap_set4 ((hk D (.inr h.mD)).trans h.K) (Ne.symm hB.n3D)) (Ne.symm hB.n4D)) hB.nDl, hi, .inr ⟨rfl, N, hN, hL⟩⟩, fun b hb => ?_⟩
 have e1 : A.heap.size ≤ C.heap.size ∨ True := .inr trivial
 have hbB : b < B.heap.size := Nat.lt_of_lt_of_le (h.lt b hb) h.q.size
 have hbC : b < C.heap.size := hJ.lt _ _ _ _ hC (.inl hb)
 exact (q5.block b hbC (fun e => h.dis b e hb)).trans ((hk b (.inl hb)).trans (h.q.block b (h.lt b hb) (fun e => h.dis b e hb)))
theorem jn_stop {m r s : Nat} {T M : Nat → Prop} {A B C : World} {any : Bool} {now x both : Rq} (hJ : Jok w J Jx) (hB : JnB b2 b3 b4 D l2) (h : JnM J R0 yv b2 b3 b4 D l2 m r s any now x both T M A B)
  (hC : Jx (fun b => T b ∨ M b) C) (hs : ∀ b, T b ∨ M b → C.heap[b]? = B.heap[b]?) :
  JnX Jx R0 D l2 T (C.putObj l2 (.loop (R0 .done (some .ret)))) ∧ ∀ b, T b → (C.putObj l2 (.loop (R0 .done (some .ret)))).heap[b]? = A.heap[b]? := by
 have hl := (hs l2 (.inr h.ml)).trans h.L2
 refine ⟨⟨M, hJ.mx _ _ _ hC (Moves.put (.inr h.ml) _ _), h.dis, h.mD, h.ml, World.putObj_heap_same (heap_lt hl), heap_put ((hs D (.inr h.mD)).trans h.K) hB.nDl⟩, fun b hb => ?_⟩
 have hn : b ≠ l2 := fun e => h.dis l2 h.ml (e ▸ hb)
 exact (World.putObj_heap_other hn).trans ((hs b (.inl hb)).trans (h.q.block b (h.lt b hb) (fun e => h.dis b e hb)))
end
theorem jn_idx {L N : List Rq} {p : Rq} {m : Nat} {R : List Rq} (hN : N.length = m) (h : joinedL L = N ++ p :: R) : (joinedL L)[m]? = some p := by
 rw [h, ← hN]; simp
theorem tchR_iff {x y : Rq} (hx : I64 x.b ∧ I64 x.d) (hy : I64 y.b ∧ I64 y.d) : TchR x y ↔ Tch x.a x.b x.c x.d y.a y.b y.c y.d := (tch_iff hx hy).symm
theorem jn_round (cA cB : Code) (hAB : stPick Tryz.f123.body = (cA, cB)) (fn : FuncId) (l : Nat) (sv : Value) (b1 b2 b3 b4 D l2 : Nat) (hB : JnB b2 b3 b4 D l2) (L : List Rq) (hI : I6 L)
   (J : Nat → (Nat → Prop) → World → Prop) (Jx : (Nat → Prop) → World → Prop) (w : World) (hJ : Jok w J Jx)
   (hY : ∀ k x T A m, (joinedL L)[k]? = some x → J k T A → YieldAt Fence.wide m Tryz.prog l #[rqv x] A fun e A' =>
     ((e = .returned (.bool true) ∧ J (k + 1) T A') ∨ (e = .returned (.bool false) ∧ Jx T A')) ∧ ∀ b, T b → A'.heap[b]? = A.heap[b]?)
   (R0 : LoopState → Option Code → Loop) (hR : R0 = jnRec cA cB fn (.func (.yield l) #[] #[]) sv b1 b2 b3 b4 D)
   (k : Nat) (x : Rq) (T : Nat → Prop) (A : World) (n : Nat) (hx : L[k]? = some x) (h : JnI J R0 (.func (.yield l) #[] #[]) b2 b3 b4 D l2 L k T A) :
   YieldAt Fence.wide n Tryz.prog l2 #[rqv x] A fun e A' =>
     ((e = .returned (.bool true) ∧ JnI J R0 (.func (.yield l) #[] #[]) b2 b3 b4 D l2 L (k + 1) T A') ∨ (e = .returned (.bool false) ∧ JnX Jx R0 D l2 T A')) ∧ ∀ b, T b → A'.heap[b]? = A.heap[b]? := by
 obtain ⟨M, m, any, now, hs⟩ := h
 have hxI := hI.at hx
 obtain ⟨hy1, hbr, hend⟩ := jn_rec hR hs.L2 (rqv x)
 clear hR
 refine ⟨fn, _, cA, cB, hy1, roundIn_of_wpIn trivial ?_⟩
 obtain ⟨i1, d1, i2, d2, is, hjn⟩ := jnR_ex now.a now.b now.c now.d x.a x.b x.c x.d
 have HJN := Lib.hid (fun W => rnJoin now.a now.b now.c now.d x.a x.b x.c x.d i1 d1 i2 d2 is W hs.i6.1 hs.i6.2 hxI.1 hxI.2 hjn)
 have hstep : any = true → ∀ N : List Rq, joinedL L = N ++ jn now (L.drop k) → joinedL L = N ++ (if TchR now x then jn (jnR now x) (L.drop (k + 1)) else now :: jn x (L.drop (k + 1))) := fun _ N hN => jnAt_step hx hN
 have q1 : Dn A (A.alloc (.cells #[.int .i8 x.a, .int .i64 x.b, .int .i8 x.c, .int .i64 x.d] 30)) := (Dn.refl _).alloc _
 have hb1 := hbr _ (heap_dn hs.L2 q1)
 obtain ⟨A2, hA2⟩ : ∃ A2, (A.alloc (.cells #[.int .i8 x.a, .int .i64 x.b, .int .i8 x.c, .int .i64 x.d] 30)).putObj l2 (.loop (R0 .busy none)) = A2 := ⟨_, rfl⟩
 rw [hA2] at hb1
 have hmid := fun w3 both => jn_mid (w := w) (w3 := w3) (x := x) (both := both) hJ hB hs
 rw [hA2] at hmid
 have hl2 := heap_lt hs.L2
 have hl3 := heap_lt hs.c3
 have f3 : Q4 A2 b3 now := by rw [← hA2]; exact heap_put (heap_dn hs.c3 q1) hB.n3l
 have fr : Q4 A2 A.heap.size x := by rw [← hA2]; exact heap_put (World.alloc_heap_new _ _) (by omega)
 have HMID := Lib.hid hmid
 have HEND := Lib.hid hend
 have HST := Lib.hid hs.st
 have HSTEP := Lib.hid hstep
 have HY := Lib.hid hY
 have HB := Lib.hid hB
 have HJ := Lib.hid hJ
 have HXI := Lib.hid hxI
 have HNI := Lib.hid hs.i6
 have HJR := Lib.hid hjn
 have HX := Lib.hid hx
 obtain ⟨eA, eB⟩ : cA = (stPick Tryz.f123.body).1 ∧ cB = (stPick Tryz.f123.body).2 := by rw [hAB]; exact ⟨rfl, rfl⟩
 rw [eA, eB]
 dsimp only [stPick, stOf?, Option.getD, Tryz.f123]
 clear hAB eA eB hmid hend hstep hY hB hJ hxI hjn hx hbr hy1 q1 hA2 hs hI
 obtain ⟨n0, n1, n2, n3⟩ := f3.cells
 obtain ⟨r0, r1, r2, r3⟩ := fr.cells
 clear f3 fr
 gi_wp2_with gi_round_op_a
 refine ⟨A2, hb1, ?_⟩
 clear hb1
 gi_wp2_with gi_round_op_a
 refine ⟨trivial, (fun h => nomatch h), ?_⟩
 gi_at_call 117
 refine (CallsIn.inRound l2 (callsIn_wide.2 (HJN.out _))).mono ?_
 rintro e w3 ⟨rfl, q3⟩
 have hM := HMID.out w3 ⟨i1, d1, i2, d2⟩ q3
 clear n0 n1 n2 n3 r0 r1 r2 r3 q3
 have HM := Lib.hid hM
 obtain ⟨n0, n1, n2, n3⟩ := hM.c3.cells
 have nf := hM.c3.fz
 obtain ⟨r0, r1, r2, r3⟩ := hM.cr.cells
 obtain ⟨s0, s1, s2, s3⟩ := hM.cs.cells
 obtain ⟨a0, af⟩ := cell_of_box_a hM.c4
 obtain ⟨y0, yf⟩ := cell_of_box_a hM.c2
 clear hM
 have nb := HB.out.n34
 have nb' := Ne.symm HB.out.n34
 cases any with
 | false =>
   have hl5 := heap_set (b := b4) (j := 0) (v := .bool true) (heap_set4 (y := x) HM.out.L2 (Ne.symm HB.out.n3l)) (Ne.symm HB.out.n4l)
   have HL5 := Lib.hid hl5
   clear hl5
   gi_wp2_with gi_round_op_a
   refine ⟨(fun f _ => trivial), ?_⟩
   gi_wp2_with gi_round_op_a
   obtain ⟨rfl, rfl⟩ : k = 0 ∧ m = 0 := by
     rcases HST.out with ⟨_, h1, h2⟩ | ⟨h1, _⟩
     · exact ⟨h1, h2⟩
     · cases h1
   have hL0 : joinedL L = [] ++ jn x (L.drop (0 + 1)) := by
     have h0 := HX.out
     cases L with
     | nil => simp at h0
     | cons z t => simp at h0; subst h0; rfl
   refine ⟨_, _, HEND.out _ none HL5.out, ?_⟩
   have hf := jn_fresh (k := 0) HJ.out HB.out HM.out HM.out.j (fun b _ => rfl) HXI.out [] rfl hL0
   exact ⟨.inl ⟨rfl, hf.1⟩, hf.2⟩
 | true =>
   obtain ⟨N, hN, hjl⟩ : ∃ N : List Rq, N.length = m ∧ joinedL L = N ++ jn now (L.drop k) := by
     rcases HST.out with ⟨h1, _⟩ | ⟨_, h⟩
     · cases h1
     · exact h
   have hs2 := HSTEP.out rfl N hjl
   rcases HJR.out with ⟨ht, rfl, e1, e2, e3, e4⟩ | ⟨ht, rfl, e1, e2, e3, e4⟩
   · have hT : TchR now x := (tchR_iff HNI.out HXI.out).2 ht
     rw [if_pos hT] at hs2
     have hb : (⟨i1, d1, i2, d2⟩ : Rq) = jnR now x := by subst e1 e2 e3 e4; rfl
     have hi : I64 d1 ∧ I64 d2 := by subst e2 e4; exact ⟨mn_i64 HNI.out.1 HXI.out.1, mx_i64 HNI.out.2 HXI.out.2⟩
     have hl5 := heap_set4 (y := ⟨i1, d1, i2, d2⟩) HM.out.L2 (Ne.symm HB.out.n3l)
     have HL5 := Lib.hid hl5
     have HS2 := Lib.hid hs2
     have HBB := Lib.hid hb
     clear hl5 hs2 hb e1 e2 e3 e4 hjl ht hT
     gi_wp2_with gi_round_op_a
     refine ⟨_, _, HEND.out _ none HL5.out, ?_⟩
     have hf := jn_touch (k := k) HJ.out HB.out HM.out hi N hN (by rw [HBB.out]; exact HS2.out)
     exact ⟨.inl ⟨rfl, hf.1⟩, hf.2⟩
   · have hT : ¬ TchR now x := fun h => ht ((tchR_iff HNI.out HXI.out).1 h)
     rw [if_neg hT] at hs2
     obtain ⟨fn', tmps', as', bd', hy, hR2⟩ := HY.out m now _ _ 0 (jn_idx hN hs2) HM.out.j
     have hs3 : joinedL L = (N ++ [now]) ++ jn x (L.drop (k + 1)) := by rw [hs2]; simp
     have HS3 := Lib.hid hs3
     clear hs2 hs3 hjl ht hT e1 e2 e3 e4
     gi_wp2_with gi_round_op_a
     refine ⟨(fun h => nomatch h), (roundIn_in hR2).mono ?_⟩
     clear hy hR2 n0 n1 n2 n3 nf r0 r1 r2 r3 s0 s1 s2 s3 a0 af y0 yf
     rintro e w5 ⟨⟨rfl, hJ5⟩ | ⟨rfl, hJ5⟩, hk5⟩
     · have hM := HM.out
       have g3 : Q4 w5 b3 now := (hk5 b3 (.inr hM.m3)).trans hM.c3
       have gr : Q4 w5 A.heap.size x := (hk5 _ (.inr hM.mr)).trans hM.cr
       have g4 := (hk5 b4 (.inr hM.m4)).trans hM.c4
       have gl := (hk5 l2 (.inr hM.ml)).trans hM.L2
       clear hM
       obtain ⟨n0, n1, n2, n3⟩ := g3.cells
       have nf := g3.fz
       obtain ⟨r0, r1, r2, r3⟩ := gr.cells
       obtain ⟨a0, af⟩ := cell_of_box_a g4
       have hl5 := heap_set (b := b4) (j := 0) (v := .bool true) (heap_set4 (y := x) gl (Ne.symm HB.out.n3l)) (Ne.symm HB.out.n4l)
       have HL5 := Lib.hid hl5
       clear hl5 g3 gr g4 gl
       have HK5 := Lib.hid hk5
       clear hk5
       gi_wp2_with gi_round_op_a
       refine ⟨_, _, HEND.out _ none HL5.out, ?_⟩
       have hf := jn_fresh (k := k) HJ.out HB.out HM.out hJ5 HK5.out HXI.out (N ++ [now]) (by simp [hN]) HS3.out
       exact ⟨.inl ⟨rfl, hf.1⟩, hf.2⟩
     · have HK5 := Lib.hid hk5
       clear hk5
       gi_wp2_with gi_round_op_a
       have hl5 := (HK5.out l2 (.inr HM.out.ml)).trans HM.out.L2
       refine ⟨_, _, HEND.out _ (some .ret) hl5, ?_⟩
       have hf := jn_stop HJ.out HB.out HM.out hJ5 HK5.out
       exact ⟨.inr ⟨rfl, hf.1⟩, hf.2⟩
end Go.Proofs.YteodjglbpfmikaaGreatDoor
