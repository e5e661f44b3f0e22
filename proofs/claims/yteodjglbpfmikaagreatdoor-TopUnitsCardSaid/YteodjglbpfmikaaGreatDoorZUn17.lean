/- Walks and laws that the claim's theorem leans on: part 17. -/
import Derived.Test.YteodjglbpfmikaaGreatDoorZUn1
import Derived.Test.YteodjglbpfmikaaGreatDoorZUn13
import Derived.Test.YteodjglbpfmikaaGreatDoorZUn16
import Derived.ProofKit
import Derived.OpenShut
import Derived.Lib.SmallJoins
namespace Go.Proofs.YteodjglbpfmikaaGreatDoor
set_option maxHeartbeats 4000000
set_option maxRecDepth 100000
open Go.RowKit
set_option linter.unusedVariables false
set_option linter.unusedSimpArgs false
theorem uSame {P : Program} {f : FuncId} {args : Array Value} {w : World} {v : Value} (h : Calls P f args w fun e w' => e = .returned v ∧ w = w') : Calls P f args w fun e w' => e = .returned v ∧ Dn w w' :=
 h.mono fun e w' q => ⟨q.1, dn_eq q.2⟩
theorem uUp {P : Program} {f : FuncId} {args : Array Value} {w : World} {v : Value} (h : Calls P f args w fun e w' => e = .returned v ∧ Up w w') : Calls P f args w fun e w' => e = .returned v ∧ Dn w w' :=
 h.mono fun e w' q => ⟨q.1, q.2.dn⟩
theorem list_runA {ops : Array Oper} {rest : List Oper} {o : Oper} {a : Act} {Q : Exit → Act → World → Prop} (hgd : o.guard = none) (s x : Operand)
   (ho : o.op = .call { callee := .builtin .append, args := #[s, x], argTypes := #[48, 48] }) (w : World) (base : Nat) (v : Value) (L : List Rq) (a0 b0 c0 d0 : Int) (hs : a.eval s = v) (hown : OwnQ w base v L)
   (hx : a.eval x = .slice (some ⟨w.heap.size, 0, none⟩) 1 1) (hl : L.length ≤ 1000000) (hb : base ≤ w.heap.size)
   (h : ∀ v' w', OwnQ w' base v' (L ++ [⟨a0, b0, c0, d0⟩]) → w.grownBy w' v.ownBlock → (v'.ownBlock = v.ownBlock ∨ v'.ownBlock = some (w.heap.size + 1)) → wpList Tryz.prog ops Q rest (a.put o.dst v') w') :
   wpList Tryz.prog ops Q (o :: rest) a (w.alloc (.cells #[.int .i8 a0, .int .i64 b0, .int .i8 c0, .int .i64 d0] 30)) := by
 obtain ⟨i0, hi, hz0, hz1, hz2⟩ := info_parts infoRun
 refine wpList_append_own_at (w.alloc (.cells #[.int .i8 a0, .int .i64 b0, .int .i8 c0, .int .i64 d0] 30)) hgd s x 48 ho base 30 i0 _ 4 32 Tryz.underlying48 hi hz0 hz1 hz2 rfl (by decide) v _ _ hs (hown.own.alloc _) ⟨w.heap.size, 0, none⟩ 1 1 (qc ⟨a0, b0, c0, d0⟩) hx rfl ?_ ?_ ?_ ?_ ?_ ?_
 · intro j u hj
   match j, hj with
   | 0, hj => simp [qc] at hj; subst hj; simp [Addr.add]
   | 1, hj => simp [qc] at hj; subst hj; simp [Addr.add]
   | 2, hj => simp [qc] at hj; subst hj; simp [Addr.add]
   | 3, hj => simp [qc] at hj; subst hj; simp [Addr.add]
   | n + 4, hj => simp [qc] at hj
 · intro u hu; simp [qc] at hu; rcases hu with rfl | rfl | rfl | rfl <;> rfl
 · unfold maxLen; omega
 · omega
 · simp; omega
 · intro v' w' k1 k2 _ k4
   refine h v' w' ⟨by simpa using k1⟩ (grown_trans (World.grownBy_alloc w _ v.ownBlock) k2) (by simpa using k4)
theorem step_runA {ops : Array Oper} {o : Oper} {a : Act} {K : Act → World → Prop} {Q : Exit → Act → World → Prop} {E : Prop} (hgd : o.guard = none) (s x : Operand)
  (ho : o.op = .call { callee := .builtin .append, args := #[s, x], argTypes := #[48, 48] }) (w : World) (base : Nat) (v : Value) (L : List Rq) (a0 b0 c0 d0 : Int) (hs : a.eval s = v) (hown : OwnQ w base v L)
  (hx : a.eval x = .slice (some ⟨w.heap.size, 0, none⟩) 1 1) (hl : L.length ≤ 1000000) (hb : base ≤ w.heap.size)
  (h : ∀ v' w', OwnQ w' base v' (L ++ [⟨a0, b0, c0, d0⟩]) → w.grownBy w' v.ownBlock → (v'.ownBlock = v.ownBlock ∨ v'.ownBlock = some (w.heap.size + 1)) → K (a.put o.dst v') w') :
  if Region.wanted o (yielded ops a.tmps) = true then Oper.wp Tryz.prog o a ((w.alloc (.cells #[.int .i8 a0, .int .i64 b0, .int .i8 c0, .int .i64 d0] 30)).drew) K Q else E := by
 have hw : Region.wanted o (yielded ops a.tmps) = true := by simp [Region.wanted, hgd]
 rw [if_pos hw]
 obtain ⟨i0, hi, hz0, hz1, hz2⟩ := info_parts infoRun
 obtain ⟨v', w', hr, k1, k2, _, k4⟩ := run_append_own_at (P := Tryz.prog) ((w.alloc (.cells #[.int .i8 a0, .int .i64 b0, .int .i8 c0, .int .i64 d0] 30)).drew) base 48 o.type 30 i0 _ 4 32 Tryz.underlying48 hi hz0 hz1 hz2 rfl (by decide) v _ _ (World.ownsRow.drew (hown.own.alloc _)) ⟨w.heap.size, 0, none⟩ 1 1 (qc ⟨a0, b0, c0, d0⟩) rfl
  (fun j u hj => by
   match j, hj with
   | 0, hj => simp [qc] at hj; subst hj; simp [Addr.add]
   | 1, hj => simp [qc] at hj; subst hj; simp [Addr.add]
   | 2, hj => simp [qc] at hj; subst hj; simp [Addr.add]
   | 3, hj => simp [qc] at hj; subst hj; simp [Addr.add]
   | n + 4, hj => simp [qc] at hj)
  (fun u hu => by simp [qc] at hu; rcases hu with rfl | rfl | rfl | rfl <;> rfl) (by unfold maxLen; omega) (by omega) (by simp; omega)
 unfold Oper.wp execOp
 simp only [ho, resolve, invoke, builtin, Sem.run_bind, Sem.run_pure, Result.andThen_ok, List.map_toArray, List.map_cons, List.map_nil, hs, hx, hr]
 refine h v' w' ⟨by simpa using k1⟩ ?_ (by simpa using k4)
 have := World.grownBy_alloc w (.cells #[.int .i8 a0, .int .i64 b0, .int .i8 c0, .int .i64 d0] 30) v.ownBlock
 exact grown_trans (b := (w.alloc (.cells #[.int .i8 a0, .int .i64 b0, .int .i8 c0, .int .i64 d0] 30)).drew) ⟨this.os, this.tape, this.output, this.size, this.block⟩ k2
structure SU (w wr : World) (bp by_ base : Nat) (a b : Int) (vs : Nat → Value) (Ls : Nat → List Rq) : Prop where
 dn : Dn w wr
 lo : w.heap.size ≤ bp
 pc : ∀ j, j < 4 → wr.cell? ⟨bp, j, none⟩ = some (vs j)
 pf : ∀ j, j < 4 → wr.frozen? ⟨bp, j, none⟩ = false
 l1 : bp < base
 l2 : by_ < base
 l3 : base ≤ wr.heap.size
 ne : by_ ≠ bp
 yr : C4 wr by_ (.int .i8 0) (.int .i64 a) (.int .i8 0) (.int .i64 b)
 own : ∀ j, j < 4 → OwnQ wr base (vs j) (Ls j)
 dis : ∀ i j g, i < 4 → j < 4 → i ≠ j → (vs i).ownBlock = some g → (vs j).ownBlock ≠ some g
section
variable {w wr wr' : World} {bp by_ base : Nat} {a b : Int} {vs : Nat → Value} {Ls : Nat → List Rq}
theorem SU.go (h : SU w wr bp by_ base a b vs Ls) (q : Dn wr wr') : SU w wr' bp by_ base a b vs Ls := by
 have hb : bp < wr.heap.size := Nat.lt_of_lt_of_le h.l1 h.l3
 exact ⟨h.dn.trans q, h.lo, fun j hj => q.cell (h.pc j hj), fun j hj => by rw [q.frozen hb]; exact h.pf j hj, h.l1, h.l2, Nat.le_trans h.l3 q.size, h.ne, h.yr.dn q, fun j hj => (h.own j hj).dn q, h.dis⟩
theorem cell_sam2 {w w' : World} {b : Nat} (e : w'.heap[b]? = w.heap[b]?) (j : Nat) : w'.cell? ⟨b, j, none⟩ = w.cell? ⟨b, j, none⟩ ∧ w'.frozen? ⟨b, j, none⟩ = w.frozen? ⟨b, j, none⟩ := by
 unfold World.cell? World.frozen?
 simp only [e]
 exact ⟨trivial, trivial⟩
theorem SU.app (h : SU w wr bp by_ base a b vs Ls) {j : Nat} (hj : j < 4) {x : Rq} {v' : Value} {n : Nat} (hown : OwnQ wr' base v' (Ls j ++ [x])) (hg : wr.grownBy wr' (vs j).ownBlock) (hat : v'.ownBlock = (vs j).ownBlock ∨ v'.ownBlock = some n) (hn : wr.heap.size ≤ n) :
   SU w (wr'.setCell ⟨bp, j, none⟩ v') bp by_ base a b (upd vs j v') (upd Ls j (Ls j ++ [x])) := by
 have rowj : ∀ g, (vs j).ownBlock = some g → base ≤ g := fun g e => ((h.own j hj).row g e).1
 have hb : bp < wr.heap.size := Nat.lt_of_lt_of_le h.l1 h.l3
 have hy : by_ < wr.heap.size := Nat.lt_of_lt_of_le h.l2 h.l3
 have low : ∀ B, B < base → wr'.heap[B]? = wr.heap[B]? := fun B hB => hg.block B (Nat.lt_of_lt_of_le hB h.l3) (fun e => by have := rowj B e.symm; omega)
 have cb := cell_sam2 (low bp h.l1)
 have cy := cell_sam2 (low by_ h.l2)
 have d1 : Dn w wr' := h.dn.grown hg (fun k e => by have := rowj k e; have := h.lo; have := h.l1; omega)
 have sz := hg.size
 have hyr : C4 wr' by_ (.int .i8 0) (.int .i64 a) (.int .i8 0) (.int .i64 b) := by
   obtain ⟨c0, c1, c2, c3, f0, f1, f2, f3, lt⟩ := h.yr
   exact ⟨(cy 0).1.trans c0, (cy 1).1.trans c1, (cy 2).1.trans c2, (cy 3).1.trans c3, (cy 0).2.trans f0, (cy 1).2.trans f1, (cy 2).2.trans f2, (cy 3).2.trans f3, Nat.lt_of_lt_of_le lt sz⟩
 have mvs : Moves (fun B => B = bp) wr' (wr'.setCell ⟨bp, j, none⟩ v') := Moves.set (T := fun B => B = bp) (p := ⟨bp, j, none⟩) rfl _ _
 have own' : ∀ i, i < 4 → i ≠ j → OwnQ wr' base (vs i) (Ls i) := fun i hi hij => ⟨(h.own i hi).own.kept hg (by
   cases hv : (vs i).ownBlock with
   | none => exact .inl rfl
   | some g => exact .inr (fun e => h.dis i j g hi hj hij hv e.symm))⟩
 refine ⟨d1.setCell h.lo _, h.lo, fun i hi => ?_, fun i hi => ?_, h.l1, h.l2, by simp; exact Nat.le_trans h.l3 sz, h.ne, hyr.far h.ne _ _, fun i hi => ?_, ?_⟩
 · by_cases e : i = j
   · subst e
     rw [upd_same]
     exact World.cell?_setCell_same _ _ _ ((cb i).1.trans (h.pc i hi))
   · rw [upd_ne _ _ e, World.cell?_setCell_other _ _ _ _ (fun q => e (by simpa using (congrArg Addr.off q).symm))]
     exact (cb i).1.trans (h.pc i hi)
 · rw [World.frozen?_setCell]; exact (cb i).2.trans (h.pf i hi)
 · by_cases e : i = j
   · subst e
     rw [upd_same, upd_same]
     exact hown.mv (fun g hg' e => by have := (hown.row g hg').1; have := h.l1; omega) mvs
   · rw [upd_ne _ _ e, upd_ne _ _ e]
     exact (own' i hi e).mv (fun g hg' e => by have := ((h.own i hi).row g hg').1; have := h.l1; omega) mvs
 · intro i k g hi hk hik e1 e2
   by_cases hij : i = j
   · subst hij
     rw [upd_same] at e1
     rw [upd_ne _ _ (Ne.symm hik)] at e2
     rcases hat with e | e
     · rw [e] at e1; exact h.dis i k g hi hk hik e1 e2
     · rw [e] at e1; injection e1 with e1
       have := ((h.own k hk).row g e2).2; omega
   · rw [upd_ne _ _ hij] at e1
     by_cases hkj : k = j
     · subst hkj
       rw [upd_same] at e2
       rcases hat with e | e
       · rw [e] at e2; exact h.dis i k g hi hk hik e1 e2
       · rw [e] at e2; injection e2 with e2
         have := ((h.own i hi).row g e1).2; omega
     · rw [upd_ne _ _ hkj] at e2; exact h.dis i k g hi hk hik e1 e2
end
theorem uSame1 (p q : Option Addr) (a b : Int) (w : World) (h1 : Row w p (one a b)) (h2 : Row w q (one a b)) : Calls Tryz.prog 28 #[.slice p 1 1, .slice q 1 1] w fun ro w' => ro = .returned (.bool true) ∧ Dn w w' :=
 rsSame p 1 (one a b) q 1 (one a b) true w (by simp) (by simp [one]) (by simp [one]) h1 h2
theorem uOf (p : Option Addr) (cap : Nat) (L : List Rq) (a b : Int) (w : World) (hI : I6 L) (hl : L.length ≤ 12) (hj : joinedL (srt L) = one a b) (he : ofE L = 0) (hR : Row w p L) : Calls Tryz.prog 24 #[.slice p L.length cap] w fun ro w' => ∃ p', ro = .returned (.tuple #[.slice p' 1 1, .int .i64 0]) ∧ Row w' p' (one a b) ∧ Dn w w' :=
 rsOf p cap L 0 (one a b) w he.symm (by rw [if_pos rfl, hj]) (by omega) hI hR
theorem uLen (b d : Int) (w : World) (hb : -4000000000000000000 ≤ b) (hd : d < 4000000000000000000) (hle : b ≤ d) : Calls Tryz.prog 27 #[.agg #[.int .i8 0, .int .i64 b, .int .i8 0, .int .i64 d]] w fun r w' => r = .returned (.tuple #[.int .i64 (d - b + 1), .int .i64 0]) ∧ Dn w w' :=
 rnLen 0 b 0 d _ _ w ⟨by omega, by omega⟩ ⟨by omega, by omega⟩ (.inr (.inr ⟨⟨.inl rfl, .inl rfl, Int.le_refl _, Int.le_refl _, by unfold key; omega⟩, rfl, rfl, .inl ⟨⟨by omega, by omega⟩, rfl, rfl⟩⟩))
theorem own_sl {w : World} {base : Nat} {v : Value} {L : List Rq} (h : OwnQ w base v L) : ∃ p n cap, v = .slice p n cap := by
 obtain ⟨p, cap, e, _⟩ := own_cap h
 exact ⟨p, _, cap, e⟩
theorem upd_upd {α : Type} (f : Nat → α) (j : Nat) (u v : α) : upd (upd f j u) j v = upd f j v := by
 funext i; unfold upd; split <;> rfl
theorem upd_id {α : Type} (f : Nat → α) (j : Nat) (v : α) (h : f j = v) : upd f j v = f := by
 funext i; unfold upd; split
 · rename_i e; rw [e, h]
 · rfl
def nil4 : Nat → Value := fun _ => .slice none 0 0
theorem uBud (w : World) : Calls Tryz.prog 68 #[.int .i64 1] w fun ro w' => ro = .returned (.bool true) ∧ w' = w := by
 go_enter Tryz.func68, Tryz.ntmps68
 go_wp2_with fail
 go_ret
 exact ⟨rfl, rfl⟩
theorem uTake (v : Value) (L : List Rq) (a b : Int) (w : World) (hI : I6 L) (hj : joinedL L = one a b) (hS : StrV v L w) :
  Calls Tryz.prog 25 #[v, .int .i64 1] w fun ro w' => ∃ p, ro = .returned (.tuple #[.slice p 1 1, .int .i64 0]) ∧ Row w' p (one a b) ∧ Dn w w' := by
 obtain ⟨g, lb, rfl, hg, hs⟩ := hS
 have HS := Lib.hid (show StrV (.func (.func g) #[] lb) L w from ⟨g, lb, rfl, hg, hs⟩)
 have HI := Lib.hid hI
 have HJ := Lib.hid hj
 clear hg hs hI hj
 go_enter Tryz.func25, Tryz.ntmps25
 go_wp2_with (go_at_call 68; refine (uBud _).mono ?_; rintro e wb ⟨rfl, rfl⟩)
 refine (stJoined _ L _ HI.out HS.out).mono ?_
 rintro e w1 ⟨gg, l2, rfl, hs1, q1⟩
 rw [HJ.out] at hs1
 have HS1 := Lib.hid hs1
 clear hs1
 go_wp2_with fail
 refine (stFirst _ (one a b) 2 _ (by simp [one]) (by decide) HS1.out).mono ?_
 rintro e w2 ⟨p, rfl, hr, q2⟩
 rw [show (one a b).take (2 : Int).toNat = one a b by rfl] at hr
 rw [show ((one a b).take (2 : Int).toNat).length = 1 by rfl]
 have HR := Lib.hid hr
 clear hr
 go_wp2_with fail
 go_ret2
 exact ⟨p, rfl, HR.out, q1.trans q2⟩
theorem topUnits_yes (y a b : Int) (ha : Cal.sy y = a) (hb : Cal.sy (y + 1) - 1 = b) (hy : IsY y) (w : World) (hE : EnvP w) :
   Calls Tryz.prog 4 #[.int .i64 y] w fun ro w' => ro = .returned (.bool true) ∧ Dn w w' := by
 have HY := Lib.hid hy
 obtain ⟨y1, y2⟩ := hy
 have HA := Lib.hid ha
 have HB := Lib.hid hb
 have hbd : -4000000000000000000 ≤ a ∧ a ≤ b ∧ b < 4000000000000000000 := by
   have s1 := sm_bd y 1 ⟨⟨y1, y2⟩, by omega, by omega⟩
   have s2 := sm_bd y 12 ⟨⟨y1, y2⟩, by omega, by omega⟩
   rw [sm_one] at s1
   rw [show (12 : Int) + 1 = 13 by decide, sm_13] at s2
   have := Cal.sy_lt y (y + 1) (by omega)
   omega
 have HBD := Lib.hid hbd
 clear ha hb hbd
 go_enter Tryz.func4, Tryz.ntmps4
 go_wp2_with fail
 refine (tYear y a b _ HA.out HB.out HY.out hE).mono ?_
 rintro e w1 ⟨rfl, qw1⟩
 have uw1 := qw1
 clear qw1
 go_wp2_with fail
 have lc0 := uw1.size
 obtain ⟨W1, hW1⟩ : ∃ W1, W1 = (w1.alloc (.cells #[.int .i8 0, .int .i64 a, .int .i8 0, .int .i64 b] 30)).alloc (.cells #[.slice none 0 0, .slice none 0 0, .slice none 0 0, .slice none 0 0] 49) := ⟨_, rfl⟩
 have uW1 : Dn w1 W1 := by rw [hW1]; exact ((Dn.refl _).alloc _).alloc _
 have o2 : w.heap.size ≤ w1.heap.size := by have := uw1.size; omega
 have o3 : w.heap.size ≤ w1.heap.size + 1 := by have := uw1.size; omega
 have n4 : w1.heap.size ≠ w1.heap.size + 1 := by omega
 have c5 : W1.cell? ⟨w1.heap.size, 0, none⟩ = some (.int .i8 0) := by rw [hW1]; simp [go_sem]
 have c6 : W1.cell? ⟨w1.heap.size, 1, none⟩ = some (.int .i64 a) := by rw [hW1]; simp [go_sem]
 have c7 : W1.cell? ⟨w1.heap.size, 2, none⟩ = some (.int .i8 0) := by rw [hW1]; simp [go_sem]
 have c8 : W1.cell? ⟨w1.heap.size, 3, none⟩ = some (.int .i64 b) := by rw [hW1]; simp [go_sem]
 have l9 : w1.heap.size < W1.heap.size := by rw [hW1]; simp <;> omega
 have f10 : W1.frozen? ⟨w1.heap.size, 0, none⟩ = false := by rw [hW1]; simp [go_sem]
 have f11 : W1.frozen? ⟨w1.heap.size, 1, none⟩ = false := by rw [hW1]; simp [go_sem]
 have f12 : W1.frozen? ⟨w1.heap.size, 2, none⟩ = false := by rw [hW1]; simp [go_sem]
 have f13 : W1.frozen? ⟨w1.heap.size, 3, none⟩ = false := by rw [hW1]; simp [go_sem]
 have a4 : W1.cell? ⟨w1.heap.size + 1, 0, none⟩ = some (.slice none 0 0) := by rw [hW1]; simp [go_sem]
 have a5 : W1.cell? ⟨w1.heap.size + 1, 1, none⟩ = some (.slice none 0 0) := by rw [hW1]; simp [go_sem]
 have a6 : W1.cell? ⟨w1.heap.size + 1, 2, none⟩ = some (.slice none 0 0) := by rw [hW1]; simp [go_sem]
 have a7 : W1.cell? ⟨w1.heap.size + 1, 3, none⟩ = some (.slice none 0 0) := by rw [hW1]; simp [go_sem]
 have a8 : w1.heap.size + 1 < W1.heap.size := by rw [hW1]; simp <;> omega
 have f19 : W1.frozen? ⟨w1.heap.size + 1, 0, none⟩ = false := by rw [hW1]; simp [go_sem]
 have f20 : W1.frozen? ⟨w1.heap.size + 1, 1, none⟩ = false := by rw [hW1]; simp [go_sem]
 have f21 : W1.frozen? ⟨w1.heap.size + 1, 2, none⟩ = false := by rw [hW1]; simp [go_sem]
 have f22 : W1.frozen? ⟨w1.heap.size + 1, 3, none⟩ = false := by rw [hW1]; simp [go_sem]
 rw [← hW1]
 clear hW1
 have vW1 := uw1.trans uW1
 clear uW1 uw1
 have hlp : w.heap.size ≤ w1.heap.size + 1 := by omega
 have hT0 : SU w W1 (w1.heap.size + 1) (w1.heap.size) W1.heap.size a b nil4 (fun _ => []) := ⟨vW1, hlp, fun j hj => ?_, fun j hj => ?_, a8, l9, Nat.le_refl _, by omega, ⟨c5, c6, c7, c8, f10, f11, f12, f13, l9⟩, fun j _ => OwnQ.nil _ _, fun i j g _ _ _ e => by cases e⟩
 rotate_left
 · rcases (show j = 0 ∨ j = 1 ∨ j = 2 ∨ j = 3 by omega) with rfl | rfl | rfl | rfl
   · exact a4
   · exact a5
   · exact a6
   · exact a7
 · rcases (show j = 0 ∨ j = 1 ∨ j = 2 ∨ j = 3 by omega) with rfl | rfl | rfl | rfl
   · exact f19
   · exact f20
   · exact f21
   · exact f22
 obtain ⟨by_, hby⟩ : ∃ n, n = w1.heap.size := ⟨_, rfl⟩
 obtain ⟨bp, hbp⟩ : ∃ n, n = w1.heap.size + 1 := ⟨_, rfl⟩
 obtain ⟨base, hbs⟩ : ∃ n, n = W1.heap.size := ⟨_, rfl⟩
 rw [← hbp, ← hby, ← hbs] at hT0
 rw [← hbp, ← hby]
 clear c5 c6 c7 c8 f10 f11 f12 f13 l9 a4 a5 a6 a7 f19 f20 f21 f22 a8 n4 o2 o3 hlp hby hbp hbs vW1 lc0
 go_wp2_with fail
 go_loopw [6] (fun iv wr => ∃ (k : Nat) (v : Value), k ≤ 12 ∧ iv = .int .i64 ((k : Int) + 1) ∧ SU w wr bp by_ base a b (upd nil4 0 v) (upd (fun _ => []) 0 (monL y k))) (fun iv _ => 13 - (intOf iv).toNat)
 case atStart => exact ⟨0, .slice none 0 0, by omega, rfl, by rw [upd_id nil4 0 (.slice none 0 0) rfl, upd_id (fun _ => []) 0 (monL y 0) rfl]; exact hT0⟩
 clear hT0
 case round =>
   obtain ⟨k, v, hk, rfl, hT⟩ := hrel
   by_cases hlt : k < 12
   · have c1 : decide ((k : Int) + 1 ≤ 12) = true := by simp; omega
     have hM : IsM y ((k : Int) + 1) := ⟨⟨y1, y2⟩, by omega, by omega⟩
     obtain ⟨lo, hlo⟩ : ∃ lo, lo = Cal.sm y ((k : Int) + 1) := ⟨_, rfl⟩
     obtain ⟨hi, hhi⟩ : ∃ hi, hi = Cal.sm y ((k : Int) + 1 + 1) - 1 := ⟨_, rfl⟩
     have hle : ¬ hi < lo := by
       have := sm_succ y ((k : Int) + 1) (by omega) (by omega)
       have := Cal.mlen_bd y ((k : Int) + 1)
       omega
     have HS := Lib.hid (fun W (h : EnvM W) => uUp (mstart_yes y ((k : Int) + 1) W hM h))
     have HF := Lib.hid (fun W (h : EnvM W) => uUp (mend_yes y ((k : Int) + 1) W hM h))
     rw [← hlo] at HS
     rw [← hhi] at HF
     have HR := Lib.hid (rnOf_yes lo hi hle)
     have HL := Lib.hid (show monL y (k + 1) = monL y k ++ [⟨0, lo, 0, hi⟩] by rw [hlo, hhi]; rfl)
     have HT := Lib.hid hT
     clear hT hM hlo hhi hle
     go_wp2_with fail
     refine (HS.out _ (hE.dn HT.out.dn).s.mo).mono ?_
     rintro e w2 ⟨rfl, q2⟩
     have hT2 := HT.out.go q2
     have HT2 := Lib.hid hT2
     clear hT2 q2 HS
     go_wp2_with fail
     refine (HF.out _ (hE.dn HT2.out.dn).s.mo).mono ?_
     rintro e w3 ⟨rfl, q3⟩
     have hT3 := HT2.out.go q3
     have HT3 := Lib.hid hT3
     clear hT3 q3 HF
     go_wp2_with fail
     refine (HR.out _).mono ?_
     rintro e w4 ⟨rfl, q4⟩
     have dB := (Dn.refl w4).alloc (.cells #[.int .i8 0, .int .i64 lo, .int .i8 0, .int .i64 hi] 30)
     have hT5 := HT3.out.go (q4.trans dB)
     have p0 : World.cell? _ ⟨bp, 0, none⟩ = some v := hT5.pc 0 (by decide)
     have HT5 := Lib.hid hT5
     have HO5 := Lib.hid (show OwnQ _ base v (monL y k) from hT5.own 0 (by decide))
     have HLN := Lib.hid (show (monL y k).length ≤ 1000000 by rw [monL_len]; omega)
     clear hT5 q4 dB HR
     go_wp2_with (at_builtin; go_loud (refine list_runA rfl _ _ rfl (w4.alloc (.cells #[.int .i8 0, .int .i64 lo, .int .i8 0, .int .i64 hi] 30)) base v (monL y k) 0 lo 0 hi rfl HO5.out (by show Value.slice (some ⟨w4.heap.size + 1, 0, none⟩) 1 1 = _; rw [World.size_alloc]) HLN.out HT5.out.l3 ?_))
     intro v' w6 hown hg hat
     obtain ⟨pp, nn, cc, rfl⟩ := own_sl hown
     have hT6 := SU.app HT5.out (j := 0) (by decide) (x := ⟨0, lo, 0, hi⟩) hown hg hat (by simp)
     rw [upd_upd, upd_upd] at hT6
     have e6 : upd (fun _ => ([] : List Rq)) 0 (monL y k) 0 ++ [⟨0, lo, 0, hi⟩] = monL y (k + 1) := HL.out.symm
     rw [e6] at hT6
     have pf6 : w6.frozen? ⟨bp, 0, none⟩ = false := by have := hT6.pf 0 (by decide); simpa using this
     obtain ⟨u6, pc6⟩ : ∃ u, w6.cell? ⟨bp, 0, none⟩ = some u := ⟨_, (cell_sam2 (hg.block bp (Nat.lt_of_lt_of_le HT5.out.l1 HT5.out.l3) (fun e => by have := (HO5.out.row bp e.symm).1; have := HT5.out.l1; omega)) 0).1.trans p0⟩
     have HT6 := Lib.hid hT6
     clear hT6 hown hg hat e6 p0
     go_wp2_with fail
     go_roundw
     case rel => exact ⟨k + 1, _, by omega, by simp <;> omega, HT6.out⟩
     case measure => simp [intOf]; omega
   have e12 : (k : Int) + 1 = 13 := by omega
   rw [e12]
   clear e12
   obtain rfl : k = 12 := by omega
   have hT9 : SU w wr bp by_ base a b (upd nil4 0 v) (partsL y 0) := hT
   clear hT
   go_wp2_with fail
   go_loopw [13] (fun iv wr => ∃ (k : Nat) (vs : Nat → Value), k ≤ 9 ∧ iv = .int .i64 (33 + (k : Int)) ∧ SU w wr bp by_ base a b vs (partsL y k)) (fun iv _ => 42 - (intOf iv).toNat)
   case atStart => exact ⟨0, _, by omega, rfl, hT9⟩
   clear hT9
   case round =>
     obtain ⟨k, vs, hk, rfl, hT⟩ := hrel
     by_cases hlt : k < 9
     · have c1 : decide (33 + (k : Int) < 42) = true := by simp; omega
       have hC : IsC (33 + (k : Int)) := ⟨by omega, by omega⟩
       have hSY : IsSY y (33 + (k : Int)) := ⟨⟨y1, y2⟩, by rw [big_last y _ (by omega) (by omega)]; exact ⟨y1, y2⟩⟩
       obtain ⟨lo, hlo⟩ : ∃ lo, lo = sLo y (33 + (k : Int)) := ⟨_, rfl⟩
       obtain ⟨hi, hhi⟩ : ∃ hi, hi = sHi y (33 + (k : Int)) := ⟨_, rfl⟩
       have HS := Lib.hid (fun W (h : EnvS W) => uUp (srun_yes y (33 + (k : Int)) W hC hSY h))
       unfold runV at HS
       rw [← hlo, ← hhi] at HS
       have hx : runC y (33 + (k : Int)) = ⟨0, lo, 0, hi⟩ := by rw [hlo, hhi]; rfl
       have HLN := Lib.hid (fun j => parts_len y k j)
       have HX := Lib.hid hx
       have HT := Lib.hid hT
       clear hT hC hSY hlo hhi hx
       by_cases h4 : k < 4
       · have t1 : decide (36 < 33 + (k : Int)) = false := by simp; omega
         have t2 : decide (39 < 33 + (k : Int)) = false := by simp; omega
         have HA1 := Lib.hid (show atC (33 + (k : Int)) = 1 by unfold atC; rw [if_neg (by omega), if_neg (by omega)])
         go_wp2_with fail
         refine (HS.out _ (hE.dn HT.out.dn).s).mono ?_
         rintro e w4 ⟨rfl, q4⟩
         have HQ4 := Lib.hid q4
         clear q4
         go_wp2_with fail
         obtain ⟨W5, hW5⟩ : ∃ W5, W5 = w4.alloc (.cells #[.int .i8 0, .int .i64 lo, .int .i8 0, .int .i64 hi] 30) := ⟨_, rfl⟩
         have dB : Dn w4 W5 := by rw [hW5]; exact (Dn.refl w4).alloc _
         have rC : C4 W5 w4.heap.size (.int .i8 0) (.int .i64 lo) (.int .i8 0) (.int .i64 hi) := by rw [hW5]; exact C4.new _ _ _ _ _ _
         rw [← hW5]
         clear hW5
         have hT5 := HT.out.go (HQ4.out.trans dB)
         obtain ⟨u, hu⟩ : ∃ u, vs 1 = u := ⟨_, rfl⟩
         have p0 : W5.cell? ⟨bp, 1, none⟩ = some u := by rw [← hu]; exact hT5.pc 1 (by decide)
         have pf0 := hT5.pf 1 (by decide)
         obtain ⟨r0, r1, r2, r3, -, -, -, -, -⟩ := rC
         have HT5 := Lib.hid hT5
         have HO5 := Lib.hid (show OwnQ W5 base u (partsL y k 1) by rw [← hu]; exact hT5.own 1 (by decide))
         have HLN2 := Lib.hid (show (partsL y k 1).length ≤ 1000000 by have := HLN.out 1; omega)
         have dX := ((Dn.refl W5).alloc (.cells #[.int .i8 0, .int .i64 lo, .int .i8 0, .int .i64 hi] 30)).drew
         obtain ⟨pX, x0, x1, x2, x3⟩ := mv5 dX.cell p0 r0 r1 r2 r3
         have nW : bp ≠ W5.heap.size := Nat.ne_of_lt (Nat.lt_of_lt_of_le HT5.out.l1 HT5.out.l3)
         have nr : w4.heap.size ≠ W5.heap.size := Nat.ne_of_lt (lt_of_cell r0)
         clear hT5 dB dX
         go_region_law (refine step_runA (by rfl) _ _ (by rfl) W5 base u (partsL y k 1) 0 lo 0 hi (by rfl) HO5.out (by rfl) HLN2.out HT5.out.l3 ?_; intro v' w6 hown hg hat; obtain ⟨pp, nn, cc, rfl⟩ := own_sl hown; have hsm := cell_sam2 (hg.block bp (Nat.lt_of_lt_of_le HT5.out.l1 HT5.out.l3) (fun e => by have := (HO5.out.row bp e.symm).1; have := HT5.out.l1; omega)) 1; have pc6 := hsm.1.trans p0; have pf6 := hsm.2.trans pf0)
         · have hT6 := SU.app HT5.out (j := 1) (by decide) (x := ⟨0, lo, 0, hi⟩) hown (by rw [hu]; exact hg) (by rw [hu]; exact hat) (Nat.le_succ _)
           have HT6 := Lib.hid hT6
           clear hT6 hown hg hat hsm pc6 pf6 pX x0 x1 x2 x3 r0 r1 r2 r3 p0 pf0
           go_wp2_with fail
           go_roundw
           case rel => exact ⟨k + 1, _, by omega, by simp <;> omega, by show SU w _ bp by_ base a b _ (upd (partsL y k) (atC (33 + (k : Int))) (partsL y k (atC (33 + (k : Int))) ++ [runC y (33 + (k : Int))])); rw [HA1.out, HX.out]; exact HT6.out⟩
           case measure => simp [intOf]; omega
         · have hT6 := SU.app HT5.out (j := 1) (by decide) (x := ⟨0, lo, 0, hi⟩) hown (by rw [hu]; exact hg) (by rw [hu]; exact hat) (Nat.le_succ _)
           have HT6 := Lib.hid hT6
           clear hT6 hown hg hat hsm pc6 pf6 pX x0 x1 x2 x3 r0 r1 r2 r3 p0 pf0
           go_wp2_with fail
           go_roundw
           case rel => exact ⟨k + 1, _, by omega, by simp <;> omega, by show SU w _ bp by_ base a b _ (upd (partsL y k) (atC (33 + (k : Int))) (partsL y k (atC (33 + (k : Int))) ++ [runC y (33 + (k : Int))])); rw [HA1.out, HX.out]; exact HT6.out⟩
           case measure => simp [intOf]; omega
         · have hT6 := SU.app HT5.out (j := 1) (by decide) (x := ⟨0, lo, 0, hi⟩) hown (by rw [hu]; exact hg) (by rw [hu]; exact hat) (Nat.le_succ _)
           have HT6 := Lib.hid hT6
           clear hT6 hown hg hat hsm pc6 pf6 pX x0 x1 x2 x3 r0 r1 r2 r3 p0 pf0
           go_wp2_with fail
           go_roundw
           case rel => exact ⟨k + 1, _, by omega, by simp <;> omega, by show SU w _ bp by_ base a b _ (upd (partsL y k) (atC (33 + (k : Int))) (partsL y k (atC (33 + (k : Int))) ++ [runC y (33 + (k : Int))])); rw [HA1.out, HX.out]; exact HT6.out⟩
           case measure => simp [intOf]; omega
       have t1 : decide (36 < 33 + (k : Int)) = true := by simp; omega
       by_cases h7 : k < 7
       · have t2 : decide (39 < 33 + (k : Int)) = false := by simp; omega
         have HA1 := Lib.hid (show atC (33 + (k : Int)) = 2 by unfold atC; rw [if_neg (by omega), if_pos (by omega)])
         go_wp2_with fail
         refine (HS.out _ (hE.dn HT.out.dn).s).mono ?_
         rintro e w4 ⟨rfl, q4⟩
         have HQ4 := Lib.hid q4
         clear q4
         go_wp2_with fail
         obtain ⟨W5, hW5⟩ : ∃ W5, W5 = w4.alloc (.cells #[.int .i8 0, .int .i64 lo, .int .i8 0, .int .i64 hi] 30) := ⟨_, rfl⟩
         have dB : Dn w4 W5 := by rw [hW5]; exact (Dn.refl w4).alloc _
         have rC : C4 W5 w4.heap.size (.int .i8 0) (.int .i64 lo) (.int .i8 0) (.int .i64 hi) := by rw [hW5]; exact C4.new _ _ _ _ _ _
         rw [← hW5]
         clear hW5
         have hT5 := HT.out.go (HQ4.out.trans dB)
         obtain ⟨u, hu⟩ : ∃ u, vs 2 = u := ⟨_, rfl⟩
         have p0 : W5.cell? ⟨bp, 2, none⟩ = some u := by rw [← hu]; exact hT5.pc 2 (by decide)
         have pf0 := hT5.pf 2 (by decide)
         obtain ⟨r0, r1, r2, r3, -, -, -, -, -⟩ := rC
         have HT5 := Lib.hid hT5
         have HO5 := Lib.hid (show OwnQ W5 base u (partsL y k 2) by rw [← hu]; exact hT5.own 2 (by decide))
         have HLN2 := Lib.hid (show (partsL y k 2).length ≤ 1000000 by have := HLN.out 2; omega)
         have dX := ((Dn.refl W5).alloc (.cells #[.int .i8 0, .int .i64 lo, .int .i8 0, .int .i64 hi] 30)).drew
         obtain ⟨pX, x0, x1, x2, x3⟩ := mv5 dX.cell p0 r0 r1 r2 r3
         have nW : bp ≠ W5.heap.size := Nat.ne_of_lt (Nat.lt_of_lt_of_le HT5.out.l1 HT5.out.l3)
         have nr : w4.heap.size ≠ W5.heap.size := Nat.ne_of_lt (lt_of_cell r0)
         clear hT5 dB dX
         go_region_law (refine step_runA (by rfl) _ _ (by rfl) W5 base u (partsL y k 2) 0 lo 0 hi (by rfl) HO5.out (by rfl) HLN2.out HT5.out.l3 ?_; intro v' w6 hown hg hat; obtain ⟨pp, nn, cc, rfl⟩ := own_sl hown; have hsm := cell_sam2 (hg.block bp (Nat.lt_of_lt_of_le HT5.out.l1 HT5.out.l3) (fun e => by have := (HO5.out.row bp e.symm).1; have := HT5.out.l1; omega)) 2; have pc6 := hsm.1.trans p0; have pf6 := hsm.2.trans pf0)
         · have hT6 := SU.app HT5.out (j := 2) (by decide) (x := ⟨0, lo, 0, hi⟩) hown (by rw [hu]; exact hg) (by rw [hu]; exact hat) (Nat.le_succ _)
           have HT6 := Lib.hid hT6
           clear hT6 hown hg hat hsm pc6 pf6 pX x0 x1 x2 x3 r0 r1 r2 r3 p0 pf0
           go_wp2_with fail
           go_roundw
           case rel => exact ⟨k + 1, _, by omega, by simp <;> omega, by show SU w _ bp by_ base a b _ (upd (partsL y k) (atC (33 + (k : Int))) (partsL y k (atC (33 + (k : Int))) ++ [runC y (33 + (k : Int))])); rw [HA1.out, HX.out]; exact HT6.out⟩
           case measure => simp [intOf]; omega
         · have hT6 := SU.app HT5.out (j := 2) (by decide) (x := ⟨0, lo, 0, hi⟩) hown (by rw [hu]; exact hg) (by rw [hu]; exact hat) (Nat.le_succ _)
           have HT6 := Lib.hid hT6
           clear hT6 hown hg hat hsm pc6 pf6 pX x0 x1 x2 x3 r0 r1 r2 r3 p0 pf0
           go_wp2_with fail
           go_roundw
           case rel => exact ⟨k + 1, _, by omega, by simp <;> omega, by show SU w _ bp by_ base a b _ (upd (partsL y k) (atC (33 + (k : Int))) (partsL y k (atC (33 + (k : Int))) ++ [runC y (33 + (k : Int))])); rw [HA1.out, HX.out]; exact HT6.out⟩
           case measure => simp [intOf]; omega
         · have hT6 := SU.app HT5.out (j := 2) (by decide) (x := ⟨0, lo, 0, hi⟩) hown (by rw [hu]; exact hg) (by rw [hu]; exact hat) (Nat.le_succ _)
           have HT6 := Lib.hid hT6
           clear hT6 hown hg hat hsm pc6 pf6 pX x0 x1 x2 x3 r0 r1 r2 r3 p0 pf0
           go_wp2_with fail
           go_roundw
           case rel => exact ⟨k + 1, _, by omega, by simp <;> omega, by show SU w _ bp by_ base a b _ (upd (partsL y k) (atC (33 + (k : Int))) (partsL y k (atC (33 + (k : Int))) ++ [runC y (33 + (k : Int))])); rw [HA1.out, HX.out]; exact HT6.out⟩
           case measure => simp [intOf]; omega
       · have t2 : decide (39 < 33 + (k : Int)) = true := by simp; omega
         have HA1 := Lib.hid (show atC (33 + (k : Int)) = 3 by unfold atC; rw [if_pos (by omega)])
         go_wp2_with fail
         refine (HS.out _ (hE.dn HT.out.dn).s).mono ?_
         rintro e w4 ⟨rfl, q4⟩
         have HQ4 := Lib.hid q4
         clear q4
         go_wp2_with fail
         obtain ⟨W5, hW5⟩ : ∃ W5, W5 = w4.alloc (.cells #[.int .i8 0, .int .i64 lo, .int .i8 0, .int .i64 hi] 30) := ⟨_, rfl⟩
         have dB : Dn w4 W5 := by rw [hW5]; exact (Dn.refl w4).alloc _
         have rC : C4 W5 w4.heap.size (.int .i8 0) (.int .i64 lo) (.int .i8 0) (.int .i64 hi) := by rw [hW5]; exact C4.new _ _ _ _ _ _
         rw [← hW5]
         clear hW5
         have hT5 := HT.out.go (HQ4.out.trans dB)
         obtain ⟨u, hu⟩ : ∃ u, vs 3 = u := ⟨_, rfl⟩
         have p0 : W5.cell? ⟨bp, 3, none⟩ = some u := by rw [← hu]; exact hT5.pc 3 (by decide)
         have pf0 := hT5.pf 3 (by decide)
         obtain ⟨r0, r1, r2, r3, -, -, -, -, -⟩ := rC
         have HT5 := Lib.hid hT5
         have HO5 := Lib.hid (show OwnQ W5 base u (partsL y k 3) by rw [← hu]; exact hT5.own 3 (by decide))
         have HLN2 := Lib.hid (show (partsL y k 3).length ≤ 1000000 by have := HLN.out 3; omega)
         have dX := ((Dn.refl W5).alloc (.cells #[.int .i8 0, .int .i64 lo, .int .i8 0, .int .i64 hi] 30)).drew
         obtain ⟨pX, x0, x1, x2, x3⟩ := mv5 dX.cell p0 r0 r1 r2 r3
         have nW : bp ≠ W5.heap.size := Nat.ne_of_lt (Nat.lt_of_lt_of_le HT5.out.l1 HT5.out.l3)
         have nr : w4.heap.size ≠ W5.heap.size := Nat.ne_of_lt (lt_of_cell r0)
         clear hT5 dB dX
         go_region_law (refine step_runA (by rfl) _ _ (by rfl) W5 base u (partsL y k 3) 0 lo 0 hi (by rfl) HO5.out (by rfl) HLN2.out HT5.out.l3 ?_; intro v' w6 hown hg hat; obtain ⟨pp, nn, cc, rfl⟩ := own_sl hown; have hsm := cell_sam2 (hg.block bp (Nat.lt_of_lt_of_le HT5.out.l1 HT5.out.l3) (fun e => by have := (HO5.out.row bp e.symm).1; have := HT5.out.l1; omega)) 3; have pc6 := hsm.1.trans p0; have pf6 := hsm.2.trans pf0)
         · have hT6 := SU.app HT5.out (j := 3) (by decide) (x := ⟨0, lo, 0, hi⟩) hown (by rw [hu]; exact hg) (by rw [hu]; exact hat) (Nat.le_succ _)
           have HT6 := Lib.hid hT6
           clear hT6 hown hg hat hsm pc6 pf6 pX x0 x1 x2 x3 r0 r1 r2 r3 p0 pf0
           go_wp2_with fail
           go_roundw
           case rel => exact ⟨k + 1, _, by omega, by simp <;> omega, by show SU w _ bp by_ base a b _ (upd (partsL y k) (atC (33 + (k : Int))) (partsL y k (atC (33 + (k : Int))) ++ [runC y (33 + (k : Int))])); rw [HA1.out, HX.out]; exact HT6.out⟩
           case measure => simp [intOf]; omega
         · have hT6 := SU.app HT5.out (j := 3) (by decide) (x := ⟨0, lo, 0, hi⟩) hown (by rw [hu]; exact hg) (by rw [hu]; exact hat) (Nat.le_succ _)
           have HT6 := Lib.hid hT6
           clear hT6 hown hg hat hsm pc6 pf6 pX x0 x1 x2 x3 r0 r1 r2 r3 p0 pf0
           go_wp2_with fail
           go_roundw
           case rel => exact ⟨k + 1, _, by omega, by simp <;> omega, by show SU w _ bp by_ base a b _ (upd (partsL y k) (atC (33 + (k : Int))) (partsL y k (atC (33 + (k : Int))) ++ [runC y (33 + (k : Int))])); rw [HA1.out, HX.out]; exact HT6.out⟩
           case measure => simp [intOf]; omega
         · have hT6 := SU.app HT5.out (j := 3) (by decide) (x := ⟨0, lo, 0, hi⟩) hown (by rw [hu]; exact hg) (by rw [hu]; exact hat) (Nat.le_succ _)
           have HT6 := Lib.hid hT6
           clear hT6 hown hg hat hsm pc6 pf6 pX x0 x1 x2 x3 r0 r1 r2 r3 p0 pf0
           go_wp2_with fail
           go_roundw
           case rel => exact ⟨k + 1, _, by omega, by simp <;> omega, by show SU w _ bp by_ base a b _ (upd (partsL y k) (atC (33 + (k : Int))) (partsL y k (atC (33 + (k : Int))) ++ [runC y (33 + (k : Int))])); rw [HA1.out, HX.out]; exact HT6.out⟩
           case measure => simp [intOf]; omega
     have e42 : 33 + (k : Int) = 42 := by omega
     rw [e42]
     clear e42
     obtain rfl : k = 9 := by omega
     have HLY := Lib.hid (fun W (h : Steps W) => uUp (len_yes y W HY.out h))
     obtain ⟨len, hlen⟩ : ∃ len, len = Cal.len y := ⟨_, rfl⟩
     rw [← hlen] at HLY
     have hlen2 : len = b + 1 - a := by
       have := Cal.sy_succ y
       have h1 := HA.out; have h2 := HB.out
       omega
     have HLE := Lib.hid hlen2
     have HPA := Lib.hid (fun j (hj : j < 4) => parts_all y j hj)
     clear hlen hlen2
     have hT1 := hT
     have HT := Lib.hid hT
     clear hT hT1
     go_wp2_with fail
     refine (HLY.out _ (hE.dn HT.out.dn).st).mono ?_
     rintro e w4 ⟨rfl, q4⟩
     have hT4 := HT.out.go q4
     clear HT q4 HLY
     go_wp2_with fail
     go_loopw [19] (fun iv wr => ∃ k : Nat, k ≤ 4 ∧ iv = .int .i64 k ∧ SU w wr bp by_ base a b vs (partsL y 9)) (fun iv _ => 4 - (intOf iv).toNat)
     case atStart => exact ⟨0, by omega, rfl, hT4⟩
     clear hT4
     case round =>
       obtain ⟨k, hk, rfl, hT⟩ := hrel
       by_cases hlt : k < 4
       · have c1 : decide ((k : Int) < 4) = true := by simp; omega
         obtain ⟨hpa, hl0, hl1⟩ := HPA.out k hlt
         rw [HA.out, show Cal.sy (y + 1) = b + 1 by have := HB.out; omega] at hpa
         have hown := hT.own k hlt
         obtain ⟨L, hLe⟩ : ∃ L, L = partsL y 9 k := ⟨_, rfl⟩
         rw [← hLe] at hpa hl0 hl1 hown
         clear hLe
         obtain ⟨g, cap, hv, hcs⟩ : ∃ g cap, vs k = .slice (some ⟨g, 0, none⟩) L.length cap ∧ Cs wr g 0 L := by
           rcases hown.form with ⟨_, h⟩ | ⟨g, cap, h1, _, _, _, h2⟩
           · rw [h] at hl0; exact absurd hl0 (by decide)
           · exact ⟨g, cap, h1, h2⟩
         have p0 := hT.pc k hlt
         rw [hv] at p0
         have HPC := Lib.hid (show ∀ wr', SU w wr' bp by_ base a b vs (partsL y 9) → wr'.cell? ⟨bp, k, none⟩ = some (.slice (some ⟨g, 0, none⟩) L.length cap) from fun wr' h => by rw [← hv]; exact h.pc k hlt)
         obtain ⟨o1, o2, o3⟩ := pa_one hpa HBD.out.2.1 HBD.out.1 HBD.out.2.2
         rw [if_neg (by omega)] at o3
         have hok := pa_ok hpa HBD.out.1 (by have := HBD.out; omega)
         have hI : I6 L := fun x hx => ⟨(hok x hx).1.1, (hok x hx).1.2.1⟩
         have HOF := Lib.hid (fun W (h : Row W (some ⟨g, 0, none⟩) L) => uOf (some ⟨g, 0, none⟩) cap L a b W hI hl1 o2 o3 h)
         have HFR := Lib.hid (fun W (h : Cs W g 0 L) => stFrom g 0 cap L W (by omega) h)
         have HTK := Lib.hid (fun v W (h : StrV v L W) => uTake v L a b W hI o1 h)
         have HOK := Lib.hid hok
         have HPAL := Lib.hid hpa
         have HT := Lib.hid hT
         have HCS := Lib.hid hcs
         have HHL := Lib.hid hl1
         clear hT hown hv hpa o1 o2 o3 hok hI hcs hl0
         go_wp2_with fail
         refine (HOF.out _ HCS.out.row).mono ?_
         rintro e w5 ⟨pA, rfl, rA, q5⟩
         have hT5 := HT.out.go q5
         have hcs5 := HCS.out.dn q5
         replace p0 := HPC.out _ hT5
         have HT5 := Lib.hid hT5
         have HC5 := Lib.hid hcs5
         have HRA := Lib.hid rA
         clear hT5 hcs5 rA HOF HT HCS
         go_wp2_with fail
         refine (HFR.out _ HC5.out).mono ?_
         rintro e w6 ⟨gg, lb, rfl, hs6, q6⟩
         have hT6 := HT5.out.go q6
         replace p0 := HPC.out _ hT6
         have HT6 := Lib.hid hT6
         have HC6 := Lib.hid (HC5.out.dn q6)
         have HS6 := Lib.hid hs6
         have HRA6 := Lib.hid (HRA.out.dn q6)
         clear hT6 hs6 HT5 HC5 HRA q6 HFR
         go_wp2_with fail
         refine (HTK.out _ _ HS6.out).mono ?_
         rintro e w7 ⟨pT, rfl, rT, q7⟩
         have hT7 := HT6.out.go q7
         have HC7 := Lib.hid (HC6.out.dn q7)
         have HRA7 := Lib.hid (HRA6.out.dn q7)
         have HRT7 := Lib.hid rT
         clear p0 rT HT6 HC6 HRA6 HS6 HTK
         go_wp2_with fail
         go_loopw [24, 25] (fun dv kv wr => ∃ kk : Nat, kk ≤ L.length ∧ kv = .int .i64 kk ∧ dv = .int .i64 (sumR (L.take kk)) ∧ SU w wr bp by_ base a b vs (partsL y 9) ∧ Dn w7 wr) (fun _ kv _ => L.length - (intOf kv).toNat)
         case atStart => exact ⟨0, by omega, rfl, rfl, hT7, Dn.refl _⟩
         clear hT7 q7
         case round =>
           obtain ⟨kk, hkk, rfl, rfl, hT, hd⟩ := hrel
           have p0 := HPC.out _ hT
           by_cases hlt2 : kk < L.length
           · have c2 : decide ((kk : Int) < L.length) = true := by simp; omega
             obtain ⟨x, hx⟩ : ∃ x, L[kk]? = some x := ⟨L[kk], by simp [hlt2]⟩
             have hxo := HOK.out x (List.mem_of_getElem? hx)
             obtain ⟨a0, a1, a2, a3⟩ := (HC7.out.dn hd).el _ _ hx
             have hs := sumR_take hx
             obtain ⟨f, f1, f2⟩ := pa_take kk HPAL.out
             obtain ⟨f', f3, f4⟩ := pa_take (kk + 1) HPAL.out
             have s1 := pa_sum f1
             have s2 := pa_sum f3
             have l1 := pa_le f1
             have l2 := pa_le f3
             obtain ⟨xa, xb, xc, xd⟩ := x
             obtain ⟨-, e1, e2, e3, e4, e5⟩ := hxo
             dsimp only at e1 e2 e3 e4 e5 a0 a1 a2 a3 hs
             subst e1 e2
             simp only [Nat.zero_add] at a0 a1 a2 a3
             have hbd := HBD.out
             have HU := Lib.hid (fun W => uLen xb xd W (by omega) (by omega) e4)
             obtain ⟨S, hS⟩ : ∃ S, S = sumR (L.take kk) := ⟨_, rfl⟩
             rw [← hS] at hs s1 ⊢
             have HSS := Lib.hid hs
             have b1 : 0 ≤ S ∧ S ≤ 8000000000000000001 := by omega
             have b2 : 0 ≤ S + (xd - xb + 1) ∧ S + (xd - xb + 1) ≤ 8000000000000000001 := by omega
             have HT := Lib.hid hT
             clear hx hs f1 f2 f3 f4 s1 s2 l1 l2 hT hS
             go_wp2_with fail
             refine (HU.out _).mono ?_
             rintro e w8 ⟨rfl, q8⟩
             have hT8 := HT.out.go q8
             have hd8 := hd.trans q8
             clear a0 a1 a2 a3 p0 q8
             go_wp2_with fail
             go_roundw
             case rel => exact ⟨kk + 1, by omega, by simp, by rw [HSS.out], hT8, hd8⟩
             case measure => simp [intOf]; omega
           · obtain rfl : kk = L.length := by omega
             have c2 : decide ((L.length : Int) < L.length) = false := by simp
             have hsum : sumR (L.take L.length) = len := by rw [List.take_length, pa_sum HPAL.out, HLE.out]
             rw [hsum]
             clear hsum
             obtain ⟨yc0, yc1, yc2, yc3, -, -, -, -, -⟩ := hT.yr
             have HT := Lib.hid hT
             clear hT
             go_wp2_with fail
             obtain ⟨W9, hW9⟩ : ∃ W9, W9 = wr.alloc (.cells #[.int .i8 0, .int .i64 a, .int .i8 0, .int .i64 b] 30) := ⟨_, rfl⟩
             have q9 : Dn wr W9 := by rw [hW9]; exact (Dn.refl _).alloc _
             have rY : Row W9 (some ⟨wr.heap.size, 0, none⟩) (one a b) := by rw [hW9]; exact rq_new wr (one a b) _ rfl
             rw [← hW9]
             clear hW9 yc0 yc1 yc2 yc3 p0
             have hT9 := HT.out.go q9
             have rA9 := HRA7.out.dn (hd.trans q9)
             have rT9 := HRT7.out.dn (hd.trans q9)
             refine (uSame1 _ _ a b _ rA9 rY).mono ?_
             rintro e w10 ⟨rfl, q10⟩
             have hT10 := hT9.go q10
             have rA10 := rA9.dn q10
             have rT10 := rT9.dn q10
             clear hT9 rA9 rT9 rY
             go_wp2_with fail
             refine (uSame1 _ _ a b _ rT10 rA10).mono ?_
             rintro e w11 ⟨rfl, q11⟩
             have hT11 := hT10.go q11
             clear hT10 rA10 rT10
             go_wp2_with fail
             go_roundw
             case rel => exact ⟨k + 1, by omega, by simp, hT11⟩
             case measure => simp [intOf]; omega
       · have e4 : (k : Int) = 4 := by omega
         rw [e4]
         have hdn := hT.dn
         clear hT e4
         go_wp2_with fail
         refine (live11 _ (hE.dn hdn)).mono ?_
         rintro e w9 ⟨rfl, q9⟩
         go_wp2_with fail
         go_ret
         exact ⟨rfl, hdn.trans q9⟩
theorem preUn109x1 (w1 : World) : ∃ W1, W1 = w1.alloc (.cells #[.int .i8 0, .int .i64 0, .int .i8 0, .int .i64 0] 30) ∧ (Dn w1 W1) ∧ (W1.cell? ⟨w1.heap.size, 0, none⟩ = some (.int .i8 0)) ∧ (W1.cell? ⟨w1.heap.size, 1, none⟩ = some (.int .i64 0)) ∧ (W1.cell? ⟨w1.heap.size, 2, none⟩ = some (.int .i8 0)) ∧ (W1.cell? ⟨w1.heap.size, 3, none⟩ = some (.int .i64 0)) ∧ (w1.heap.size < W1.heap.size) := by
  obtain ⟨W1, hW1⟩ : ∃ W1, W1 = w1.alloc (.cells #[.int .i8 0, .int .i64 0, .int .i8 0, .int .i64 0] 30) := ⟨_, rfl⟩
  exact ⟨W1, hW1, (by rw [hW1]; exact (Dn.refl _).alloc _), (by rw [hW1]; simp [go_sem]), (by rw [hW1]; simp [go_sem]), (by rw [hW1]; simp [go_sem]), (by rw [hW1]; simp [go_sem]), (by rw [hW1]; simp <;> omega)⟩
theorem topUnits_no (y : Int) (hy : ¬ IsY y) (w : World) (hE : EnvP w) :
  Calls Tryz.prog 4 #[.int .i64 y] w fun ro w' => ro = .returned (.bool true) ∧ Dn w w' := by
 have HY := Lib.hid hy
 clear hy
 go_enter Tryz.func4, Tryz.ntmps4
 go_wp2_with fail
 refine (tYear_no _ _ HY.out).mono ?_
 rintro e w1 ⟨rfl, qw1⟩
 have uw1 := qw1
 clear qw1
 go_wp2_with fail
 obtain ⟨W1, hW1, uW1, c2, c3, c4, c5, l6⟩ := preUn109x1 w1 
 rw [← hW1]
 clear hW1
 have vW1 := uw1.trans uW1
 clear uW1 uw1
 go_wp2_with fail
 refine (uSame (check_no _ _ HY.out)).mono ?_
 rintro e w2 ⟨rfl, qw2⟩
 have l7 := nlt l6 qw2.size
 obtain ⟨c8, c9, a0, a1⟩ := mv4 qw2.cell c2 c3 c4 c5
 clear l6 c2 c3 c4 c5
 have uw2 := vW1.trans qw2
 clear qw2 vW1
 go_wp2_with fail
 refine (live11 _ (hE.dn uw2)).mono ?_
 rintro e w3 ⟨rfl, qw3⟩
 have a2 := nlt l7 qw3.size
 obtain ⟨a3, a4, a5, a6⟩ := mv4 qw3.cell c8 c9 a0 a1
 clear l7 c8 c9 a0 a1
 have uw3 := uw2.trans qw3
 clear qw3 uw2
 go_wp2_with fail
 go_ret
 exact ⟨rfl, uw3⟩
theorem topUnits_true (y : Int) (w : World) (hd : I64 y) (hE : EnvP w) :
   Calls Tryz.prog 4 #[.int .i64 y] w fun ro w' => ro = .returned (.bool true) ∧ Dn w w' := by
 by_cases hy : IsY y
 · exact topUnits_yes y _ _ rfl rfl hy w hE
 · exact topUnits_no y hy w hE
open Go.ChangeShapes Go.WideShapes Go.ChangeAt Go.RowKit Go.Joins Go.Deep
variable {H : Type} {enc : TypeId × Value → H} {P : Program} {W : World} {r : Reach} {b0 : Nat} {t e : TypeId} {v : Value} {d : DataW H} {p : List MemPlace} {sp : Nat → Bool} {hd : Bool} {base : Nat}
theorem open_i64 (ht : P.underlying t = some (.int .i64)) (hv : Value.okWide P W r b0 t v) (h : DataW.Trod enc P W base sp hd t v d p) : ∃ a, v = .int .i64 a ∧ I64 a := by
 obtain ⟨a, rfl, _, _, w⟩ := open_int ht hv h
 exact ⟨a, rfl, i64_of_wf w⟩
end Go.Proofs.YteodjglbpfmikaaGreatDoor
