/- Walks and laws that the claim's theorem leans on: part 16. -/
import Derived.Test.YtoghoddjkdoohaaGreatDoorZKn1
import Derived.Test.YtoghoddjkdoohaaGreatDoorZKn15
namespace Go.Proofs.YtoghoddjkdoohaaGreatDoor
set_option maxHeartbeats 4000000
set_option maxRecDepth 100000
open Go.RowKit
set_option linter.unusedVariables false
set_option linter.unusedSimpArgs false
theorem list_runC {ops : Array Oper} {rest : List Oper} {o : Oper} {a : Act} {Q : Exit -> Act -> World -> Prop} (hgd : o.guard = none) (s x : Operand)
   (ho : o.op = .call { callee := .builtin .append, args := #[s, x], argTypes := #[22, 22] }) (w : World) (base : Nat) (v : Value) (L : List Rq) (a0 b0 c0 d0 : Int) (hs : a.eval s = v) (hown : OwnQ w base v L)
   (hx : a.eval x = .slice (some ⟨w.heap.size, 0, none⟩) 1 1) (hl : L.length <= 1000000) (hb : base <= w.heap.size)
   (h : ∀ v' w', OwnQ w' base v' (L ++ [⟨a0, b0, c0, d0⟩]) -> (∀ b, b < w.heap.size -> (∀ k, v.ownBlock = some k -> b ≠ k) -> w'.heap[b]? = w.heap[b]?) -> w.heap.size <= w'.heap.size -> (∀ w0, Dn w0 w -> w0.heap.size <= base -> Dn w0 w') -> wpList Tryz.prog ops Q rest (a.put o.dst v') w') :
   wpList Tryz.prog ops Q (o :: rest) a (w.alloc (.cells #[.int .i8 a0, .int .i64 b0, .int .i8 c0, .int .i64 d0] 45)) := by
 obtain ⟨i0, hi, hz0, hz1, hz2⟩ := info_parts infoRun
 refine wpList_append_own (w.alloc (.cells #[.int .i8 a0, .int .i64 b0, .int .i8 c0, .int .i64 d0] 45)) hgd s x 22 ho base 45 i0 _ 4 32 Tryz.underlying22 hi hz0 hz1 hz2 rfl (by decide) v _ _ hs (hown.own.alloc _) ⟨w.heap.size, 0, none⟩ 1 1 (qc ⟨a0, b0, c0, d0⟩) hx rfl ?_ ?_ ?_ ?_ ?_ ?_
 · intro j u hj
   match j, hj with
   | 0, hj => simp [qc] at hj; subst hj; simp [Addr.add]
   | 1, hj => simp [qc] at hj; subst hj; simp [Addr.add]
   | 2, hj => simp [qc] at hj; subst hj; simp [Addr.add]
   | 3, hj => simp [qc] at hj; subst hj; simp [Addr.add]
   | n + 4, hj => simp [qc] at hj
 · intro u hu; simp [qc] at hu; rcases hu with rfl | rfl | rfl | rfl <;> rfl
 · unfold maxLen; omega
 · omega
 · simp; omega
 · intro v' w' k1 k2 _
   have hall : w.grownBy w' v.ownBlock := by
     have := World.grownBy_alloc w (.cells #[.int .i8 a0, .int .i64 b0, .int .i8 c0, .int .i64 d0] 45) v.ownBlock; exact grown_trans this k2
   refine h v' w' ⟨?_⟩ ?_ hall.size ?_
   · simpa using k1
   · intro b hb1 hb2
     exact hall.block b hb1 (fun e => hb2 b e.symm rfl)
   · intro w0 hd e
     exact ⟨hd.below.trans ⟨hall.os, hall.tape, hall.output, hall.size, fun i hi => hall.block i (Nat.lt_of_lt_of_le hi hd.size) (fun e2 => by have := (hown.own.lt i e2.symm).1; omega)⟩⟩
def CplAt (L : List Rq) (k : Nat) (O : List Rq) (fa fb : Int) (more : Bool) : Prop :=
 O.length <= k /\ I64 fb /\ ((more = true /\ cplL L = O ++ cplF fa fb (L.drop k)) \/ (more = false /\ L.drop k = [] /\ cplL L = O))
theorem cpl_start (L : List Rq) : CplAt L 0 [] (-1) 0 true := ⟨by simp, by decide, .inl ⟨rfl, rfl⟩⟩
def gapR (fa fb : Int) (x : Rq) : List Rq := if x.a = 0 /\ -9223372036854775808 < x.b /\ key fa fb <= x.b - 1 then [⟨fa, fb, 0, x.b - 1⟩] else []
theorem cpl_step {L O : List Rq} {k : Nat} {fa fb : Int} {more : Bool} {x : Rq} (h : CplAt L k O fa fb more) (hx : L[k]? = some x) (hS : Sep L) {i2 d2 e2 : Int} (hn : Mv x.c x.d 1 i2 d2 e2) :
   CplAt L (k + 1) (O ++ gapR fa fb x) i2 d2 (decide (e2 = 0 /\ i2 = 0)) := by
 obtain ⟨hl, hxe⟩ := List.getElem?_eq_some_iff.1 hx
 have hd : L.drop k = x :: L.drop (k + 1) := by rw [List.drop_eq_getElem_cons hl, hxe]
 obtain ⟨h1, h2, ⟨rfl, h3⟩ | ⟨_, h3, _⟩⟩ := h
 · have hg : (gapR fa fb x).length <= 1 := by unfold gapR; split <;> simp
   have hxo := Sep.all hS x (List.mem_of_getElem? hx)
   have hlast : ¬ (x.c = 0 /\ x.d < 9223372036854775807) -> L.drop (k + 1) = [] := by
     intro hne; have hs : Sep (L.drop k) := sep_drop hS k; rw [hd] at hs
     cases hr : L.drop (k + 1) with
     | nil => rfl
     | cons y t =>
       exfalso; have hy : y ∈ L.drop (k + 1) := (by rw [hr]; exact List.mem_cons_self); have h4 := hs.2.1 y hy; have h5 := (Rq.ok_lo (Sep.all hs.2.2 y hy)).2; rcases Rq.ok_hi' hxo with ⟨c1, c2, c3⟩ | ⟨c1, c2, c3⟩
       · unfold I64 at c3; omega
       · omega
   have hI : I64 d2 := by
     rcases hn with ⟨_, _, rfl, _⟩ | ⟨_, _, _, rfl, _⟩ | ⟨_, _, hf⟩
     · decide
     · exact hxo.2.1
     · exact hf.i64
   rw [hd, cplF] at h3; refine ⟨by simp; omega, hI, ?_⟩; rcases hn with ⟨hk, _⟩ | ⟨_, hc, rfl, rfl, rfl⟩ | ⟨hc, rfl, hf⟩
   · exact absurd hxo.2.2.2.1 hk
   · right
     have hne : ¬ (x.c = 0 /\ x.d < 9223372036854775807) := fun h => hc h.1
     rw [if_neg hne, List.append_nil] at h3; exact ⟨by simp [hc], hlast hne, h3⟩
   · rcases hf with ⟨hi, rfl, rfl⟩ | ⟨hi, rfl, rfl⟩
     · left
       have hlt : x.c = 0 /\ x.d < 9223372036854775807 := ⟨hc, by unfold I64 at hi; omega⟩; rw [if_pos hlt] at h3; exact ⟨by simp, by rw [h3, List.append_assoc]; rfl⟩
     · right
       have hne : ¬ (x.c = 0 /\ x.d < 9223372036854775807) := fun h => hi (by have := hxo.2.1; unfold I64 at *; omega)
       rw [if_neg hne, List.append_nil] at h3; exact ⟨by simp, hlast hne, h3⟩
 · rw [hd] at h3; cases h3
where
 sep_drop {L : List Rq} (h : Sep L) : ∀ k, Sep (L.drop k)
   | 0 => h
   | k + 1 => by
     cases L with
     | nil => exact h
     | cons x t => exact sep_drop h.2.2 k
theorem cpl_end {L O : List Rq} {fa fb : Int} {more : Bool} (h : CplAt L L.length O fa fb more) : cplL L = if more = true then O ++ [⟨fa, fb, 1, 0⟩] else O := by
 obtain ⟨_, _, ⟨rfl, h3⟩ | ⟨rfl, _, h3⟩⟩ := h
 · rw [h3]; simp [cplF]
 · rw [h3]; simp
theorem mv_prev {x : Rq} (h : x.ok) : (x.a = 0 /\ -9223372036854775808 < x.b /\ Mv x.a x.b (-1) 0 (x.b - 1) 0) \/ (x.a = 0 /\ x.b = -9223372036854775808 /\ Mv x.a x.b (-1) 0 0 15) \/ (x.a ≠ 0 /\ Mv x.a x.b (-1) (-1) 0 0) := by
 rcases Rq.ok_lo' h with ⟨h1, _, h3⟩ | ⟨h1, h2, _⟩
 · by_cases hb : x.b = -9223372036854775808
   · exact .inr (.inl ⟨h1, hb, .inr (.inr ⟨h1, rfl, .inr ⟨by unfold I64; omega, rfl, rfl⟩⟩)⟩)
   · have : -9223372036854775808 < x.b := by unfold I64 at h3; omega
     exact .inl ⟨h1, this, .inr (.inr ⟨h1, rfl, .inl ⟨by unfold I64 at *; omega, by omega, rfl⟩⟩)⟩
 · exact .inr (.inr ⟨by omega, .inr (.inl ⟨h.2.2.1, by omega, h1.symm, h2.symm, rfl⟩)⟩)
theorem mv_next {x : Rq} (h : x.ok) : (x.c = 0 /\ x.d < 9223372036854775807 /\ Mv x.c x.d 1 0 (x.d + 1) 0) \/ (x.c = 0 /\ x.d = 9223372036854775807 /\ Mv x.c x.d 1 0 0 15) \/ (x.c ≠ 0 /\ Mv x.c x.d 1 1 0 0) := by
 rcases Rq.ok_hi' h with ⟨h1, _, h3⟩ | ⟨h1, h2, _⟩
 · by_cases hb : x.d = 9223372036854775807
   · exact .inr (.inl ⟨h1, hb, .inr (.inr ⟨h1, rfl, .inr ⟨by unfold I64; omega, rfl, rfl⟩⟩)⟩)
   · have : x.d < 9223372036854775807 := by unfold I64 at h3; omega
     exact .inl ⟨h1, this, .inr (.inr ⟨h1, rfl, .inl ⟨by unfold I64 at *; omega, rfl, rfl⟩⟩)⟩
 · exact .inr (.inr ⟨by omega, .inr (.inl ⟨h.2.2.2.1, by omega, h1.symm, h2.symm, rfl⟩)⟩)
theorem CB.same {w w' : World} {B : Nat} {u v : Value} (h : CB w B u v) (e : w'.heap[B]? = w.heap[B]?) (hl : w.heap.size <= w'.heap.size) : CB w' B u v :=
 ⟨cell_same e h.c0, cell_same e h.c1, (frozen_same e).trans h.f0, (frozen_same e).trans h.f1, Nat.lt_of_lt_of_le h.lt hl⟩
theorem C4.same {w w' : World} {B : Nat} {v0 v1 v2 v3 : Value} (h : C4 w B v0 v1 v2 v3) (e : w'.heap[B]? = w.heap[B]?) (hl : w.heap.size <= w'.heap.size) : C4 w' B v0 v1 v2 v3 :=
 ⟨cell_same e h.c0, cell_same e h.c1, cell_same e h.c2, cell_same e h.c3, (frozen_same e).trans h.f0, (frozen_same e).trans h.f1, (frozen_same e).trans h.f2, (frozen_same e).trans h.f3, Nat.lt_of_lt_of_le h.lt hl⟩
theorem cb_fill {w : World} {B : Nat} {u v : Value} (h : CB w B u v) (u' v' : Value) : CB ((w.setCell ⟨B, 0, none⟩ u').setCell ⟨B, 1, none⟩ v') B u' v' := by
 have h0 := h.c0; have h1 := h.c1
 exact ⟨by simp [go_sem, h0], by simp [go_sem, h1], by simpa using h.f0, by simpa using h.f1, by simpa using h.lt⟩
theorem own_low2 {w : World} {base B : Nat} {v : Value} {L : List Rq} (h : OwnQ w base v L) (hB : B < base) (u u' : Value) : OwnQ ((w.setCell ⟨B, 0, none⟩ u).setCell ⟨B, 1, none⟩ u') base v L :=
 (h.low hB u).kept (grown_set _ ⟨B, 1, none⟩ u') (fun k e => by cases e; exact hB)
theorem own_full {w : World} {base : Nat} {v : Value} {L : List Rq} (h : OwnQ w base v L) : ∃ p cap, v = .slice p L.length cap /\ L.length <= cap /\ cap <= 9223372036854775807 /\ Row w p L := by
 rcases h.form with ⟨rfl, rfl⟩ | ⟨g, cap, rfl, _, h1, h2, hc⟩
 · exact ⟨_, _, rfl, Nat.le_refl _, by decide, Row.nil _ _⟩
 · exact ⟨_, _, rfl, h1, by simpa [maxLen] using h2, hc.row⟩
theorem rsComplementIn (p : Option Addr) (cap : Nat) (L : List Rq) (w : World) (hl : L.length <= 900000) (hS : Sep L) (hR : Row w p L) :
  Calls Tryz.prog 54 #[.slice p L.length cap] w fun ro w' => ∃ p' cap', ro = .returned (.slice p' (cplL L).length cap') /\ (cplL L).length <= cap' /\ cap' <= 9223372036854775807 /\ Row w' p' (cplL L) /\ Dn w w' := by
 go_enter Tryz.func54, Tryz.ntmps54
 go_wp2_with fail
 obtain ⟨W1, hW1⟩ : ∃ W1, W1 = w.alloc (.cells #[.int .i8 (-1), .int .i64 0] 41) := ⟨_, rfl⟩
 have u1 : Dn w W1 := by rw [hW1]; exact (Dn.refl _).alloc _
 have hF : CB W1 w.heap.size (.int .i8 (-1)) (.int .i64 0) := by rw [hW1]; exact CB.new _ _ _ _
 rw [<- hW1]
 clear hW1
 go_loopw [3, 5, 14] (fun ov mv iv wr => ∃ (k : Nat) (O : List Rq) (fa fb : Int) (more : Bool), k <= L.length /\ iv = .int .i64 k /\ mv = .bool more /\ CplAt L k O fa fb more /\ OwnQ wr (w.heap.size + 1) ov O /\ CB wr w.heap.size (.int .i8 fa) (.int .i64 fb) /\ Dn w wr) (fun _ _ iv _ => L.length - (intOf iv).toNat)
 case atStart => exact ⟨0, [], -1, 0, true, by omega, rfl, rfl, cpl_start L, OwnQ.nil _ _, hF, u1⟩
 case round =>
  obtain ⟨k, O, fa, fb, more, hk, rfl, rfl, hat, hown, hF, hu⟩ := hrel; have HAT := Lib.hid hat; have hOl := hat.1; have hfb := hat.2.1; clear hat
  by_cases hlt : k < L.length
  · have d1 : decide ((k : Int) < L.length) = true := by simp; omega
    obtain ⟨x, hx⟩ : ∃ x, L[k]? = some x := ⟨L[k], by simp [hlt]⟩; obtain ⟨g, o, rfl, hc⟩ := hR.cs (by omega); obtain ⟨a0, a1, a2, a3⟩ := (hc.dn hu).el _ _ hx; have HX := Lib.hid hx; have hxo := Sep.all hS x (List.mem_of_getElem? hx); have HXO := Lib.hid hxo; have hpv := mv_prev hxo; have hrow := hown.row; clear hx hc hR hxo; rcases hpv with ⟨pa, pb, hp⟩ | ⟨pa, pb, hp⟩ | ⟨pa, hp⟩
    by_cases hcmp : key fa fb <= x.b - 1
    ·
      have HG : Hid (gapR fa fb x = [⟨fa, fb, 0, x.b - 1⟩]) := Lib.hid (by unfold gapR; rw [if_pos ⟨pa, pb, hcmp⟩]); have HP := Lib.hid (fun W => ePrev x.a x.b 0 (x.b - 1) 0 W HXO.out.1 hp); have hI1 : I64 (x.b - 1) := (by have := HXO.out.1; unfold I64 at *; omega); have hke := eC_le (i := fa) (j := 0) hfb hI1; have hk0 : key 0 (x.b - 1) = x.b - 1 := (by unfold key; omega); rw [hk0] at hke; have hCm := Lib.hid (fun W => eCmp fa fb 0 (x.b - 1) W); have dc : decide (eC fa fb 0 (x.b - 1) <= 0) = true := (by rw [decide_eq_true_iff]; exact hke.2 hcmp); clear hke hk0 hcmp hI1; generalize eC fa fb 0 (x.b - 1) = n at *; generalize hxm : x.b - 1 = xm at *; have HXM := Lib.hid hxm; clear hxm; clear hp pa pb hfb; go_wp2_with fail; clear a0 a1 a2 a3; obtain ⟨W1, hW1⟩ : ∃ W1, W1 = wr.alloc (.cells #[.int .i8 x.a, .int .i64 x.b, .int .i8 x.c, .int .i64 x.d] 45) := ⟨_, rfl⟩; have uW1 : Dn wr W1 := (by rw [hW1]; exact (Dn.refl _).alloc _); replace hown := hown.dn uW1; replace hF := hF.dn uW1; have c2 : W1.cell? ⟨wr.heap.size, 0, none⟩ = some (.int .i8 x.a) := (by rw [hW1]; simp [go_sem]); have c3 : W1.cell? ⟨wr.heap.size, 1, none⟩ = some (.int .i64 x.b) := (by rw [hW1]; simp [go_sem]); have c4 : W1.cell? ⟨wr.heap.size, 2, none⟩ = some (.int .i8 x.c) := (by rw [hW1]; simp [go_sem]); have c5 : W1.cell? ⟨wr.heap.size, 3, none⟩ = some (.int .i64 x.d) := (by rw [hW1]; simp [go_sem]); have l6 : wr.heap.size < W1.heap.size := (by rw [hW1]; simp <;> omega); rw [<- hW1]; clear hW1; have vW1 := hu.trans uW1; clear uW1 hu; refine (HP.out _).mono ?_; rintro e w1 ⟨rfl, qw1⟩; replace qw1 := qw1.dn; replace hown := hown.dn qw1; replace hF := hF.dn qw1; have l7 := nlt l6 qw1.size; obtain ⟨c8, c9, a4, a5⟩ := mv4 qw1.cell c2 c3 c4 c5; clear l6 c2 c3 c4 c5; have uw1 := vW1.trans qw1; clear qw1 vW1; have f0 := hF.c0; have f1 := hF.c1; have fl := hF.lt; go_wp2_with fail; clear f0 f1 fl; obtain ⟨W12, hW12⟩ : ∃ W12, W12 = w1.alloc (.cells #[.int .i8 0, .int .i64 xm] 41) := ⟨_, rfl⟩; have uW12 : Dn w1 W12 := (by rw [hW12]; exact (Dn.refl _).alloc _); replace hown := hown.dn uW12; replace hF := hF.dn uW12; have a6 := nlt l7 uW12.size; obtain ⟨a7, a8, a9, aA⟩ := mv4 uW12.cell c8 c9 a4 a5; clear l7 c8 c9 a4 a5; have aB : W12.cell? ⟨w1.heap.size, 0, none⟩ = some (.int .i8 0) := (by rw [hW12]; simp [go_sem]); have aC : W12.cell? ⟨w1.heap.size, 1, none⟩ = some (.int .i64 xm) := (by rw [hW12]; simp [go_sem]); have aD : w1.heap.size < W12.heap.size := (by rw [hW12]; simp <;> omega); rw [<- hW12]; clear hW12; have vW12 := uw1.trans uW12; clear uW12 uw1; refine (hCm.out _).mono ?_; rintro e wc ⟨rfl, qc⟩; replace qc := qc.dn; replace hown := hown.dn qc; replace hF := hF.dn qc; obtain ⟨aE, aJ⟩ := nl2 qc.size a6 aD; obtain ⟨aF, aG, aH, aI, aK, aL⟩ := mv6 qc.cell a7 a8 a9 aA aB aC; clear a6 a7 a8 a9 aA aD aB aC; have uc := vW12.trans qc; clear qc vW12; have f0 := hF.c0; have f1 := hF.c1; have hC4 : (wc.cell? ⟨wr.heap.size, 0, none⟩ = some (.int .i8 x.a) /\ wc.cell? ⟨wr.heap.size, 1, none⟩ = some (.int .i64 x.b) /\ wc.cell? ⟨wr.heap.size, 2, none⟩ = some (.int .i8 x.c) /\ wc.cell? ⟨wr.heap.size, 3, none⟩ = some (.int .i64 x.d)) /\ True := ⟨⟨aF, aG, aH, aI⟩, trivial⟩; go_wp2_with (at_builtin; refine list_runC rfl _ _ rfl wc (w.heap.size + 1) u3 O fa fb 0 xm rfl hown rfl (by omega) hF.lt ?_); intro v' w' hown' hold hsz hdn; have hd2 : Dn w w' := hdn w uc (by omega); have hR' := hold (wr.heap.size) aE (fun k hk e => by have := (hrow k hk).2; omega); have hF' := hF.same (hold w.heap.size (by have := hF.lt; omega) (fun k hk e => by have := (hrow k hk).1; omega)) hsz; obtain ⟨⟨t0, t1, t2, t3⟩, -⟩ := hC4; have r0 := cell_same hR' t0; have r1 := cell_same hR' t1; have r2 := cell_same hR' t2; have r3 := cell_same hR' t3; have rl2 := Nat.lt_of_lt_of_le aE hsz; clear hown hF hold hR' hdn t0 t1 t2 t3 f0 f1 uc aF aG aH aI aK aL aJ hsz; have hown := hown'; have hF := hF'; clear hown' hF'; clear hrow; have hnx := mv_next HXO.out
      obtain ⟨i2, d2, e2, hn, he⟩ : ∃ i2 d2 e2, Mv x.c x.d 1 i2 d2 e2 /\ (e2 = 0 \/ e2 = 15) := by
       rcases hnx with ⟨_, _, h⟩ | ⟨_, _, h⟩ | ⟨_, h⟩
       · exact ⟨_, _, _, h, .inl rfl⟩
       · exact ⟨_, _, _, h, .inr rfl⟩
       · exact ⟨_, _, _, h, .inl rfl⟩
      have HN := Lib.hid (fun W => eNext x.c x.d i2 d2 e2 W HXO.out.2.1 hn); have HST := Lib.hid (cpl_step HAT.out HX.out hS hn); clear hnx hn; go_wp2_with fail; refine (HN.out _).mono ?_; rintro e w2 ⟨rfl, qw2⟩; replace qw2 := qw2.dn; replace hown := hown.dn qw2; replace hF := hF.dn qw2; have aM := nlt rl2 qw2.size; obtain ⟨aN, aO, aP, aQ⟩ := mv4 qw2.cell r0 r1 r2 r3; clear rl2 r0 r1 r2 r3; have uw2 := hd2.trans qw2; clear qw2 hd2; have f0 := hF.c0; have f1 := hF.c1; have z0 := hF.f0; have z1 := hF.f1; obtain ⟨W9, hW9⟩ : ∃ W9, W9 = (w2.setCell ⟨w.heap.size, 0, none⟩ (.int .i8 i2)).setCell ⟨w.heap.size, 1, none⟩ (.int .i64 d2) := ⟨_, rfl⟩; have hd9 : Dn w W9 := (by rw [hW9]; exact (uw2.setCell (Nat.le_refl _) _).setCell (Nat.le_refl _) _); have hF9 : CB W9 w.heap.size (.int .i8 i2) (.int .i64 d2) := (by rw [hW9]; exact cb_fill hF _ _); have hO9 := own_low2 hown (Nat.lt_succ_self w.heap.size) (.int .i8 i2) (.int .i64 d2); rw [<- hW9] at hO9; go_upto_region 11 with fail; rw [<- hW9]; clear hW9 z0 z1 f0 f1 hF hown uw2 aN aO aP aQ aM; have f0 := hF9.c0; rcases he with rfl | rfl
      ·
       go_wp2_with fail; go_roundw
       case rel => exact ⟨k + 1, O ++ [⟨fa, fb, 0, xm⟩], i2, d2, (i2 == 0), by omega, by simp, rfl, by have h := HST.out; rw [HG.out] at h; rw [show (i2 == 0) = decide ((0 : Int) = 0 /\ i2 = 0) by by_cases q : i2 = 0 <;> simp [q]]; exact h, hO9, hF9, hd9⟩
       case measure => simp [intOf]; omega
      ·
       go_wp2_with fail; go_roundw
       case rel => exact ⟨k + 1, O ++ [⟨fa, fb, 0, xm⟩], i2, d2, false, by omega, by simp, rfl, by have h := HST.out; rw [HG.out] at h; simpa using h, hO9, hF9, hd9⟩
       case measure => simp [intOf]; omega
    ·
      have HG : Hid (gapR fa fb x = []) := Lib.hid (by unfold gapR; rw [if_neg (fun h => hcmp h.2.2)]); have HP := Lib.hid (fun W => ePrev x.a x.b 0 (x.b - 1) 0 W HXO.out.1 hp); have hI1 : I64 (x.b - 1) := (by have := HXO.out.1; unfold I64 at *; omega); have hke := eC_le (i := fa) (j := 0) hfb hI1; have hk0 : key 0 (x.b - 1) = x.b - 1 := (by unfold key; omega); rw [hk0] at hke; have hCm := Lib.hid (fun W => eCmp fa fb 0 (x.b - 1) W); have dc : decide (eC fa fb 0 (x.b - 1) <= 0) = false := (by rw [decide_eq_false_iff_not]; exact fun h => hcmp (hke.1 h)); clear hke hk0 hcmp hI1; generalize eC fa fb 0 (x.b - 1) = n at *; generalize hxm : x.b - 1 = xm at *; have HXM := Lib.hid hxm; clear hxm; clear hp pa pb hfb; go_wp2_with fail; clear a0 a1 a2 a3; obtain ⟨W1, hW1⟩ : ∃ W1, W1 = wr.alloc (.cells #[.int .i8 x.a, .int .i64 x.b, .int .i8 x.c, .int .i64 x.d] 45) := ⟨_, rfl⟩; have uW1 : Dn wr W1 := (by rw [hW1]; exact (Dn.refl _).alloc _); replace hown := hown.dn uW1; replace hF := hF.dn uW1; have c2 : W1.cell? ⟨wr.heap.size, 0, none⟩ = some (.int .i8 x.a) := (by rw [hW1]; simp [go_sem]); have c3 : W1.cell? ⟨wr.heap.size, 1, none⟩ = some (.int .i64 x.b) := (by rw [hW1]; simp [go_sem]); have c4 : W1.cell? ⟨wr.heap.size, 2, none⟩ = some (.int .i8 x.c) := (by rw [hW1]; simp [go_sem]); have c5 : W1.cell? ⟨wr.heap.size, 3, none⟩ = some (.int .i64 x.d) := (by rw [hW1]; simp [go_sem]); have l6 : wr.heap.size < W1.heap.size := (by rw [hW1]; simp <;> omega); rw [<- hW1]; clear hW1; have vW1 := hu.trans uW1; clear uW1 hu; refine (HP.out _).mono ?_; rintro e w1 ⟨rfl, qw1⟩; replace qw1 := qw1.dn; replace hown := hown.dn qw1; replace hF := hF.dn qw1; have l7 := nlt l6 qw1.size; obtain ⟨c8, c9, a4, a5⟩ := mv4 qw1.cell c2 c3 c4 c5; clear l6 c2 c3 c4 c5; have uw1 := vW1.trans qw1; clear qw1 vW1; have f0 := hF.c0; have f1 := hF.c1; have fl := hF.lt; go_wp2_with fail; clear f0 f1 fl; obtain ⟨W12, hW12⟩ : ∃ W12, W12 = w1.alloc (.cells #[.int .i8 0, .int .i64 xm] 41) := ⟨_, rfl⟩; have uW12 : Dn w1 W12 := (by rw [hW12]; exact (Dn.refl _).alloc _); replace hown := hown.dn uW12; replace hF := hF.dn uW12; have a6 := nlt l7 uW12.size; obtain ⟨a7, a8, a9, aA⟩ := mv4 uW12.cell c8 c9 a4 a5; clear l7 c8 c9 a4 a5; have aB : W12.cell? ⟨w1.heap.size, 0, none⟩ = some (.int .i8 0) := (by rw [hW12]; simp [go_sem]); have aC : W12.cell? ⟨w1.heap.size, 1, none⟩ = some (.int .i64 xm) := (by rw [hW12]; simp [go_sem]); have aD : w1.heap.size < W12.heap.size := (by rw [hW12]; simp <;> omega); rw [<- hW12]; clear hW12; have vW12 := uw1.trans uW12; clear uW12 uw1; refine (hCm.out _).mono ?_; rintro e wc ⟨rfl, qc⟩; replace qc := qc.dn; replace hown := hown.dn qc; replace hF := hF.dn qc; obtain ⟨aE, aJ⟩ := nl2 qc.size a6 aD; obtain ⟨aF, aG, aH, aI, aK, aL⟩ := mv6 qc.cell a7 a8 a9 aA aB aC; clear a6 a7 a8 a9 aA aD aB aC; have uc := vW12.trans qc; clear qc vW12; clear hrow; have hnx := mv_next HXO.out
      obtain ⟨i2, d2, e2, hn, he⟩ : ∃ i2 d2 e2, Mv x.c x.d 1 i2 d2 e2 /\ (e2 = 0 \/ e2 = 15) := by
       rcases hnx with ⟨_, _, h⟩ | ⟨_, _, h⟩ | ⟨_, h⟩
       · exact ⟨_, _, _, h, .inl rfl⟩
       · exact ⟨_, _, _, h, .inr rfl⟩
       · exact ⟨_, _, _, h, .inl rfl⟩
      have HN := Lib.hid (fun W => eNext x.c x.d i2 d2 e2 W HXO.out.2.1 hn); have HST := Lib.hid (cpl_step HAT.out HX.out hS hn); clear hnx hn; go_wp2_with fail; refine (HN.out _).mono ?_; rintro e w2 ⟨rfl, qw2⟩; replace qw2 := qw2.dn; replace hown := hown.dn qw2; replace hF := hF.dn qw2; obtain ⟨aM, aR⟩ := nl2 qw2.size aE aJ; obtain ⟨aN, aO, aP, aQ, aS, aT⟩ := mv6 qw2.cell aF aG aH aI aK aL; clear aE aF aG aH aI aJ aK aL; have uw2 := uc.trans qw2; clear qw2 uc; have f0 := hF.c0; have f1 := hF.c1; have z0 := hF.f0; have z1 := hF.f1; obtain ⟨W9, hW9⟩ : ∃ W9, W9 = (w2.setCell ⟨w.heap.size, 0, none⟩ (.int .i8 i2)).setCell ⟨w.heap.size, 1, none⟩ (.int .i64 d2) := ⟨_, rfl⟩; have hd9 : Dn w W9 := (by rw [hW9]; exact (uw2.setCell (Nat.le_refl _) _).setCell (Nat.le_refl _) _); have hF9 : CB W9 w.heap.size (.int .i8 i2) (.int .i64 d2) := (by rw [hW9]; exact cb_fill hF _ _); have hO9 := own_low2 hown (Nat.lt_succ_self w.heap.size) (.int .i8 i2) (.int .i64 d2); rw [<- hW9] at hO9; go_upto_region 11 with fail; rw [<- hW9]; clear hW9 z0 z1 f0 f1 hF hown uw2 aN aO aP aQ aM aS aT aR; have f0 := hF9.c0; rcases he with rfl | rfl
      ·
       go_wp2_with fail; go_roundw
       case rel => exact ⟨k + 1, O, i2, d2, (i2 == 0), by omega, by simp, rfl, by have h := HST.out; rw [HG.out] at h; rw [List.append_nil] at h; rw [show (i2 == 0) = decide ((0 : Int) = 0 /\ i2 = 0) by by_cases q : i2 = 0 <;> simp [q]]; exact h, hO9, hF9, hd9⟩
       case measure => simp [intOf]; omega
      ·
       go_wp2_with fail; go_roundw
       case rel => exact ⟨k + 1, O, i2, d2, false, by omega, by simp, rfl, by have h := HST.out; rw [HG.out] at h; rw [List.append_nil] at h; simpa using h, hO9, hF9, hd9⟩
       case measure => simp [intOf]; omega
    ·
      have HG : Hid (gapR fa fb x = []) := Lib.hid (by unfold gapR; rw [if_neg (fun h => by have := h.2.1; omega)]); have HP := Lib.hid (fun W => ePrev x.a x.b 0 0 15 W HXO.out.1 hp); clear hp pa pb hfb; go_wp2_with fail; clear a0 a1 a2 a3; obtain ⟨W1, hW1⟩ : ∃ W1, W1 = wr.alloc (.cells #[.int .i8 x.a, .int .i64 x.b, .int .i8 x.c, .int .i64 x.d] 45) := ⟨_, rfl⟩; have uW1 : Dn wr W1 := (by rw [hW1]; exact (Dn.refl _).alloc _); replace hown := hown.dn uW1; replace hF := hF.dn uW1; have c2 : W1.cell? ⟨wr.heap.size, 0, none⟩ = some (.int .i8 x.a) := (by rw [hW1]; simp [go_sem]); have c3 : W1.cell? ⟨wr.heap.size, 1, none⟩ = some (.int .i64 x.b) := (by rw [hW1]; simp [go_sem]); have c4 : W1.cell? ⟨wr.heap.size, 2, none⟩ = some (.int .i8 x.c) := (by rw [hW1]; simp [go_sem]); have c5 : W1.cell? ⟨wr.heap.size, 3, none⟩ = some (.int .i64 x.d) := (by rw [hW1]; simp [go_sem]); have l6 : wr.heap.size < W1.heap.size := (by rw [hW1]; simp <;> omega); rw [<- hW1]; clear hW1; have vW1 := hu.trans uW1; clear uW1 hu; refine (HP.out _).mono ?_; rintro e w1 ⟨rfl, qw1⟩; replace qw1 := qw1.dn; replace hown := hown.dn qw1; replace hF := hF.dn qw1; have l7 := nlt l6 qw1.size; obtain ⟨c8, c9, a4, a5⟩ := mv4 qw1.cell c2 c3 c4 c5; clear l6 c2 c3 c4 c5; have uw1 := vW1.trans qw1; clear qw1 vW1; go_upto_region 7 with fail; obtain ⟨W12, hW12⟩ : ∃ W12, W12 = w1.alloc (.cells #[.int .i8 0, .int .i64 0] 41) := ⟨_, rfl⟩; have uW12 : Dn w1 W12 := (by rw [hW12]; exact (Dn.refl _).alloc _); replace hown := hown.dn uW12; replace hF := hF.dn uW12; have a6 := nlt l7 uW12.size; obtain ⟨a7, a8, a9, aA⟩ := mv4 uW12.cell c8 c9 a4 a5; clear l7 c8 c9 a4 a5; have aB : W12.cell? ⟨w1.heap.size, 0, none⟩ = some (.int .i8 0) := (by rw [hW12]; simp [go_sem]); have aC : W12.cell? ⟨w1.heap.size, 1, none⟩ = some (.int .i64 0) := (by rw [hW12]; simp [go_sem]); have aD : w1.heap.size < W12.heap.size := (by rw [hW12]; simp <;> omega); rw [<- hW12]; clear hW12; have vW12 := uw1.trans uW12; clear uW12 uw1; clear hrow; have hnx := mv_next HXO.out
      obtain ⟨i2, d2, e2, hn, he⟩ : ∃ i2 d2 e2, Mv x.c x.d 1 i2 d2 e2 /\ (e2 = 0 \/ e2 = 15) := by
       rcases hnx with ⟨_, _, h⟩ | ⟨_, _, h⟩ | ⟨_, h⟩
       · exact ⟨_, _, _, h, .inl rfl⟩
       · exact ⟨_, _, _, h, .inr rfl⟩
       · exact ⟨_, _, _, h, .inl rfl⟩
      have HN := Lib.hid (fun W => eNext x.c x.d i2 d2 e2 W HXO.out.2.1 hn); have HST := Lib.hid (cpl_step HAT.out HX.out hS hn); clear hnx hn; go_wp2_with fail; refine (HN.out _).mono ?_; rintro e w2 ⟨rfl, qw2⟩; replace qw2 := qw2.dn; replace hown := hown.dn qw2; replace hF := hF.dn qw2; obtain ⟨aE, aJ⟩ := nl2 qw2.size a6 aD; obtain ⟨aF, aG, aH, aI, aK, aL⟩ := mv6 qw2.cell a7 a8 a9 aA aB aC; clear a6 a7 a8 a9 aA aD aB aC; have uw2 := vW12.trans qw2; clear qw2 vW12; have f0 := hF.c0; have f1 := hF.c1; have z0 := hF.f0; have z1 := hF.f1; obtain ⟨W9, hW9⟩ : ∃ W9, W9 = (w2.setCell ⟨w.heap.size, 0, none⟩ (.int .i8 i2)).setCell ⟨w.heap.size, 1, none⟩ (.int .i64 d2) := ⟨_, rfl⟩; have hd9 : Dn w W9 := (by rw [hW9]; exact (uw2.setCell (Nat.le_refl _) _).setCell (Nat.le_refl _) _); have hF9 : CB W9 w.heap.size (.int .i8 i2) (.int .i64 d2) := (by rw [hW9]; exact cb_fill hF _ _); have hO9 := own_low2 hown (Nat.lt_succ_self w.heap.size) (.int .i8 i2) (.int .i64 d2); rw [<- hW9] at hO9; go_upto_region 11 with fail; rw [<- hW9]; clear hW9 z0 z1 f0 f1 hF hown uw2 aF aG aH aI aE aK aL aJ; have f0 := hF9.c0; rcases he with rfl | rfl
      ·
       go_wp2_with fail; go_roundw
       case rel => exact ⟨k + 1, O, i2, d2, (i2 == 0), by omega, by simp, rfl, by have h := HST.out; rw [HG.out] at h; rw [List.append_nil] at h; rw [show (i2 == 0) = decide ((0 : Int) = 0 /\ i2 = 0) by by_cases q : i2 = 0 <;> simp [q]]; exact h, hO9, hF9, hd9⟩
       case measure => simp [intOf]; omega
      ·
       go_wp2_with fail; go_roundw
       case rel => exact ⟨k + 1, O, i2, d2, false, by omega, by simp, rfl, by have h := HST.out; rw [HG.out] at h; rw [List.append_nil] at h; simpa using h, hO9, hF9, hd9⟩
       case measure => simp [intOf]; omega
    ·
      have HG : Hid (gapR fa fb x = []) := Lib.hid (by unfold gapR; rw [if_neg (fun h => pa h.1)]); have HP := Lib.hid (fun W => ePrev x.a x.b (-1) 0 0 W HXO.out.1 hp); clear hp pa hfb; go_wp2_with fail; clear a0 a1 a2 a3; obtain ⟨W1, hW1⟩ : ∃ W1, W1 = wr.alloc (.cells #[.int .i8 x.a, .int .i64 x.b, .int .i8 x.c, .int .i64 x.d] 45) := ⟨_, rfl⟩; have uW1 : Dn wr W1 := (by rw [hW1]; exact (Dn.refl _).alloc _); replace hown := hown.dn uW1; replace hF := hF.dn uW1; have c2 : W1.cell? ⟨wr.heap.size, 0, none⟩ = some (.int .i8 x.a) := (by rw [hW1]; simp [go_sem]); have c3 : W1.cell? ⟨wr.heap.size, 1, none⟩ = some (.int .i64 x.b) := (by rw [hW1]; simp [go_sem]); have c4 : W1.cell? ⟨wr.heap.size, 2, none⟩ = some (.int .i8 x.c) := (by rw [hW1]; simp [go_sem]); have c5 : W1.cell? ⟨wr.heap.size, 3, none⟩ = some (.int .i64 x.d) := (by rw [hW1]; simp [go_sem]); have l6 : wr.heap.size < W1.heap.size := (by rw [hW1]; simp <;> omega); rw [<- hW1]; clear hW1; have vW1 := hu.trans uW1; clear uW1 hu; refine (HP.out _).mono ?_; rintro e w1 ⟨rfl, qw1⟩; replace qw1 := qw1.dn; replace hown := hown.dn qw1; replace hF := hF.dn qw1; have l7 := nlt l6 qw1.size; obtain ⟨c8, c9, a4, a5⟩ := mv4 qw1.cell c2 c3 c4 c5; clear l6 c2 c3 c4 c5; have uw1 := vW1.trans qw1; clear qw1 vW1; go_upto_region 7 with fail; obtain ⟨W12, hW12⟩ : ∃ W12, W12 = w1.alloc (.cells #[.int .i8 (-1), .int .i64 0] 41) := ⟨_, rfl⟩; have uW12 : Dn w1 W12 := (by rw [hW12]; exact (Dn.refl _).alloc _); replace hown := hown.dn uW12; replace hF := hF.dn uW12; have a6 := nlt l7 uW12.size; obtain ⟨a7, a8, a9, aA⟩ := mv4 uW12.cell c8 c9 a4 a5; clear l7 c8 c9 a4 a5; have aB : W12.cell? ⟨w1.heap.size, 0, none⟩ = some (.int .i8 (-1)) := (by rw [hW12]; simp [go_sem]); have aC : W12.cell? ⟨w1.heap.size, 1, none⟩ = some (.int .i64 0) := (by rw [hW12]; simp [go_sem]); have aD : w1.heap.size < W12.heap.size := (by rw [hW12]; simp <;> omega); rw [<- hW12]; clear hW12; have vW12 := uw1.trans uW12; clear uW12 uw1; clear hrow; have hnx := mv_next HXO.out
      obtain ⟨i2, d2, e2, hn, he⟩ : ∃ i2 d2 e2, Mv x.c x.d 1 i2 d2 e2 /\ (e2 = 0 \/ e2 = 15) := by
       rcases hnx with ⟨_, _, h⟩ | ⟨_, _, h⟩ | ⟨_, h⟩
       · exact ⟨_, _, _, h, .inl rfl⟩
       · exact ⟨_, _, _, h, .inr rfl⟩
       · exact ⟨_, _, _, h, .inl rfl⟩
      have HN := Lib.hid (fun W => eNext x.c x.d i2 d2 e2 W HXO.out.2.1 hn); have HST := Lib.hid (cpl_step HAT.out HX.out hS hn); clear hnx hn; go_wp2_with fail; refine (HN.out _).mono ?_; rintro e w2 ⟨rfl, qw2⟩; replace qw2 := qw2.dn; replace hown := hown.dn qw2; replace hF := hF.dn qw2; obtain ⟨aE, aJ⟩ := nl2 qw2.size a6 aD; obtain ⟨aF, aG, aH, aI, aK, aL⟩ := mv6 qw2.cell a7 a8 a9 aA aB aC; clear a6 a7 a8 a9 aA aD aB aC; have uw2 := vW12.trans qw2; clear qw2 vW12; have f0 := hF.c0; have f1 := hF.c1; have z0 := hF.f0; have z1 := hF.f1; obtain ⟨W9, hW9⟩ : ∃ W9, W9 = (w2.setCell ⟨w.heap.size, 0, none⟩ (.int .i8 i2)).setCell ⟨w.heap.size, 1, none⟩ (.int .i64 d2) := ⟨_, rfl⟩; have hd9 : Dn w W9 := (by rw [hW9]; exact (uw2.setCell (Nat.le_refl _) _).setCell (Nat.le_refl _) _); have hF9 : CB W9 w.heap.size (.int .i8 i2) (.int .i64 d2) := (by rw [hW9]; exact cb_fill hF _ _); have hO9 := own_low2 hown (Nat.lt_succ_self w.heap.size) (.int .i8 i2) (.int .i64 d2); rw [<- hW9] at hO9; go_upto_region 11 with fail; rw [<- hW9]; clear hW9 z0 z1 f0 f1 hF hown uw2 aF aG aH aI aE aK aL aJ; have f0 := hF9.c0; rcases he with rfl | rfl
      ·
       go_wp2_with fail; go_roundw
       case rel => exact ⟨k + 1, O, i2, d2, (i2 == 0), by omega, by simp, rfl, by have h := HST.out; rw [HG.out] at h; rw [List.append_nil] at h; rw [show (i2 == 0) = decide ((0 : Int) = 0 /\ i2 = 0) by by_cases q : i2 = 0 <;> simp [q]]; exact h, hO9, hF9, hd9⟩
       case measure => simp [intOf]; omega
      ·
       go_wp2_with fail; go_roundw
       case rel => exact ⟨k + 1, O, i2, d2, false, by omega, by simp, rfl, by have h := HST.out; rw [HG.out] at h; rw [List.append_nil] at h; simpa using h, hO9, hF9, hd9⟩
       case measure => simp [intOf]; omega
  · obtain rfl : k = L.length := by omega
    have d1 : decide ((L.length : Int) < L.length) = false := (by simp); have HE := Lib.hid (cpl_end HAT.out); have f0 := hF.c0; have f1 := hF.c1; have hFl := hF.lt
    cases more
    · have hL := HE.out
      simp only [Bool.false_eq_true, if_false] at hL; rw [<- hL] at hown hOl; obtain ⟨p', cap', rfl, hcap, hmx, hrow⟩ := own_full hown; have HROW := Lib.hid hrow; clear hown hL hrow; go_wp2_with fail; go_ret
      first | exact ⟨p', cap', rfl, hcap, hmx, HROW.out, hu⟩ | exact ⟨p', ⟨cap', rfl, hcap, hmx⟩, HROW.out, hu⟩
    · go_wp2_with (at_builtin; refine list_runC rfl _ _ rfl wr (w.heap.size + 1) u3 O fa fb 1 0 rfl hown rfl (by omega) hFl ?_)
      intro v' w' hown' hold hsz hdn; have hd2 : Dn w w' := hdn w hu (by omega); have hL := HE.out; simp only [if_true] at hL; have hown2 : OwnQ w' (w.heap.size + 1) v' (cplL L) := (by rw [hL]; exact hown'); obtain ⟨p', cap', rfl, hcap, hmx, hrow⟩ := own_full hown2; have HROW := Lib.hid hrow; clear hold hdn hown hown' hown2 hL hrow hF f0 f1; go_wp2_with fail; go_ret
      first | exact ⟨p', cap', rfl, hcap, hmx, HROW.out, hd2⟩ | exact ⟨p', ⟨cap', rfl, hcap, hmx⟩, HROW.out, hd2⟩
set_option maxHeartbeats 4000000
set_option maxRecDepth 100000
theorem cplF_len : ∀ (l : List Rq) (fa fb : Int), (cplF fa fb l).length <= l.length + 1
 | [], fa, fb => by simp [cplF]
 | x :: t, fa, fb => by
   have ih := cplF_len t 0 (x.d + 1); unfold cplF; rw [List.length_append]
   have h1 : (if x.a = 0 /\ -9223372036854775808 < x.b /\ key fa fb <= x.b - 1 then [(⟨fa, fb, 0, x.b - 1⟩ : Rq)] else []).length <= 1 := by split <;> simp
   have h2 : (if x.c = 0 /\ x.d < 9223372036854775807 then cplF 0 (x.d + 1) t else []).length <= t.length + 1 := by
    split
    · exact ih
    · simp
   simp only [List.length_cons]; omega
theorem cplL_len (l : List Rq) : (cplL l).length <= l.length + 1 := cplF_len l _ _
theorem lim_ok (p : Option Addr) (cap : Nat) (M : List Rq) (w : World) (E : Int) (R : List Rq) (hE : E = fin3 0 M) (hRR : R = res3 0 M) (hcap : M.length <= cap) (hmx : cap <= 9223372036854775807) (hR : Row w p M) :
  Calls Tryz.prog 53 #[.slice p M.length cap] w fun ro w' => ∃ p', ro = .returned (.tuple #[.slice p' R.length R.length, .int .i64 E]) /\ Row w' p' R /\ Dn w w' := by
 subst hE hRR
 refine (rsLimited p cap M w hcap hmx hR).mono ?_
 rintro ro w' ⟨p', cap', rfl, rfl, h1, h2⟩
 exact ⟨p', rfl, h1, h2⟩
theorem cmn_len : ∀ (s t : List Rq), (cmn s t).length <= s.length + t.length
 | [], t => by rw [cmn_nil']; simp
 | x :: s, [] => by rw [cmn_nil]; simp
 | x :: s, y :: t => by
   rw [cmn_step, List.length_append]
   have h1 : (if MeetR x y then [inR x y] else []).length <= 1 := by split <;> simp
   have h2 := cmn_len s (y :: t); have h3 := cmn_len (x :: s) t
   have h4 : (if x.hi < y.hi then cmn s (y :: t) else cmn (x :: s) t).length <= s.length + t.length + 1 := by
    simp only [List.length_cons] at h2 h3
    split <;> omega
   simp only [List.length_cons]; omega
termination_by s t => s.length + t.length
theorem jn_le : ∀ (t : List Rq) (p : Rq), (jn p t).length <= t.length + 1
 | [], p => by simp [jn]
 | r :: t, p => by
   unfold jn; split
   · have := jn_le t (jnR p r); simp only [List.length_cons]; omega
   · have := jn_le t r; simp only [List.length_cons]; omega
theorem joined_le (l : List Rq) : (joinedL l).length <= l.length := by
 cases l with
 | nil => simp [joinedL]
 | cons x t => exact jn_le t x
theorem jn_len (s t : List Rq) : (joinedL (cmn s t)).length <= s.length + t.length := by
 have h1 := joined_le (cmn s t)
 have h2 := cmn_len s t
 omega
theorem rsCommonS (p : Option Addr) (cap : Nat) (a : List Rq) (q : Option Addr) (cap' : Nat) (b : List Rq) (E : Int) (R : List Rq) (w : World) (hE : E = fin3 (bothL a b) (joinedL (cmn a b))) (hRR : R = res3 (bothL a b) (joinedL (cmn a b))) (hc1 : a.length <= cap) (hm1 : cap <= 9223372036854775807) (hc2 : b.length <= cap') (hm2 : cap' <= 9223372036854775807) (hl1 : a.length <= 100000) (hI1 : I6 a) (hR1 : Row w p a) (hl2 : b.length <= 100000) (hI2 : I6 b) (hR2 : Row w q b) :
   Calls Tryz.prog 25 #[.slice p a.length cap, .slice q b.length cap'] w fun ro w' => ∃ p', ro = .returned (.tuple #[.slice p' R.length R.length, .int .i64 E]) /\ Row w' p' R /\ Dn w w' := by
 have HB := Lib.hid (fun W (h : Dn w W) => rsChecked p cap a q cap' b W (by omega) hI1 (hR1.dn h) (by omega) hI2 (hR2.dn h))
 by_cases hc : bothL a b = 0
 rotate_left
 · obtain rfl : E = bothL a b := by rw [hE, fin3_bad hc]
   obtain rfl : R = [] := by rw [hRR, res3_bad hc]
   have d0 : (bothL a b != 0) = true := by simpa using hc
   clear hE hRR hc hR1 hR2 hI1 hI2; generalize bothL a b = c at *; go_enter Tryz.func25, Tryz.ntmps25; go_wp2_with fail; refine (HB.out _ (Dn.refl _)).mono ?_; rintro e w1 ⟨rfl, qw1⟩; have uw1 := qw1; clear qw1; go_wp2_with fail; go_ret2; exact ⟨none, rfl, rownil _, uw1⟩
 · obtain ⟨hca, hcb⟩ := both_zero hc
   have ssa := chk_ok hI1 hca; have ssb := chk_ok hI2 hcb; have la := chk_len hca; have lb := chk_len hcb; rw [hc] at HB hE hRR; clear hc hca hcb hI1 hI2; have HJ := Lib.hid (fun W (h : Dn w W) q' c' (hr : Row W q' b) (h1 : (b).length <= c') (h2 : c' <= 9223372036854775807) => rsCommonIn p cap a q' c' (b) W (by omega) hc1 hm1 h1 h2 (Sep.all ssa) (Sep.all ssb) (hR1.dn h) hr); have HL := Lib.hid (fun W p' cp (h1 : (joinedL (cmn a b)).length <= cp) (h2 : cp <= 9223372036854775807) hr => lim_ok p' cp (joinedL (cmn a b)) W E R hE hRR h1 h2 hr)
   have hjl : (joinedL (cmn a b)).length <= 9223372036854775807 := by have := jn_len a b; omega
   have HJL := Lib.hid hjl; have HRB := Lib.hid hR2; clear hE hRR hjl hR1 hR2 ssa ssb; generalize joinedL (cmn a b) = M at *; go_enter Tryz.func25, Tryz.ntmps25; go_wp2_with fail; refine (HB.out _ (Dn.refl _)).mono ?_; rintro e w1 ⟨rfl, qw1⟩; have uw1 := qw1; clear qw1; go_wp2_with fail; refine (HJ.out _ uw1 q cap' (HRB.out.dn uw1) hc2 hm2).mono ?_; rintro e wj ⟨pj, rfl, hrj, qj⟩; have HRJ := Lib.hid hrj; clear hrj; have uj := uw1.trans qj; go_wp2_with fail; refine (HL.out _ pj _ (Nat.le_refl _) HJL.out HRJ.out).mono ?_; rintro e wl ⟨p2, rfl, hr2, ql⟩; have HR2 := Lib.hid hr2; clear hr2; go_wp2_with fail; go_ret2
   first | exact ⟨p2, rfl, HR2.out, uj.trans ql⟩ | exact ⟨⟨p2, rfl⟩, HR2.out, uj.trans ql⟩
theorem rsWithoutS (p : Option Addr) (cap : Nat) (a : List Rq) (q : Option Addr) (cap' : Nat) (b : List Rq) (E : Int) (R : List Rq) (w : World) (hE : E = fin3 (bothL a b) (joinedL (cmn a (cplL b)))) (hRR : R = res3 (bothL a b) (joinedL (cmn a (cplL b)))) (hc1 : a.length <= cap) (hm1 : cap <= 9223372036854775807) (hc2 : b.length <= cap') (hm2 : cap' <= 9223372036854775807) (hl1 : a.length <= 100000) (hI1 : I6 a) (hR1 : Row w p a) (hl2 : b.length <= 100000) (hI2 : I6 b) (hR2 : Row w q b) :
   Calls Tryz.prog 26 #[.slice p a.length cap, .slice q b.length cap'] w fun ro w' => ∃ p', ro = .returned (.tuple #[.slice p' R.length R.length, .int .i64 E]) /\ Row w' p' R /\ Dn w w' := by
 have HB := Lib.hid (fun W (h : Dn w W) => rsChecked p cap a q cap' b W (by omega) hI1 (hR1.dn h) (by omega) hI2 (hR2.dn h))
 by_cases hc : bothL a b = 0
 rotate_left
 · obtain rfl : E = bothL a b := by rw [hE, fin3_bad hc]
   obtain rfl : R = [] := by rw [hRR, res3_bad hc]
   have d0 : (bothL a b != 0) = true := by simpa using hc
   clear hE hRR hc hR1 hR2 hI1 hI2; generalize bothL a b = c at *; go_enter Tryz.func26, Tryz.ntmps26; go_wp2_with fail; refine (HB.out _ (Dn.refl _)).mono ?_; rintro e w1 ⟨rfl, qw1⟩; have uw1 := qw1; clear qw1; go_wp2_with fail; go_ret2; exact ⟨none, rfl, rownil _, uw1⟩
 · obtain ⟨hca, hcb⟩ := both_zero hc
   have ssa := chk_ok hI1 hca; have ssb := chk_ok hI2 hcb; have la := chk_len hca; have lb := chk_len hcb; rw [hc] at HB hE hRR; clear hc hca hcb hI1 hI2; have hlc := cplL_len b; have hsc := (cpl_law ssb).1; have HC := Lib.hid (fun W (h : Dn w W) => rsComplementIn q cap' b W (by omega) ssb (hR2.dn h)); have HJ := Lib.hid (fun W (h : Dn w W) q' c' (hr : Row W q' (cplL b)) (h1 : (cplL b).length <= c') (h2 : c' <= 9223372036854775807) => rsCommonIn p cap a q' c' (cplL b) W (by omega) hc1 hm1 h1 h2 (Sep.all ssa) (Sep.all hsc) (hR1.dn h) hr); have HL := Lib.hid (fun W p' cp (h1 : (joinedL (cmn a (cplL b))).length <= cp) (h2 : cp <= 9223372036854775807) hr => lim_ok p' cp (joinedL (cmn a (cplL b))) W E R hE hRR h1 h2 hr)
   have hjl : (joinedL (cmn a (cplL b))).length <= 9223372036854775807 := by have := jn_len a (cplL b); omega
   have HJL := Lib.hid hjl; have HRB := Lib.hid hR2; clear hE hRR hjl hR1 hR2 ssa ssb hsc hlc; generalize cplL b = B at *; generalize joinedL (cmn a B) = M at *; go_enter Tryz.func26, Tryz.ntmps26; go_wp2_with fail; refine (HB.out _ (Dn.refl _)).mono ?_; rintro e w1 ⟨rfl, qw1⟩; have uw1 := qw1; clear qw1; go_wp2_with fail; refine (HC.out _ uw1).mono ?_; rintro e wc ⟨pc, cc, rfl, c1, c2, hrc, qc⟩; have HRC := Lib.hid hrc; have HCC := Lib.hid (And.intro c1 c2); clear hrc c1 c2; have uc := uw1.trans qc; clear qc; go_wp2_with fail; refine (HJ.out _ uc pc cc HRC.out HCC.out.1 HCC.out.2).mono ?_; rintro e wj ⟨pj, rfl, hrj, qj⟩; have HRJ := Lib.hid hrj; clear hrj; have uj := uc.trans qj; go_wp2_with fail; refine (HL.out _ pj _ (Nat.le_refl _) HJL.out HRJ.out).mono ?_; rintro e wl ⟨p2, rfl, hr2, ql⟩; have HR2 := Lib.hid hr2; clear hr2; go_wp2_with fail; go_ret2
   first | exact ⟨p2, rfl, HR2.out, uj.trans ql⟩ | exact ⟨⟨p2, rfl⟩, HR2.out, uj.trans ql⟩
theorem rsComplementS (p : Option Addr) (cap : Nat) (L : List Rq) (E : Int) (R : List Rq) (w : World) (hE : E = fin3 (chkL L) (cplL L)) (hRR : R = res3 (chkL L) (cplL L)) (hl : L.length <= 100000) (hI : I6 L) (hR : Row w p L) :
   Calls Tryz.prog 17 #[.slice p L.length cap] w fun ro w' => ∃ p', ro = .returned (.tuple #[.slice p' R.length R.length, .int .i64 E]) /\ Row w' p' R /\ Dn w w' := by
 have HB := Lib.hid (fun W (h : Dn w W) => rsCheck p cap L W (by omega) hI (hR.dn h))
 by_cases hc : chkL L = 0
 rotate_left
 · obtain rfl : E = chkL L := by rw [hE, fin3_bad hc]
   obtain rfl : R = [] := by rw [hRR, res3_bad hc]
   have d0 : (chkL L != 0) = true := by simpa using hc
   clear hE hRR hc hR hI; generalize chkL L = c at *; go_enter Tryz.func17, Tryz.ntmps17; go_wp2_with fail; refine (HB.out _ (Dn.refl _)).mono ?_; rintro e w1 ⟨rfl, qw1⟩; have uw1 := qw1; clear qw1; go_wp2_with fail; go_ret2; exact ⟨none, rfl, rownil _, uw1⟩
 · have ss := chk_ok hI hc
   rw [hc] at HB hE hRR; have HC := Lib.hid (fun W (h : Dn w W) => rsComplementIn p cap L W (by omega) ss (hR.dn h)); have HL := Lib.hid (fun W p' cp (h1 : (cplL L).length <= cp) (h2 : cp <= 9223372036854775807) hr => lim_ok p' cp (cplL L) W E R hE hRR h1 h2 hr); clear hc hI hE hRR ss hR; generalize cplL L = M at *; go_enter Tryz.func17, Tryz.ntmps17; go_wp2_with fail; refine (HB.out _ (Dn.refl _)).mono ?_; rintro e w1 ⟨rfl, qw1⟩; have uw1 := qw1; clear qw1; go_wp2_with fail; refine (HC.out _ uw1).mono ?_; rintro e wc ⟨pc, cc, rfl, c1, c2, hrc, qc⟩; have HRC := Lib.hid hrc; have HCC := Lib.hid (And.intro c1 c2); clear hrc c1 c2; have uc := uw1.trans qc; clear qc; go_wp2_with fail; refine (HL.out _ pc cc HCC.out.1 HCC.out.2 HRC.out).mono ?_; rintro e wl ⟨p2, rfl, hr2, ql⟩; have HR2 := Lib.hid hr2; clear hr2; go_wp2_with fail; go_ret2
   first | exact ⟨p2, rfl, HR2.out, uc.trans ql⟩ | exact ⟨⟨p2, rfl⟩, HR2.out, uc.trans ql⟩
theorem preKn58x1 (w : World) : ∃ W1, W1 = w.alloc (.cells #[.int .i8 0, .int .i64 0] 41) /\ (Dn w W1) /\ (W1.cell? ⟨w.heap.size, 0, none⟩ = some (.int .i8 0)) /\ (W1.cell? ⟨w.heap.size, 1, none⟩ = some (.int .i64 0)) /\ (w.heap.size < W1.heap.size) /\ (W1.frozen? ⟨w.heap.size, 0, none⟩ = false) /\ (W1.frozen? ⟨w.heap.size, 1, none⟩ = false) := by
 obtain ⟨W1, hW1⟩ : ∃ W1, W1 = w.alloc (.cells #[.int .i8 0, .int .i64 0] 41) := ⟨_, rfl⟩
 refine ⟨W1, hW1, (by rw [hW1]; exact (Dn.refl _).alloc _), ?_, ?_, ?_, ?_, ?_⟩ <;> rw [hW1] <;> first | (simp [go_sem]; done) | (simp <;> omega)
theorem rsMin (p : Option Addr) (cap : Nat) (L : List Rq) (i d E : Int) (w : World) (hv : (chkL L ≠ 0 /\ i = 0 /\ d = 0 /\ E = chkL L) \/ (chkL L = 0 /\ L = [] /\ i = 0 /\ d = 0 /\ E = 17) \/ (chkL L = 0 /\ ∃ x, L[0]? = some x /\ i = x.a /\ d = x.b /\ E = 0)) (hl : L.length <= 100000) (hI : I6 L) (hR : Row w p L) :
   Calls Tryz.prog 21 #[.slice p L.length cap] w fun ro w' => ro = .returned (.tuple #[.agg #[.int .i8 i, .int .i64 d], .int .i64 E]) /\ Dn w w' := by
 have HB := Lib.hid (fun W (h : Dn w W) => rsCheck p cap L W (by omega) hI (hR.dn h))
 by_cases hc : chkL L = 0
 rotate_left
 · have d0 : (chkL L != 0) = true := by simpa using hc
   obtain ⟨rfl, rfl, rfl⟩ : i = 0 /\ d = 0 /\ E = chkL L := by
     rcases hv with ⟨_, h⟩ | ⟨h, _⟩ | ⟨h, _⟩
     · exact h
     · exact absurd h hc
     · exact absurd h hc
   clear hv hc hR hI; generalize chkL L = c at *; go_enter Tryz.func21, Tryz.ntmps21; go_wp2_with fail; obtain ⟨W1, hW1, uW1, c2, c3, l4, f5, f6⟩ := preKn58x1 w; rw [<- hW1]; clear hW1; refine (HB.out _ uW1).mono ?_; rintro e w1 ⟨rfl, qw1⟩; have f7 := fz qw1 f5 l4; have f8 := fz qw1 f6 l4; have l9 := nlt l4 qw1.size; have c10 := qw1.cell c2; have c11 := qw1.cell c3; clear f5 f6 l4 c2 c3; have uw1 := uW1.trans qw1; clear qw1 uW1; go_wp2_with fail; exact bodyPost_ret (v := .tuple #[.agg #[.int .i8 0, .int .i64 0], .int .i64 c]) (by simp [results, Tryz.results21, go_sem, c10, c11, f7, f8] <;> omega) rfl ⟨rfl, ((uw1.sC).sC)⟩
 · rw [hc] at HB
   clear hI; rcases hv with ⟨h, _⟩ | ⟨_, rfl, rfl, rfl, rfl⟩ | ⟨_, x, hx, rfl, rfl, rfl⟩
   · exact absurd hc h
   · clear hc hR
     simp only [List.length_nil] at *; go_enter Tryz.func21, Tryz.ntmps21; go_wp2_with fail; obtain ⟨W1, hW1, uW1, c2, c3, l4, f5, f6⟩ := preKn58x1 w; rw [<- hW1]; clear hW1; refine (HB.out _ uW1).mono ?_; rintro e w1 ⟨rfl, qw1⟩; have f7 := fz qw1 f5 l4; have f8 := fz qw1 f6 l4; have l9 := nlt l4 qw1.size; have c10 := qw1.cell c2; have c11 := qw1.cell c3; clear f5 f6 l4 c2 c3; have uw1 := uW1.trans qw1; clear qw1 uW1; go_wp2_with fail; exact bodyPost_ret (v := .tuple #[.agg #[.int .i8 0, .int .i64 0], .int .i64 17]) (by simp [results, Tryz.results21, go_sem, c10, c11, f7, f8] <;> omega) rfl ⟨rfl, ((uw1.sC).sC)⟩
   · obtain ⟨hlx, -⟩ := List.getElem?_eq_some_iff.1 hx
     obtain ⟨g, o, rfl, hcs⟩ := hR.cs (by omega); obtain ⟨m, hm⟩ : ∃ m, L.length = m + 1 := ⟨L.length - 1, by omega⟩; have HCS := Lib.hid hcs; have HX := Lib.hid hx; clear hcs hx hlx hc hR; have hmb : m <= 100000 := (by omega); rw [hm] at HB ⊢; clear hm hl; have hm0 : (((m : Int) + 1) == 0) = false := (by simp; omega); have hmp : (0 : Int) < (m : Int) + 1 := (by omega); have hwm : IntKind.i64.wrap (m : Int) = m := IntWalk.i64_in _ (by omega); have hmt : (m : Int) < (m : Int) + 1 := (by omega); go_enter Tryz.func21, Tryz.ntmps21; go_wp2_with fail; obtain ⟨W1, hW1, uW1, c2, c3, l4, f5, f6⟩ := preKn58x1 w; rw [<- hW1]; clear hW1; refine (HB.out _ uW1).mono ?_; rintro e w1 ⟨rfl, qw1⟩; have f7 := fz qw1 f5 l4; have f8 := fz qw1 f6 l4; have l9 := nlt l4 qw1.size; have c10 := qw1.cell c2; have c11 := qw1.cell c3; clear f5 f6 l4 c2 c3; have uw1 := uW1.trans qw1; clear qw1 uW1; obtain ⟨x0, x1, x2, x3⟩ := (HCS.out.dn uw1).el _ _ HX.out; simp only [Nat.zero_mul, Nat.add_zero] at x0 x1 x2 x3; go_wp2_with fail; exact bodyPost_ret (v := .tuple #[.agg #[.int .i8 x.a, .int .i64 x.b], .int .i64 0]) (by simp [results, Tryz.results21, go_sem, c10, c11, f7, f8] <;> omega) rfl ⟨rfl, ((uw1.sC).sC)⟩
theorem rsMax (p : Option Addr) (cap : Nat) (L : List Rq) (i d E : Int) (w : World) (hv : (chkL L ≠ 0 /\ i = 0 /\ d = 0 /\ E = chkL L) \/ (chkL L = 0 /\ L = [] /\ i = 0 /\ d = 0 /\ E = 17) \/ (chkL L = 0 /\ ∃ x, L[L.length - 1]? = some x /\ i = x.c /\ d = x.d /\ E = 0)) (hl : L.length <= 100000) (hI : I6 L) (hR : Row w p L) :
   Calls Tryz.prog 22 #[.slice p L.length cap] w fun ro w' => ro = .returned (.tuple #[.agg #[.int .i8 i, .int .i64 d], .int .i64 E]) /\ Dn w w' := by
 have HB := Lib.hid (fun W (h : Dn w W) => rsCheck p cap L W (by omega) hI (hR.dn h))
 by_cases hc : chkL L = 0
 rotate_left
 · have d0 : (chkL L != 0) = true := by simpa using hc
   obtain ⟨rfl, rfl, rfl⟩ : i = 0 /\ d = 0 /\ E = chkL L := by
     rcases hv with ⟨_, h⟩ | ⟨h, _⟩ | ⟨h, _⟩
     · exact h
     · exact absurd h hc
     · exact absurd h hc
   clear hv hc hR hI; generalize chkL L = c at *; go_enter Tryz.func22, Tryz.ntmps22; go_wp2_with fail; obtain ⟨W1, hW1, uW1, c2, c3, l4, f5, f6⟩ := preKn58x1 w; rw [<- hW1]; clear hW1; refine (HB.out _ uW1).mono ?_; rintro e w1 ⟨rfl, qw1⟩; have f7 := fz qw1 f5 l4; have f8 := fz qw1 f6 l4; have l9 := nlt l4 qw1.size; have c10 := qw1.cell c2; have c11 := qw1.cell c3; clear f5 f6 l4 c2 c3; have uw1 := uW1.trans qw1; clear qw1 uW1; go_wp2_with fail; exact bodyPost_ret (v := .tuple #[.agg #[.int .i8 0, .int .i64 0], .int .i64 c]) (by simp [results, Tryz.results22, go_sem, c10, c11, f7, f8] <;> omega) rfl ⟨rfl, ((uw1.sC).sC)⟩
 · rw [hc] at HB
   clear hI; rcases hv with ⟨h, _⟩ | ⟨_, rfl, rfl, rfl, rfl⟩ | ⟨_, x, hx, rfl, rfl, rfl⟩
   · exact absurd hc h
   · clear hc hR
     simp only [List.length_nil] at *; go_enter Tryz.func22, Tryz.ntmps22; go_wp2_with fail; obtain ⟨W1, hW1, uW1, c2, c3, l4, f5, f6⟩ := preKn58x1 w; rw [<- hW1]; clear hW1; refine (HB.out _ uW1).mono ?_; rintro e w1 ⟨rfl, qw1⟩; have f7 := fz qw1 f5 l4; have f8 := fz qw1 f6 l4; have l9 := nlt l4 qw1.size; have c10 := qw1.cell c2; have c11 := qw1.cell c3; clear f5 f6 l4 c2 c3; have uw1 := uW1.trans qw1; clear qw1 uW1; go_wp2_with fail; exact bodyPost_ret (v := .tuple #[.agg #[.int .i8 0, .int .i64 0], .int .i64 17]) (by simp [results, Tryz.results22, go_sem, c10, c11, f7, f8] <;> omega) rfl ⟨rfl, ((uw1.sC).sC)⟩
   · obtain ⟨hlx, -⟩ := List.getElem?_eq_some_iff.1 hx
     obtain ⟨g, o, rfl, hcs⟩ := hR.cs (by omega); obtain ⟨m, hm⟩ : ∃ m, L.length = m + 1 := ⟨L.length - 1, by omega⟩; have HCS := Lib.hid hcs; have HX := Lib.hid hx; clear hcs hx hlx hc hR; have hmb : m <= 100000 := (by omega); rw [hm] at HB HX ⊢; clear hm hl; have hm0 : (((m : Int) + 1) == 0) = false := (by simp; omega); have hmp : (0 : Int) < (m : Int) + 1 := (by omega); have hwm : IntKind.i64.wrap (m : Int) = m := IntWalk.i64_in _ (by omega); have hmt : (m : Int) < (m : Int) + 1 := (by omega); go_enter Tryz.func22, Tryz.ntmps22; go_wp2_with fail; obtain ⟨W1, hW1, uW1, c2, c3, l4, f5, f6⟩ := preKn58x1 w; rw [<- hW1]; clear hW1; refine (HB.out _ uW1).mono ?_; rintro e w1 ⟨rfl, qw1⟩; have f7 := fz qw1 f5 l4; have f8 := fz qw1 f6 l4; have l9 := nlt l4 qw1.size; have c10 := qw1.cell c2; have c11 := qw1.cell c3; clear f5 f6 l4 c2 c3; have uw1 := uW1.trans qw1; clear qw1 uW1; obtain ⟨x0, x1, x2, x3⟩ := (HCS.out.dn uw1).el _ _ HX.out; simp only [Nat.add_sub_cancel] at x0 x1 x2 x3; go_wp2_with fail; exact bodyPost_ret (v := .tuple #[.agg #[.int .i8 x.c, .int .i64 x.d], .int .i64 0]) (by simp [results, Tryz.results22, go_sem, c10, c11, f7, f8] <;> omega) rfl ⟨rfl, ((uw1.sC).sC)⟩
end Go.Proofs.YtoghoddjkdoohaaGreatDoor
