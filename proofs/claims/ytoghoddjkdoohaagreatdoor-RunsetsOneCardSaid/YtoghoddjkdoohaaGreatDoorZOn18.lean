/- Walks and laws that the claim's theorem leans on: part 18. -/
import Derived.Test.YtoghoddjkdoohaaGreatDoorZOn1
import Derived.Test.YtoghoddjkdoohaaGreatDoorZOn17
namespace Go.Proofs.YtoghoddjkdoohaaGreatDoor
set_option maxHeartbeats 4000000
set_option maxRecDepth 100000
open Go.RowKit
set_option linter.unusedVariables false
set_option linter.unusedSimpArgs false
def cntL (L : List Rq) : Int × Int := if chkL L ≠ 0 then (0, chkL L) else if L.any infB = true then (0, 16) else cntP 0 L
theorem cnt_at {L : List Rq} {k : Nat} {x : Rq} {acc : Int} (h : L[k]? = some x) : cntP acc (L.drop k) = if I64 (x.d - x.b + 1) then (if I64 (acc + (x.d - x.b + 1)) then cntP (acc + (x.d - x.b + 1)) (L.drop (k + 1)) else (0, 15)) else (0, 15) := by
 obtain ⟨hl, rfl⟩ := List.getElem?_eq_some_iff.1 h
 rw [List.drop_eq_getElem_cons hl]; rfl
theorem rsCount (p : Option Addr) (cap : Nat) (L : List Rq) (n E : Int) (w : World) (hn : n = (cntL L).1) (hE : E = (cntL L).2) (hl : L.length ≤ 100000) (hI : I6 L) (hR : Row w p L) :
   Calls Tryz.prog 19 #[.slice p L.length cap] w fun ro w' => ro = .returned (.tuple #[.int .i64 n, .int .i64 E]) ∧ Dn w w' := by
 have HB := Lib.hid (fun W (h : Dn w W) => rsCheck p cap L W (by omega) hI (hR.dn h))
 have HC := Lib.hid (fun W (h : Dn w W) => slContC p cap L W (by omega) (hR.dn h))
 by_cases hc : chkL L = 0
 rotate_left
 · have d0 : (chkL L != 0) = true := by simpa using hc
   obtain ⟨rfl, rfl⟩ : n = 0 ∧ E = chkL L := by unfold cntL at hn hE; rw [if_pos hc] at hn hE; exact ⟨hn, hE⟩
   clear hn hE hc hR hI
   generalize chkL L = c at *
   go_enter Tryz.func19, Tryz.ntmps19
   go_wp2_with fail
   refine (HB.out _ (Dn.refl _)).mono ?_
   rintro e w1 ⟨rfl, qw1⟩
   have uw1 := qw1
   clear qw1
   go_wp2_with fail
   go_ret2
   exact ⟨rfl, uw1⟩
 rw [hc] at HB
 have hok := Sep.all (chk_ok hI hc)
 have e0 : cntL L = if L.any infB = true then (0, 16) else cntP 0 L := by unfold cntL; rw [if_neg (by simpa using hc)]
 rw [e0] at hn hE
 clear e0 hc hI
 by_cases ha : L.any infB = true
 · rw [if_pos ha] at hn hE
   rw [ha] at HC
   subst hn hE
   clear hok ha hR
   go_enter Tryz.func19, Tryz.ntmps19
   go_wp2_with fail
   refine (HB.out _ (Dn.refl _)).mono ?_
   rintro e w1 ⟨rfl, qw1⟩
   have uw1 := qw1
   clear qw1
   go_wp2_with fail
   refine (HC.out _ uw1).mono ?_
   rintro e w2 ⟨rfl, qw2⟩
   have uw2 := uw1.trans qw2
   clear qw2 uw1
   go_wp2_with fail
   go_ret2
   exact ⟨rfl, uw2⟩
 · rw [if_neg ha] at hn hE
   rw [show L.any infB = false by simpa using ha] at HC
   have hinf : ∀ x ∈ L, x.a = 0 ∧ x.c = 0 := by
    intro x hx
    have h1 : L.any infB = false := by simpa using ha
    rw [List.any_eq_false] at h1
    have h2 := h1 x hx
    unfold infB at h2
    simp at h2
    exact h2
   have HN := Lib.hid hn
   have HE := Lib.hid hE
   have HOK := Lib.hid hok
   have HINF := Lib.hid hinf
   clear hn hE ha hok hinf
   go_enter Tryz.func19, Tryz.ntmps19
   go_wp2_with fail
   refine (HB.out _ (Dn.refl _)).mono ?_
   rintro e w1 ⟨rfl, qw1⟩
   have uw1 := qw1
   clear qw1
   go_wp2_with fail
   refine (HC.out _ uw1).mono ?_
   rintro e w2 ⟨rfl, qw2⟩
   have uw2 := uw1.trans qw2
   clear qw2 uw1
   go_wp2_with fail
   go_loopw [2, 3, 5, 19] (fun r1 r2 av iv wr => r1 = .int .i64 0 ∧ r2 = .int .i64 0 ∧ ∃ (k : Nat) (acc : Int), k ≤ L.length ∧ iv = .int .i64 k ∧ av = .int .i64 acc ∧ I64 acc ∧ cntP 0 L = cntP acc (L.drop k) ∧ Dn w wr) (fun _ _ _ iv _ => L.length - (intOf iv).toNat)
   case atStart => exact ⟨rfl, rfl, 0, 0, by omega, rfl, rfl, by decide, rfl, uw2⟩
   case round =>
    obtain ⟨rfl, rfl, k, acc, hk, rfl, rfl, hacc, hcnt, hu⟩ := hrel
    have HCN := Lib.hid hcnt
    clear hcnt
    by_cases hlt : k < L.length
    · have d1 : decide ((k : Int) < L.length) = true := by simp; omega
      obtain ⟨x, hx⟩ : ∃ x, L[k]? = some x := ⟨L[k], by simp [hlt]⟩
      obtain ⟨g, o, rfl, hc⟩ := hR.cs (by omega)
      obtain ⟨a0, a1, a2, a3⟩ := (hc.dn hu).el _ _ hx
      have HX := Lib.hid hx
      have hxo := HOK.out x (List.mem_of_getElem? hx)
      have hx0 := HINF.out x (List.mem_of_getElem? hx)
      have hat := cnt_at (acc := acc) hx
      have HLN := Lib.hid (fun n e W h => rnLen x.a x.b x.c x.d n e W hxo.1 hxo.2.1 (Or.inr (Or.inr ⟨hxo.2.2, hx0.1, hx0.2, h⟩)))
      clear hx hc hR hxo hx0
      by_cases hy : I64 (x.d - x.b + 1)
      · rw [if_pos hy] at hat
        have HL2 := Lib.hid (fun W => HLN.out _ _ W (Or.inl ⟨hy, rfl, rfl⟩))
        clear HLN
        generalize x.d - x.b + 1 = y at *
        by_cases hz : I64 (acc + y)
        · rw [if_pos hz] at hat
          have HAT := Lib.hid (HCN.out.trans hat)
          have HZ := Lib.hid hz
          have HA := Lib.hid (fun W => add_fits acc y W hacc hy hz)
          clear hat hy hacc hz
          go_wp2_with fail
          clear a0 a1 a2 a3
          obtain ⟨W1, hW1⟩ : ∃ W1, W1 = wr.alloc (.cells #[.int .i8 x.a, .int .i64 x.b, .int .i8 x.c, .int .i64 x.d] 45) := ⟨_, rfl⟩
          have uW1 : Dn wr W1 := by rw [hW1]; exact (Dn.refl _).alloc _
          have c2 : W1.cell? ⟨wr.heap.size, 0, none⟩ = some (.int .i8 x.a) := by rw [hW1]; simp [go_sem]
          have c3 : W1.cell? ⟨wr.heap.size, 1, none⟩ = some (.int .i64 x.b) := by rw [hW1]; simp [go_sem]
          have c4 : W1.cell? ⟨wr.heap.size, 2, none⟩ = some (.int .i8 x.c) := by rw [hW1]; simp [go_sem]
          have c5 : W1.cell? ⟨wr.heap.size, 3, none⟩ = some (.int .i64 x.d) := by rw [hW1]; simp [go_sem]
          have l6 : wr.heap.size < W1.heap.size := by rw [hW1]; simp <;> omega
          rw [← hW1]
          clear hW1
          have vW1 := hu.trans uW1
          clear uW1 hu
          refine (HL2.out _).mono ?_
          rintro e w1 ⟨rfl, qw1⟩
          have l7 := nlt l6 qw1.size
          obtain ⟨c8, c9, a4, a5⟩ := mv4 qw1.cell c2 c3 c4 c5
          clear l6 c2 c3 c4 c5
          have uw1 := vW1.trans qw1
          clear qw1 vW1
          go_wp2_with fail
          refine (HA.out _).mono ?_
          rintro e w2 ⟨rfl, qw2⟩
          replace qw2 := qw2.dn
          have a6 := nlt l7 qw2.size
          obtain ⟨a7, a8, a9, aA⟩ := mv4 qw2.cell c8 c9 a4 a5
          clear l7 c8 c9 a4 a5
          have uw2 := uw1.trans qw2
          clear qw2 uw1
          go_wp2_with fail
          go_roundw
          case rel => exact ⟨rfl, rfl, k + 1, acc + y, by omega, by simp, rfl, HZ.out, HAT.out, uw2⟩
          case measure => simp [intOf]; omega
        · rw [if_neg hz] at hat
          obtain ⟨rfl, rfl⟩ : n = 0 ∧ E = 15 := by rw [HN.out, HE.out, HCN.out, hat]; exact ⟨rfl, rfl⟩
          have HA := Lib.hid (fun W => add_over acc y W hacc hy hz)
          clear hat hy hacc hz
          go_wp2_with fail
          clear a0 a1 a2 a3
          obtain ⟨W1, hW1⟩ : ∃ W1, W1 = wr.alloc (.cells #[.int .i8 x.a, .int .i64 x.b, .int .i8 x.c, .int .i64 x.d] 45) := ⟨_, rfl⟩
          have uW1 : Dn wr W1 := by rw [hW1]; exact (Dn.refl _).alloc _
          have c2 : W1.cell? ⟨wr.heap.size, 0, none⟩ = some (.int .i8 x.a) := by rw [hW1]; simp [go_sem]
          have c3 : W1.cell? ⟨wr.heap.size, 1, none⟩ = some (.int .i64 x.b) := by rw [hW1]; simp [go_sem]
          have c4 : W1.cell? ⟨wr.heap.size, 2, none⟩ = some (.int .i8 x.c) := by rw [hW1]; simp [go_sem]
          have c5 : W1.cell? ⟨wr.heap.size, 3, none⟩ = some (.int .i64 x.d) := by rw [hW1]; simp [go_sem]
          have l6 : wr.heap.size < W1.heap.size := by rw [hW1]; simp <;> omega
          rw [← hW1]
          clear hW1
          have vW1 := hu.trans uW1
          clear uW1 hu
          refine (HL2.out _).mono ?_
          rintro e w1 ⟨rfl, qw1⟩
          have l7 := nlt l6 qw1.size
          obtain ⟨c8, c9, a4, a5⟩ := mv4 qw1.cell c2 c3 c4 c5
          clear l6 c2 c3 c4 c5
          have uw1 := vW1.trans qw1
          clear qw1 vW1
          go_wp2_with fail
          refine (HA.out _).mono ?_
          rintro e w2 ⟨rfl, qw2⟩
          replace qw2 := qw2.dn
          have a6 := nlt l7 qw2.size
          obtain ⟨a7, a8, a9, aA⟩ := mv4 qw2.cell c8 c9 a4 a5
          clear l7 c8 c9 a4 a5
          have uw2 := uw1.trans qw2
          clear qw2 uw1
          go_wp2_with fail
          go_ret2
          exact ⟨rfl, uw2⟩
      · rw [if_neg hy] at hat
        obtain ⟨rfl, rfl⟩ : n = 0 ∧ E = 15 := by rw [HN.out, HE.out, HCN.out, hat]; exact ⟨rfl, rfl⟩
        have HL2 := Lib.hid (fun W => HLN.out _ _ W (Or.inr ⟨hy, rfl, rfl⟩))
        clear hat hy hacc HLN
        go_wp2_with fail
        clear a0 a1 a2 a3
        obtain ⟨W1, hW1⟩ : ∃ W1, W1 = wr.alloc (.cells #[.int .i8 x.a, .int .i64 x.b, .int .i8 x.c, .int .i64 x.d] 45) := ⟨_, rfl⟩
        have uW1 : Dn wr W1 := by rw [hW1]; exact (Dn.refl _).alloc _
        have c2 : W1.cell? ⟨wr.heap.size, 0, none⟩ = some (.int .i8 x.a) := by rw [hW1]; simp [go_sem]
        have c3 : W1.cell? ⟨wr.heap.size, 1, none⟩ = some (.int .i64 x.b) := by rw [hW1]; simp [go_sem]
        have c4 : W1.cell? ⟨wr.heap.size, 2, none⟩ = some (.int .i8 x.c) := by rw [hW1]; simp [go_sem]
        have c5 : W1.cell? ⟨wr.heap.size, 3, none⟩ = some (.int .i64 x.d) := by rw [hW1]; simp [go_sem]
        have l6 : wr.heap.size < W1.heap.size := by rw [hW1]; simp <;> omega
        rw [← hW1]
        clear hW1
        have vW1 := hu.trans uW1
        clear uW1 hu
        refine (HL2.out _).mono ?_
        rintro e w1 ⟨rfl, qw1⟩
        have l7 := nlt l6 qw1.size
        obtain ⟨c8, c9, a4, a5⟩ := mv4 qw1.cell c2 c3 c4 c5
        clear l6 c2 c3 c4 c5
        have uw1 := vW1.trans qw1
        clear qw1 vW1
        go_wp2_with fail
        go_ret2
        exact ⟨rfl, uw1⟩
    · obtain rfl : k = L.length := by omega
      have d1 : decide ((L.length : Int) < L.length) = false := by simp
      obtain ⟨rfl, rfl⟩ : n = acc ∧ E = 0 := by rw [HN.out, HE.out, HCN.out]; simp [cntP]
      go_wp2_with fail
      go_ret2
      exact ⟨rfl, hu⟩
def LsR (w' : World) (v : Value) (R : List Rq) : Prop := (R = [] ∧ v = .slice none 0 0) ∨ ∃ g q cap, v = .slice (some ⟨g, q, none⟩) R.length cap ∧ Cs w' g q R
theorem less_end {w w' : World} {base : Nat} {v : Value} {L R : List Rq} (h : OwnQ w' base v L) (e : R = L) (hn : L ≠ []) (u : Dn w w') : ∃ v', Ending.returned v = .returned v' ∧ LsR w' v' R ∧ Dn w w' := by
 subst e
 rcases h.form with ⟨_, h2⟩ | ⟨g, cap, rfl, _, _, _, hc⟩
 · exact absurd h2 hn
 · exact ⟨_, rfl, .inr ⟨g, 0, cap, rfl, hc⟩, u⟩
theorem rfLess (r s : Rq) (w : World) (hr : r.ok) (hs : s.ok) :
   Calls Tryz.prog 73 #[.agg #[.int .i8 r.a, .int .i64 r.b, .int .i8 r.c, .int .i64 r.d], .agg #[.int .i8 s.a, .int .i64 s.b, .int .i8 s.c, .int .i64 s.d]] w fun ro w' => ∃ v, ro = .returned v ∧ LsR w' v (lessR r s) ∧ Dn w w' := by
 have hmi := meet_iff (p := r) (x := s) ⟨hr.1, hr.2.1⟩ ⟨hs.1, hs.2.1⟩
 have HRO := Lib.hid hr
 have HSO := Lib.hid hs
 have hO := Lib.hid (fun W => rfMeet r.a r.b r.c r.d s.a s.b s.c s.d W hr.1 hr.2.1 hs.1 hs.2.1 hr.2.2 hs.2.2)
 have hpv := mv_prev hs
 have hnx := mv_next hs
 clear hr hs
 by_cases hm : MeetR r s
 rotate_left
 · have HL : Hid (lessR r s = [r]) := Lib.hid (by unfold lessR; rw [if_neg hm])
   rw [decide_eq_false (fun h => hm (hmi.1 h))] at hO
   clear hm hmi hpv hnx
   go_enter Tryz.func73, Tryz.ntmps73
   go_wp2_with fail
   obtain ⟨W1, hW1⟩ : ∃ W1, W1 = (w.alloc (.cells #[.int .i8 r.a, .int .i64 r.b, .int .i8 r.c, .int .i64 r.d] 45)).alloc (.cells #[.int .i8 s.a, .int .i64 s.b, .int .i8 s.c, .int .i64 s.d] 45) := ⟨_, rfl⟩
   have uW1 : Dn w W1 := by rw [hW1]; exact ((Dn.refl _).alloc _).alloc _
   have c2 : W1.cell? ⟨w.heap.size, 0, none⟩ = some (.int .i8 r.a) := by rw [hW1]; simp [go_sem]
   have c3 : W1.cell? ⟨w.heap.size, 1, none⟩ = some (.int .i64 r.b) := by rw [hW1]; simp [go_sem]
   have c4 : W1.cell? ⟨w.heap.size, 2, none⟩ = some (.int .i8 r.c) := by rw [hW1]; simp [go_sem]
   have c5 : W1.cell? ⟨w.heap.size, 3, none⟩ = some (.int .i64 r.d) := by rw [hW1]; simp [go_sem]
   have l6 : w.heap.size < W1.heap.size := by rw [hW1]; simp <;> omega
   have c7 : W1.cell? ⟨w.heap.size + 1, 0, none⟩ = some (.int .i8 s.a) := by rw [hW1]; simp [go_sem]
   have c8 : W1.cell? ⟨w.heap.size + 1, 1, none⟩ = some (.int .i64 s.b) := by rw [hW1]; simp [go_sem]
   have c9 : W1.cell? ⟨w.heap.size + 1, 2, none⟩ = some (.int .i8 s.c) := by rw [hW1]; simp [go_sem]
   have cY : W1.cell? ⟨w.heap.size + 1, 3, none⟩ = some (.int .i64 s.d) := by rw [hW1]; simp [go_sem]
   have cX : w.heap.size + 1 < W1.heap.size := by rw [hW1]; simp <;> omega
   rw [← hW1]
   clear hW1
   refine (hO.out _).mono ?_
   rintro e w1 ⟨rfl, qw1⟩
   have bZ := nlt l6 qw1.size
   have cB := nlt cX qw1.size
   obtain ⟨c0, c1, c6, cA, cC, cE, cF, cG⟩ := mv8 qw1.cell c2 c3 c4 c5 c7 c8 c9 cY
   clear l6 c2 c3 c4 c5 cX c7 c8 c9 cY
   have uw1 := uW1.trans qw1
   clear qw1 uW1
   go_wp2_with fail
   go_ret
   refine ⟨_, rfl, Or.inr ⟨w1.heap.size, 0, 1, by rw [HL.out]; rfl, ?_⟩, uw1.alloc _⟩
   rw [HL.out]
   refine ⟨by simp, fun k x hx => ?_⟩
   cases k with
   | zero => simp at hx; subst hx; exact ⟨by simp [go_sem], by simp [go_sem], by simp [go_sem], by simp [go_sem]⟩
   | succ k => simp at hx
 rw [decide_eq_true (hmi.2 hm)] at hO
 have HL : Hid (lessR r s = (if s.a = 0 ∧ -9223372036854775808 < s.b ∧ r.lo ≤ s.b - 1 then [⟨r.a, r.b, 0, s.b - 1⟩] else []) ++ (if s.c = 0 ∧ s.d < 9223372036854775807 ∧ s.d + 1 ≤ r.hi then [⟨0, s.d + 1, r.c, r.d⟩] else [])) := Lib.hid (by unfold lessR; rw [if_pos hm])
 clear hm hmi
 have HNX := Lib.hid hnx
 clear hnx
 go_enter Tryz.func73, Tryz.ntmps73
 go_wp2_with fail
 obtain ⟨W1, hW1⟩ : ∃ W1, W1 = (w.alloc (.cells #[.int .i8 r.a, .int .i64 r.b, .int .i8 r.c, .int .i64 r.d] 45)).alloc (.cells #[.int .i8 s.a, .int .i64 s.b, .int .i8 s.c, .int .i64 s.d] 45) := ⟨_, rfl⟩
 have uW1 : Dn w W1 := by rw [hW1]; exact ((Dn.refl _).alloc _).alloc _
 have c2 : W1.cell? ⟨w.heap.size, 0, none⟩ = some (.int .i8 r.a) := by rw [hW1]; simp [go_sem]
 have c3 : W1.cell? ⟨w.heap.size, 1, none⟩ = some (.int .i64 r.b) := by rw [hW1]; simp [go_sem]
 have c4 : W1.cell? ⟨w.heap.size, 2, none⟩ = some (.int .i8 r.c) := by rw [hW1]; simp [go_sem]
 have c5 : W1.cell? ⟨w.heap.size, 3, none⟩ = some (.int .i64 r.d) := by rw [hW1]; simp [go_sem]
 have l6 : w.heap.size < W1.heap.size := by rw [hW1]; simp <;> omega
 have c7 : W1.cell? ⟨w.heap.size + 1, 0, none⟩ = some (.int .i8 s.a) := by rw [hW1]; simp [go_sem]
 have c8 : W1.cell? ⟨w.heap.size + 1, 1, none⟩ = some (.int .i64 s.b) := by rw [hW1]; simp [go_sem]
 have c9 : W1.cell? ⟨w.heap.size + 1, 2, none⟩ = some (.int .i8 s.c) := by rw [hW1]; simp [go_sem]
 have cY : W1.cell? ⟨w.heap.size + 1, 3, none⟩ = some (.int .i64 s.d) := by rw [hW1]; simp [go_sem]
 have cX : w.heap.size + 1 < W1.heap.size := by rw [hW1]; simp <;> omega
 rw [← hW1]
 clear hW1
 have hbl : w.heap.size + 1 + 1 ≤ W1.heap.size := by have := cX; omega
 have HBL := Lib.hid hbl
 clear hbl
 have HD1 := Lib.hid uW1
 refine (hO.out _).mono ?_
 rintro e w1 ⟨rfl, qw1⟩
 have bZ := nlt l6 qw1.size
 have cB := nlt cX qw1.size
 obtain ⟨c0, c1, c6, cA, cC, cE, cF, cG⟩ := mv8 qw1.cell c2 c3 c4 c5 c7 c8 c9 cY
 clear l6 c2 c3 c4 c5 cX c7 c8 c9 cY
 have uw1 := uW1.trans qw1
 clear qw1 uW1
 go_upto_region 4 with fail
 have hown : OwnQ w1 (w.heap.size + 1 + 1) (.slice none 0 0) [] := OwnQ.nil _ _
 generalize hov : Value.slice none 0 0 = ov at *
 have HOV := Lib.hid hov
 clear hov
 rcases hpv with ⟨pa, pb, hp⟩ | ⟨pa, pb, hp⟩ | ⟨pa, hp⟩
 by_cases hcmp : r.lo ≤ s.b - 1
 ·
   have HG1 : Hid ((if s.a = 0 ∧ -9223372036854775808 < s.b ∧ r.lo ≤ s.b - 1 then [(⟨r.a, r.b, 0, s.b - 1⟩ : Rq)] else []) = [⟨r.a, r.b, 0, s.b - 1⟩]) := Lib.hid (by rw [if_pos ⟨pa, pb, hcmp⟩])
   have HP1 := Lib.hid (fun W => rPrev8 s.a s.b 0 (s.b - 1) 0 W HSO.out.1 hp)
   have hI1 : I64 (s.b - 1) := by have := HSO.out.1; unfold I64 at *; omega
   have hke := eC_le (i := r.a) (j := 0) HRO.out.1 hI1
   have hk0 : key 0 (s.b - 1) = s.b - 1 := by unfold key; omega
   rw [hk0] at hke
   have hCm1 := Lib.hid (fun W => rCmp8 r.a r.b 0 (s.b - 1) W)
   have dc1 : decide (eC r.a r.b 0 (s.b - 1) ≤ 0) = true := by rw [decide_eq_true_iff]; exact hke.2 hcmp
   clear hke hk0 hcmp hI1
   generalize eC r.a r.b 0 (s.b - 1) = n1 at *
   generalize s.b - 1 = xm at *
   clear hp pa pb
   go_wp2_with fail
   refine (HP1.out _).mono ?_
   rintro e w2 ⟨rfl, qw2⟩
   replace qw2 := qw2.dn
   replace hown := hown.dn qw2
   have bF := nlt bZ qw2.size
   have bK := nlt cB qw2.size
   obtain ⟨bG, bH, bI, bJ, bL, bM, bN, bO⟩ := mv8 qw2.cell c0 c1 c6 cA cC cE cF cG
   clear bZ c0 c1 c6 cA cB cC cE cF cG
   have uw2 := uw1.trans qw2
   clear qw2 uw1
   go_wp2_with fail
   obtain ⟨W52, hW52⟩ : ∃ W52, W52 = w2.alloc (.cells #[.int .i8 0, .int .i64 xm] 41) := ⟨_, rfl⟩
   have uW52 : Dn w2 W52 := by rw [hW52]; exact (Dn.refl _).alloc _
   replace hown := hown.dn uW52
   have aA := nlt bF uW52.size
   have aF := nlt bK uW52.size
   obtain ⟨aB, aC, aD, aE, aG, aH, aI, aJ⟩ := mv8 uW52.cell bG bH bI bJ bL bM bN bO
   clear bF bG bH bI bJ bK bL bM bN bO
   have cH : W52.cell? ⟨w2.heap.size, 0, none⟩ = some (.int .i8 0) := by rw [hW52]; simp [go_sem]
   have cI : W52.cell? ⟨w2.heap.size, 1, none⟩ = some (.int .i64 xm) := by rw [hW52]; simp [go_sem]
   have cJ : w2.heap.size < W52.heap.size := by rw [hW52]; simp <;> omega
   rw [← hW52]
   clear hW52
   have vW52 := uw2.trans uW52
   clear uW52 uw2
   refine (hCm1.out _).mono ?_
   rintro e w3 ⟨rfl, qw3⟩
   replace qw3 := qw3.dn
   replace hown := hown.dn qw3
   have bD := nlt aA qw3.size
   have bE := nlt aF qw3.size
   have cZ := nlt cJ qw3.size
   obtain ⟨bP, bQ, bR, bS, bT, bU, bV, bW, d0, d1⟩ := mv10 qw3.cell aB aC aD aE aG aH aI aJ cH cI
   clear aA aB aC aD aE aF aG aH aI aJ cJ cH cI
   have uw3 := vW52.trans qw3
   clear qw3 vW52
   have HK : Hid (w3.cell? ⟨w.heap.size, 0, none⟩ = some (.int .i8 r.a) ∧ w3.cell? ⟨w.heap.size, 1, none⟩ = some (.int .i64 r.b) ∧ w3.cell? ⟨w.heap.size, 2, none⟩ = some (.int .i8 r.c) ∧ w3.cell? ⟨w.heap.size, 3, none⟩ = some (.int .i64 r.d) ∧ w3.cell? ⟨w.heap.size + 1, 0, none⟩ = some (.int .i8 s.a) ∧ w3.cell? ⟨w.heap.size + 1, 1, none⟩ = some (.int .i64 s.b) ∧ w3.cell? ⟨w.heap.size + 1, 2, none⟩ = some (.int .i8 s.c) ∧ w3.cell? ⟨w.heap.size + 1, 3, none⟩ = some (.int .i64 s.d)) := Lib.hid ⟨bP, bQ, bR, bS, bT, bU, bV, bW⟩
   have hrw := hown.row
   have hbb : w.heap.size + 1 + 1 ≤ w3.heap.size := by have := HBL.out; have := bE; have := bD; omega
   go_wp2_with (at_builtin; refine list_runC rfl _ _ rfl w3 (w.heap.size + 1 + 1) ov ([]) (r.a) (r.b) (0) (xm) rfl hown rfl (by simp) hbb ?_)
   intro v1 wp1 hown' hold hsz hdn
   have hd1 := hdn w uw3 (by omega)
   have hRs := hold (w.heap.size) bD (fun k hk e => by have := (hrw k hk).1; omega)
   have hSs := hold (w.heap.size + 1) bE (fun k hk e => by have := (hrw k hk).1; omega)
   obtain ⟨k0, k1, k2, k3, k4, k5, k6, k7⟩ := HK.out
   have r01 := cell_same hRs k0
   have r11 := cell_same hRs k1
   have r21 := cell_same hRs k2
   have r31 := cell_same hRs k3
   have s01 := cell_same hSs k4
   have s11 := cell_same hSs k5
   have s21 := cell_same hSs k6
   have s31 := cell_same hSs k7
   have rl1 := Nat.lt_of_lt_of_le bD hsz
   have sl1 := Nat.lt_of_lt_of_le bE hsz
   clear hown hold hdn hsz hRs hSs HK k0 k1 k2 k3 k4 k5 k6 k7 hrw hbb bD bE cZ uw3 bP bQ bR bS bT bU bV bW d0 d1
   have hown := hown'
   clear hown'
   try simp only [List.nil_append, List.cons_append] at hown
   rcases HNX.out with ⟨pa, pb, hp⟩ | ⟨pa, pb, hp⟩ | ⟨pa, hp⟩
   by_cases hcmp : s.d + 1 ≤ r.hi
   ·
     have HG2 : Hid ((if s.c = 0 ∧ s.d < 9223372036854775807 ∧ s.d + 1 ≤ r.hi then [(⟨0, s.d + 1, r.c, r.d⟩ : Rq)] else []) = [⟨0, s.d + 1, r.c, r.d⟩]) := Lib.hid (by rw [if_pos ⟨pa, pb, hcmp⟩])
     have HP2 := Lib.hid (fun W => rNext8 s.c s.d 0 (s.d + 1) 0 W HSO.out.2.1 hp)
     have hI1 : I64 (s.d + 1) := by have := HSO.out.2.1; unfold I64 at *; omega
     have hke := eC_le (i := 0) (j := r.c) hI1 HRO.out.2.1
     have hk0 : key 0 (s.d + 1) = s.d + 1 := by unfold key; omega
     rw [hk0] at hke
     have hCm2 := Lib.hid (fun W => rCmp8 0 (s.d + 1) r.c r.d W)
     have dc2 : decide (eC 0 (s.d + 1) r.c r.d ≤ 0) = true := by rw [decide_eq_true_iff]; exact hke.2 hcmp
     clear hke hk0 hcmp hI1
     generalize eC 0 (s.d + 1) r.c r.d = n2 at *
     generalize s.d + 1 = xn at *
     clear hp pa pb
     go_wp2_with fail
     refine (HP2.out _).mono ?_
     rintro e w4 ⟨rfl, qw4⟩
     replace qw4 := qw4.dn
     replace hown := hown.dn qw4
     have aK := nlt rl1 qw4.size
     have aM := nlt sl1 qw4.size
     obtain ⟨a2, a3, aL, a4, a5, a6, a0, a1⟩ := mv8 qw4.cell r01 r11 r21 r31 s01 s11 s21 s31
     clear rl1 r01 r11 r21 r31 sl1 s01 s11 s21 s31
     have uw4 := hd1.trans qw4
     clear qw4 hd1
     go_wp2_with fail
     obtain ⟨W119, hW119⟩ : ∃ W119, W119 = w4.alloc (.cells #[.int .i8 0, .int .i64 xn] 41) := ⟨_, rfl⟩
     have uW119 : Dn w4 W119 := by rw [hW119]; exact (Dn.refl _).alloc _
     replace hown := hown.dn uW119
     have a7 := nlt aK uW119.size
     have a8 := nlt aM uW119.size
     obtain ⟨aN, aO, aP, aQ, aR, aS, aT, aU⟩ := mv8 uW119.cell a2 a3 aL a4 a5 a6 a0 a1
     clear aK a2 a3 aL a4 aM a5 a6 a0 a1
     have b5 : W119.cell? ⟨w4.heap.size, 0, none⟩ = some (.int .i8 0) := by rw [hW119]; simp [go_sem]
     have a9 : W119.cell? ⟨w4.heap.size, 1, none⟩ = some (.int .i64 xn) := by rw [hW119]; simp [go_sem]
     have b6 : w4.heap.size < W119.heap.size := by rw [hW119]; simp <;> omega
     rw [← hW119]
     clear hW119
     have vW119 := uw4.trans uW119
     clear uW119 uw4
     refine (hCm2.out _).mono ?_
     rintro e w5 ⟨rfl, qw5⟩
     replace qw5 := qw5.dn
     replace hown := hown.dn qw5
     have bX := nlt a7 qw5.size
     have bY := nlt a8 qw5.size
     have cS := nlt b6 qw5.size
     obtain ⟨cK, cL, cM, cN, cO, cP, cQ, cR, cT, cU⟩ := mv10 qw5.cell aN aO aP aQ aR aS aT aU b5 a9
     clear a7 aN aO aP aQ a8 aR aS aT aU b6 b5 a9
     have uw5 := vW119.trans qw5
     clear qw5 vW119
     have HK : Hid (w5.cell? ⟨w.heap.size, 0, none⟩ = some (.int .i8 r.a) ∧ w5.cell? ⟨w.heap.size, 1, none⟩ = some (.int .i64 r.b) ∧ w5.cell? ⟨w.heap.size, 2, none⟩ = some (.int .i8 r.c) ∧ w5.cell? ⟨w.heap.size, 3, none⟩ = some (.int .i64 r.d) ∧ w5.cell? ⟨w.heap.size + 1, 0, none⟩ = some (.int .i8 s.a) ∧ w5.cell? ⟨w.heap.size + 1, 1, none⟩ = some (.int .i64 s.b) ∧ w5.cell? ⟨w.heap.size + 1, 2, none⟩ = some (.int .i8 s.c) ∧ w5.cell? ⟨w.heap.size + 1, 3, none⟩ = some (.int .i64 s.d)) := Lib.hid ⟨cK, cL, cM, cN, cO, cP, cQ, cR⟩
     have hrw := hown.row
     have hbb : w.heap.size + 1 + 1 ≤ w5.heap.size := by have := HBL.out; have := bY; have := bX; omega
     go_wp2_with (at_builtin; refine list_runC rfl _ _ rfl w5 (w.heap.size + 1 + 1) v1 ([⟨r.a, r.b, 0, xm⟩]) (0) (xn) (r.c) (r.d) rfl hown rfl (by simp) hbb ?_)
     intro v2 wp2 hown' hold hsz hdn
     have hd2 := hdn w uw5 (by omega)
     have hRs := hold (w.heap.size) bX (fun k hk e => by have := (hrw k hk).1; omega)
     have hSs := hold (w.heap.size + 1) bY (fun k hk e => by have := (hrw k hk).1; omega)
     obtain ⟨k0, k1, k2, k3, k4, k5, k6, k7⟩ := HK.out
     have r02 := cell_same hRs k0
     have r12 := cell_same hRs k1
     have r22 := cell_same hRs k2
     have r32 := cell_same hRs k3
     have s02 := cell_same hSs k4
     have s12 := cell_same hSs k5
     have s22 := cell_same hSs k6
     have s32 := cell_same hSs k7
     have rl2 := Nat.lt_of_lt_of_le bX hsz
     have sl2 := Nat.lt_of_lt_of_le bY hsz
     clear hown hold hdn hsz hRs hSs HK k0 k1 k2 k3 k4 k5 k6 k7 hrw hbb bX bY cS uw5 cK cL cM cN cO cP cQ cR cT cU
     have hown := hown'
     clear hown'
     try simp only [List.nil_append, List.cons_append] at hown
     have HOWN := Lib.hid hown
     clear hown
     go_wp2_with fail
     go_ret
     exact less_end HOWN.out (by rw [HL.out, HG1.out, HG2.out]; rfl) (by simp) hd2
   ·
     have HG2 : Hid ((if s.c = 0 ∧ s.d < 9223372036854775807 ∧ s.d + 1 ≤ r.hi then [(⟨0, s.d + 1, r.c, r.d⟩ : Rq)] else []) = []) := Lib.hid (by rw [if_neg (fun h => hcmp h.2.2)])
     have HP2 := Lib.hid (fun W => rNext8 s.c s.d 0 (s.d + 1) 0 W HSO.out.2.1 hp)
     have hI1 : I64 (s.d + 1) := by have := HSO.out.2.1; unfold I64 at *; omega
     have hke := eC_le (i := 0) (j := r.c) hI1 HRO.out.2.1
     have hk0 : key 0 (s.d + 1) = s.d + 1 := by unfold key; omega
     rw [hk0] at hke
     have hCm2 := Lib.hid (fun W => rCmp8 0 (s.d + 1) r.c r.d W)
     have dc2 : decide (eC 0 (s.d + 1) r.c r.d ≤ 0) = false := by rw [decide_eq_false_iff_not]; exact fun h => hcmp (hke.1 h)
     clear hke hk0 hcmp hI1
     generalize eC 0 (s.d + 1) r.c r.d = n2 at *
     generalize s.d + 1 = xn at *
     clear hp pa pb
     go_wp2_with fail
     refine (HP2.out _).mono ?_
     rintro e w4 ⟨rfl, qw4⟩
     replace qw4 := qw4.dn
     replace hown := hown.dn qw4
     have aK := nlt rl1 qw4.size
     have aM := nlt sl1 qw4.size
     obtain ⟨a2, a3, aL, a4, a5, a6, a0, a1⟩ := mv8 qw4.cell r01 r11 r21 r31 s01 s11 s21 s31
     clear rl1 r01 r11 r21 r31 sl1 s01 s11 s21 s31
     have uw4 := hd1.trans qw4
     clear qw4 hd1
     go_wp2_with fail
     obtain ⟨W119, hW119⟩ : ∃ W119, W119 = w4.alloc (.cells #[.int .i8 0, .int .i64 xn] 41) := ⟨_, rfl⟩
     have uW119 : Dn w4 W119 := by rw [hW119]; exact (Dn.refl _).alloc _
     replace hown := hown.dn uW119
     have a7 := nlt aK uW119.size
     have a8 := nlt aM uW119.size
     obtain ⟨aN, aO, aP, aQ, aR, aS, aT, aU⟩ := mv8 uW119.cell a2 a3 aL a4 a5 a6 a0 a1
     clear aK a2 a3 aL a4 aM a5 a6 a0 a1
     have b5 : W119.cell? ⟨w4.heap.size, 0, none⟩ = some (.int .i8 0) := by rw [hW119]; simp [go_sem]
     have a9 : W119.cell? ⟨w4.heap.size, 1, none⟩ = some (.int .i64 xn) := by rw [hW119]; simp [go_sem]
     have b6 : w4.heap.size < W119.heap.size := by rw [hW119]; simp <;> omega
     rw [← hW119]
     clear hW119
     have vW119 := uw4.trans uW119
     clear uW119 uw4
     refine (hCm2.out _).mono ?_
     rintro e w5 ⟨rfl, qw5⟩
     replace qw5 := qw5.dn
     replace hown := hown.dn qw5
     have bX := nlt a7 qw5.size
     have bY := nlt a8 qw5.size
     have cS := nlt b6 qw5.size
     obtain ⟨cK, cL, cM, cN, cO, cP, cQ, cR, cT, cU⟩ := mv10 qw5.cell aN aO aP aQ aR aS aT aU b5 a9
     clear a7 aN aO aP aQ a8 aR aS aT aU b6 b5 a9
     have uw5 := vW119.trans qw5
     clear qw5 vW119
     clear cT cU cS
     have HOWN := Lib.hid hown
     clear hown
     go_wp2_with fail
     go_ret
     exact less_end HOWN.out (by rw [HL.out, HG1.out, HG2.out]; rfl) (by simp) uw5
   ·
     have HG2 : Hid ((if s.c = 0 ∧ s.d < 9223372036854775807 ∧ s.d + 1 ≤ r.hi then [(⟨0, s.d + 1, r.c, r.d⟩ : Rq)] else []) = []) := Lib.hid (by rw [if_neg (fun h => by have := h.2.1; omega)])
     have HP2 := Lib.hid (fun W => rNext8 s.c s.d 0 0 15 W HSO.out.2.1 hp)
     clear hp pa pb
     go_wp2_with fail
     refine (HP2.out _).mono ?_
     rintro e w4 ⟨rfl, qw4⟩
     replace qw4 := qw4.dn
     replace hown := hown.dn qw4
     have aK := nlt rl1 qw4.size
     have aM := nlt sl1 qw4.size
     obtain ⟨a2, a3, aL, a4, a5, a6, a0, a1⟩ := mv8 qw4.cell r01 r11 r21 r31 s01 s11 s21 s31
     clear rl1 r01 r11 r21 r31 sl1 s01 s11 s21 s31
     have uw4 := hd1.trans qw4
     clear qw4 hd1
     go_upto_region 8 with fail
     obtain ⟨W119, hW119⟩ : ∃ W119, W119 = w4.alloc (.cells #[.int .i8 0, .int .i64 0] 41) := ⟨_, rfl⟩
     have uW119 : Dn w4 W119 := by rw [hW119]; exact (Dn.refl _).alloc _
     replace hown := hown.dn uW119
     have a7 := nlt aK uW119.size
     have a8 := nlt aM uW119.size
     obtain ⟨aN, aO, aP, aQ, aR, aS, aT, aU⟩ := mv8 uW119.cell a2 a3 aL a4 a5 a6 a0 a1
     clear aK a2 a3 aL a4 aM a5 a6 a0 a1
     have b5 : W119.cell? ⟨w4.heap.size, 0, none⟩ = some (.int .i8 0) := by rw [hW119]; simp [go_sem]
     have a9 : W119.cell? ⟨w4.heap.size, 1, none⟩ = some (.int .i64 0) := by rw [hW119]; simp [go_sem]
     have b6 : w4.heap.size < W119.heap.size := by rw [hW119]; simp <;> omega
     rw [← hW119]
     clear hW119
     have vW119 := uw4.trans uW119
     clear uW119 uw4
     go_upto_region 10 with fail
     clear b5 a9 b6
     have HOWN := Lib.hid hown
     clear hown
     go_wp2_with fail
     go_ret
     exact less_end HOWN.out (by rw [HL.out, HG1.out, HG2.out]; rfl) (by simp) vW119
   ·
     have HG2 : Hid ((if s.c = 0 ∧ s.d < 9223372036854775807 ∧ s.d + 1 ≤ r.hi then [(⟨0, s.d + 1, r.c, r.d⟩ : Rq)] else []) = []) := Lib.hid (by rw [if_neg (fun h => pa h.1)])
     have HP2 := Lib.hid (fun W => rNext8 s.c s.d 1 0 0 W HSO.out.2.1 hp)
     clear hp pa
     go_wp2_with fail
     refine (HP2.out _).mono ?_
     rintro e w4 ⟨rfl, qw4⟩
     replace qw4 := qw4.dn
     replace hown := hown.dn qw4
     have aK := nlt rl1 qw4.size
     have aM := nlt sl1 qw4.size
     obtain ⟨a2, a3, aL, a4, a5, a6, a0, a1⟩ := mv8 qw4.cell r01 r11 r21 r31 s01 s11 s21 s31
     clear rl1 r01 r11 r21 r31 sl1 s01 s11 s21 s31
     have uw4 := hd1.trans qw4
     clear qw4 hd1
     go_upto_region 8 with fail
     obtain ⟨W119, hW119⟩ : ∃ W119, W119 = w4.alloc (.cells #[.int .i8 1, .int .i64 0] 41) := ⟨_, rfl⟩
     have uW119 : Dn w4 W119 := by rw [hW119]; exact (Dn.refl _).alloc _
     replace hown := hown.dn uW119
     have a7 := nlt aK uW119.size
     have a8 := nlt aM uW119.size
     obtain ⟨aN, aO, aP, aQ, aR, aS, aT, aU⟩ := mv8 uW119.cell a2 a3 aL a4 a5 a6 a0 a1
     clear aK a2 a3 aL a4 aM a5 a6 a0 a1
     have b5 : W119.cell? ⟨w4.heap.size, 0, none⟩ = some (.int .i8 1) := by rw [hW119]; simp [go_sem]
     have a9 : W119.cell? ⟨w4.heap.size, 1, none⟩ = some (.int .i64 0) := by rw [hW119]; simp [go_sem]
     have b6 : w4.heap.size < W119.heap.size := by rw [hW119]; simp <;> omega
     rw [← hW119]
     clear hW119
     have vW119 := uw4.trans uW119
     clear uW119 uw4
     go_upto_region 10 with fail
     clear b5 a9 b6
     have HOWN := Lib.hid hown
     clear hown
     go_wp2_with fail
     go_ret
     exact less_end HOWN.out (by rw [HL.out, HG1.out, HG2.out]; rfl) (by simp) vW119
 ·
   have HG1 : Hid ((if s.a = 0 ∧ -9223372036854775808 < s.b ∧ r.lo ≤ s.b - 1 then [(⟨r.a, r.b, 0, s.b - 1⟩ : Rq)] else []) = []) := Lib.hid (by rw [if_neg (fun h => hcmp h.2.2)])
   have HP1 := Lib.hid (fun W => rPrev8 s.a s.b 0 (s.b - 1) 0 W HSO.out.1 hp)
   have hI1 : I64 (s.b - 1) := by have := HSO.out.1; unfold I64 at *; omega
   have hke := eC_le (i := r.a) (j := 0) HRO.out.1 hI1
   have hk0 : key 0 (s.b - 1) = s.b - 1 := by unfold key; omega
   rw [hk0] at hke
   have hCm1 := Lib.hid (fun W => rCmp8 r.a r.b 0 (s.b - 1) W)
   have dc1 : decide (eC r.a r.b 0 (s.b - 1) ≤ 0) = false := by rw [decide_eq_false_iff_not]; exact fun h => hcmp (hke.1 h)
   clear hke hk0 hcmp hI1
   generalize eC r.a r.b 0 (s.b - 1) = n1 at *
   generalize s.b - 1 = xm at *
   clear hp pa pb
   go_wp2_with fail
   refine (HP1.out _).mono ?_
   rintro e w2 ⟨rfl, qw2⟩
   replace qw2 := qw2.dn
   replace hown := hown.dn qw2
   have bF := nlt bZ qw2.size
   have bK := nlt cB qw2.size
   obtain ⟨bG, bH, bI, bJ, bL, bM, bN, bO⟩ := mv8 qw2.cell c0 c1 c6 cA cC cE cF cG
   clear bZ c0 c1 c6 cA cB cC cE cF cG
   have uw2 := uw1.trans qw2
   clear qw2 uw1
   go_wp2_with fail
   obtain ⟨W52, hW52⟩ : ∃ W52, W52 = w2.alloc (.cells #[.int .i8 0, .int .i64 xm] 41) := ⟨_, rfl⟩
   have uW52 : Dn w2 W52 := by rw [hW52]; exact (Dn.refl _).alloc _
   replace hown := hown.dn uW52
   have aA := nlt bF uW52.size
   have aF := nlt bK uW52.size
   obtain ⟨aB, aC, aD, aE, aG, aH, aI, aJ⟩ := mv8 uW52.cell bG bH bI bJ bL bM bN bO
   clear bF bG bH bI bJ bK bL bM bN bO
   have cH : W52.cell? ⟨w2.heap.size, 0, none⟩ = some (.int .i8 0) := by rw [hW52]; simp [go_sem]
   have cI : W52.cell? ⟨w2.heap.size, 1, none⟩ = some (.int .i64 xm) := by rw [hW52]; simp [go_sem]
   have cJ : w2.heap.size < W52.heap.size := by rw [hW52]; simp <;> omega
   rw [← hW52]
   clear hW52
   have vW52 := uw2.trans uW52
   clear uW52 uw2
   refine (hCm1.out _).mono ?_
   rintro e w3 ⟨rfl, qw3⟩
   replace qw3 := qw3.dn
   replace hown := hown.dn qw3
   have bD := nlt aA qw3.size
   have bE := nlt aF qw3.size
   have cZ := nlt cJ qw3.size
   obtain ⟨bP, bQ, bR, bS, bT, bU, bV, bW, d0, d1⟩ := mv10 qw3.cell aB aC aD aE aG aH aI aJ cH cI
   clear aA aB aC aD aE aF aG aH aI aJ cJ cH cI
   have uw3 := vW52.trans qw3
   clear qw3 vW52
   clear d0 d1 cZ
   rcases HNX.out with ⟨pa, pb, hp⟩ | ⟨pa, pb, hp⟩ | ⟨pa, hp⟩
   by_cases hcmp : s.d + 1 ≤ r.hi
   ·
     have HG2 : Hid ((if s.c = 0 ∧ s.d < 9223372036854775807 ∧ s.d + 1 ≤ r.hi then [(⟨0, s.d + 1, r.c, r.d⟩ : Rq)] else []) = [⟨0, s.d + 1, r.c, r.d⟩]) := Lib.hid (by rw [if_pos ⟨pa, pb, hcmp⟩])
     have HP2 := Lib.hid (fun W => rNext8 s.c s.d 0 (s.d + 1) 0 W HSO.out.2.1 hp)
     have hI1 : I64 (s.d + 1) := by have := HSO.out.2.1; unfold I64 at *; omega
     have hke := eC_le (i := 0) (j := r.c) hI1 HRO.out.2.1
     have hk0 : key 0 (s.d + 1) = s.d + 1 := by unfold key; omega
     rw [hk0] at hke
     have hCm2 := Lib.hid (fun W => rCmp8 0 (s.d + 1) r.c r.d W)
     have dc2 : decide (eC 0 (s.d + 1) r.c r.d ≤ 0) = true := by rw [decide_eq_true_iff]; exact hke.2 hcmp
     clear hke hk0 hcmp hI1
     generalize eC 0 (s.d + 1) r.c r.d = n2 at *
     generalize s.d + 1 = xn at *
     clear hp pa pb
     go_wp2_with fail
     refine (HP2.out _).mono ?_
     rintro e w4 ⟨rfl, qw4⟩
     replace qw4 := qw4.dn
     replace hown := hown.dn qw4
     have aK := nlt bD qw4.size
     have aM := nlt bE qw4.size
     obtain ⟨a2, a3, aL, a4, a5, a6, a0, a1⟩ := mv8 qw4.cell bP bQ bR bS bT bU bV bW
     clear bD bP bQ bR bS bE bT bU bV bW
     have uw4 := uw3.trans qw4
     clear qw4 uw3
     go_wp2_with fail
     obtain ⟨W119, hW119⟩ : ∃ W119, W119 = w4.alloc (.cells #[.int .i8 0, .int .i64 xn] 41) := ⟨_, rfl⟩
     have uW119 : Dn w4 W119 := by rw [hW119]; exact (Dn.refl _).alloc _
     replace hown := hown.dn uW119
     have a7 := nlt aK uW119.size
     have a8 := nlt aM uW119.size
     obtain ⟨aN, aO, aP, aQ, aR, aS, aT, aU⟩ := mv8 uW119.cell a2 a3 aL a4 a5 a6 a0 a1
     clear aK a2 a3 aL a4 aM a5 a6 a0 a1
     have b5 : W119.cell? ⟨w4.heap.size, 0, none⟩ = some (.int .i8 0) := by rw [hW119]; simp [go_sem]
     have a9 : W119.cell? ⟨w4.heap.size, 1, none⟩ = some (.int .i64 xn) := by rw [hW119]; simp [go_sem]
     have b6 : w4.heap.size < W119.heap.size := by rw [hW119]; simp <;> omega
     rw [← hW119]
     clear hW119
     have vW119 := uw4.trans uW119
     clear uW119 uw4
     refine (hCm2.out _).mono ?_
     rintro e w5 ⟨rfl, qw5⟩
     replace qw5 := qw5.dn
     replace hown := hown.dn qw5
     have bX := nlt a7 qw5.size
     have bY := nlt a8 qw5.size
     have cS := nlt b6 qw5.size
     obtain ⟨cK, cL, cM, cN, cO, cP, cQ, cR, cT, cU⟩ := mv10 qw5.cell aN aO aP aQ aR aS aT aU b5 a9
     clear a7 aN aO aP aQ a8 aR aS aT aU b6 b5 a9
     have uw5 := vW119.trans qw5
     clear qw5 vW119
     have HK : Hid (w5.cell? ⟨w.heap.size, 0, none⟩ = some (.int .i8 r.a) ∧ w5.cell? ⟨w.heap.size, 1, none⟩ = some (.int .i64 r.b) ∧ w5.cell? ⟨w.heap.size, 2, none⟩ = some (.int .i8 r.c) ∧ w5.cell? ⟨w.heap.size, 3, none⟩ = some (.int .i64 r.d) ∧ w5.cell? ⟨w.heap.size + 1, 0, none⟩ = some (.int .i8 s.a) ∧ w5.cell? ⟨w.heap.size + 1, 1, none⟩ = some (.int .i64 s.b) ∧ w5.cell? ⟨w.heap.size + 1, 2, none⟩ = some (.int .i8 s.c) ∧ w5.cell? ⟨w.heap.size + 1, 3, none⟩ = some (.int .i64 s.d)) := Lib.hid ⟨cK, cL, cM, cN, cO, cP, cQ, cR⟩
     have hrw := hown.row
     have hbb : w.heap.size + 1 + 1 ≤ w5.heap.size := by have := HBL.out; have := bY; have := bX; omega
     go_wp2_with (at_builtin; refine list_runC rfl _ _ rfl w5 (w.heap.size + 1 + 1) ov ([]) (0) (xn) (r.c) (r.d) rfl hown rfl (by simp) hbb ?_)
     intro v2 wp2 hown' hold hsz hdn
     have hd2 := hdn w uw5 (by omega)
     have hRs := hold (w.heap.size) bX (fun k hk e => by have := (hrw k hk).1; omega)
     have hSs := hold (w.heap.size + 1) bY (fun k hk e => by have := (hrw k hk).1; omega)
     obtain ⟨k0, k1, k2, k3, k4, k5, k6, k7⟩ := HK.out
     have r02 := cell_same hRs k0
     have r12 := cell_same hRs k1
     have r22 := cell_same hRs k2
     have r32 := cell_same hRs k3
     have s02 := cell_same hSs k4
     have s12 := cell_same hSs k5
     have s22 := cell_same hSs k6
     have s32 := cell_same hSs k7
     have rl2 := Nat.lt_of_lt_of_le bX hsz
     have sl2 := Nat.lt_of_lt_of_le bY hsz
     clear hown hold hdn hsz hRs hSs HK k0 k1 k2 k3 k4 k5 k6 k7 hrw hbb bX bY cS uw5 cK cL cM cN cO cP cQ cR cT cU
     have hown := hown'
     clear hown'
     try simp only [List.nil_append, List.cons_append] at hown
     have HOWN := Lib.hid hown
     clear hown
     go_wp2_with fail
     go_ret
     exact less_end HOWN.out (by rw [HL.out, HG1.out, HG2.out]; rfl) (by simp) hd2
   ·
     have HG2 : Hid ((if s.c = 0 ∧ s.d < 9223372036854775807 ∧ s.d + 1 ≤ r.hi then [(⟨0, s.d + 1, r.c, r.d⟩ : Rq)] else []) = []) := Lib.hid (by rw [if_neg (fun h => hcmp h.2.2)])
     have HP2 := Lib.hid (fun W => rNext8 s.c s.d 0 (s.d + 1) 0 W HSO.out.2.1 hp)
     have hI1 : I64 (s.d + 1) := by have := HSO.out.2.1; unfold I64 at *; omega
     have hke := eC_le (i := 0) (j := r.c) hI1 HRO.out.2.1
     have hk0 : key 0 (s.d + 1) = s.d + 1 := by unfold key; omega
     rw [hk0] at hke
     have hCm2 := Lib.hid (fun W => rCmp8 0 (s.d + 1) r.c r.d W)
     have dc2 : decide (eC 0 (s.d + 1) r.c r.d ≤ 0) = false := by rw [decide_eq_false_iff_not]; exact fun h => hcmp (hke.1 h)
     clear hke hk0 hcmp hI1
     generalize eC 0 (s.d + 1) r.c r.d = n2 at *
     generalize s.d + 1 = xn at *
     clear hp pa pb
     go_wp2_with fail
     refine (HP2.out _).mono ?_
     rintro e w4 ⟨rfl, qw4⟩
     replace qw4 := qw4.dn
     replace hown := hown.dn qw4
     have aK := nlt bD qw4.size
     have aM := nlt bE qw4.size
     obtain ⟨a2, a3, aL, a4, a5, a6, a0, a1⟩ := mv8 qw4.cell bP bQ bR bS bT bU bV bW
     clear bD bP bQ bR bS bE bT bU bV bW
     have uw4 := uw3.trans qw4
     clear qw4 uw3
     go_wp2_with fail
     obtain ⟨W119, hW119⟩ : ∃ W119, W119 = w4.alloc (.cells #[.int .i8 0, .int .i64 xn] 41) := ⟨_, rfl⟩
     have uW119 : Dn w4 W119 := by rw [hW119]; exact (Dn.refl _).alloc _
     replace hown := hown.dn uW119
     have a7 := nlt aK uW119.size
     have a8 := nlt aM uW119.size
     obtain ⟨aN, aO, aP, aQ, aR, aS, aT, aU⟩ := mv8 uW119.cell a2 a3 aL a4 a5 a6 a0 a1
     clear aK a2 a3 aL a4 aM a5 a6 a0 a1
     have b5 : W119.cell? ⟨w4.heap.size, 0, none⟩ = some (.int .i8 0) := by rw [hW119]; simp [go_sem]
     have a9 : W119.cell? ⟨w4.heap.size, 1, none⟩ = some (.int .i64 xn) := by rw [hW119]; simp [go_sem]
     have b6 : w4.heap.size < W119.heap.size := by rw [hW119]; simp <;> omega
     rw [← hW119]
     clear hW119
     have vW119 := uw4.trans uW119
     clear uW119 uw4
     refine (hCm2.out _).mono ?_
     rintro e w5 ⟨rfl, qw5⟩
     replace qw5 := qw5.dn
     replace hown := hown.dn qw5
     have bX := nlt a7 qw5.size
     have bY := nlt a8 qw5.size
     have cS := nlt b6 qw5.size
     obtain ⟨cK, cL, cM, cN, cO, cP, cQ, cR, cT, cU⟩ := mv10 qw5.cell aN aO aP aQ aR aS aT aU b5 a9
     clear a7 aN aO aP aQ a8 aR aS aT aU b6 b5 a9
     have uw5 := vW119.trans qw5
     clear qw5 vW119
     clear cT cU cS
     have HOWN := Lib.hid hown
     clear hown
     go_wp2_with fail
     go_ret
     exact ⟨_, rfl, Or.inl ⟨by rw [HL.out, HG1.out, HG2.out]; rfl, HOV.out.symm⟩, uw5⟩
   ·
     have HG2 : Hid ((if s.c = 0 ∧ s.d < 9223372036854775807 ∧ s.d + 1 ≤ r.hi then [(⟨0, s.d + 1, r.c, r.d⟩ : Rq)] else []) = []) := Lib.hid (by rw [if_neg (fun h => by have := h.2.1; omega)])
     have HP2 := Lib.hid (fun W => rNext8 s.c s.d 0 0 15 W HSO.out.2.1 hp)
     clear hp pa pb
     go_wp2_with fail
     refine (HP2.out _).mono ?_
     rintro e w4 ⟨rfl, qw4⟩
     replace qw4 := qw4.dn
     replace hown := hown.dn qw4
     have aK := nlt bD qw4.size
     have aM := nlt bE qw4.size
     obtain ⟨a2, a3, aL, a4, a5, a6, a0, a1⟩ := mv8 qw4.cell bP bQ bR bS bT bU bV bW
     clear bD bP bQ bR bS bE bT bU bV bW
     have uw4 := uw3.trans qw4
     clear qw4 uw3
     go_upto_region 8 with fail
     obtain ⟨W119, hW119⟩ : ∃ W119, W119 = w4.alloc (.cells #[.int .i8 0, .int .i64 0] 41) := ⟨_, rfl⟩
     have uW119 : Dn w4 W119 := by rw [hW119]; exact (Dn.refl _).alloc _
     replace hown := hown.dn uW119
     have a7 := nlt aK uW119.size
     have a8 := nlt aM uW119.size
     obtain ⟨aN, aO, aP, aQ, aR, aS, aT, aU⟩ := mv8 uW119.cell a2 a3 aL a4 a5 a6 a0 a1
     clear aK a2 a3 aL a4 aM a5 a6 a0 a1
     have b5 : W119.cell? ⟨w4.heap.size, 0, none⟩ = some (.int .i8 0) := by rw [hW119]; simp [go_sem]
     have a9 : W119.cell? ⟨w4.heap.size, 1, none⟩ = some (.int .i64 0) := by rw [hW119]; simp [go_sem]
     have b6 : w4.heap.size < W119.heap.size := by rw [hW119]; simp <;> omega
     rw [← hW119]
     clear hW119
     have vW119 := uw4.trans uW119
     clear uW119 uw4
     go_upto_region 10 with fail
     clear b5 a9 b6
     have HOWN := Lib.hid hown
     clear hown
     go_wp2_with fail
     go_ret
     exact ⟨_, rfl, Or.inl ⟨by rw [HL.out, HG1.out, HG2.out]; rfl, HOV.out.symm⟩, vW119⟩
   ·
     have HG2 : Hid ((if s.c = 0 ∧ s.d < 9223372036854775807 ∧ s.d + 1 ≤ r.hi then [(⟨0, s.d + 1, r.c, r.d⟩ : Rq)] else []) = []) := Lib.hid (by rw [if_neg (fun h => pa h.1)])
     have HP2 := Lib.hid (fun W => rNext8 s.c s.d 1 0 0 W HSO.out.2.1 hp)
     clear hp pa
     go_wp2_with fail
     refine (HP2.out _).mono ?_
     rintro e w4 ⟨rfl, qw4⟩
     replace qw4 := qw4.dn
     replace hown := hown.dn qw4
     have aK := nlt bD qw4.size
     have aM := nlt bE qw4.size
     obtain ⟨a2, a3, aL, a4, a5, a6, a0, a1⟩ := mv8 qw4.cell bP bQ bR bS bT bU bV bW
     clear bD bP bQ bR bS bE bT bU bV bW
     have uw4 := uw3.trans qw4
     clear qw4 uw3
     go_upto_region 8 with fail
     obtain ⟨W119, hW119⟩ : ∃ W119, W119 = w4.alloc (.cells #[.int .i8 1, .int .i64 0] 41) := ⟨_, rfl⟩
     have uW119 : Dn w4 W119 := by rw [hW119]; exact (Dn.refl _).alloc _
     replace hown := hown.dn uW119
     have a7 := nlt aK uW119.size
     have a8 := nlt aM uW119.size
     obtain ⟨aN, aO, aP, aQ, aR, aS, aT, aU⟩ := mv8 uW119.cell a2 a3 aL a4 a5 a6 a0 a1
     clear aK a2 a3 aL a4 aM a5 a6 a0 a1
     have b5 : W119.cell? ⟨w4.heap.size, 0, none⟩ = some (.int .i8 1) := by rw [hW119]; simp [go_sem]
     have a9 : W119.cell? ⟨w4.heap.size, 1, none⟩ = some (.int .i64 0) := by rw [hW119]; simp [go_sem]
     have b6 : w4.heap.size < W119.heap.size := by rw [hW119]; simp <;> omega
     rw [← hW119]
     clear hW119
     have vW119 := uw4.trans uW119
     clear uW119 uw4
     go_upto_region 10 with fail
     clear b5 a9 b6
     have HOWN := Lib.hid hown
     clear hown
     go_wp2_with fail
     go_ret
     exact ⟨_, rfl, Or.inl ⟨by rw [HL.out, HG1.out, HG2.out]; rfl, HOV.out.symm⟩, vW119⟩
 ·
   have HG1 : Hid ((if s.a = 0 ∧ -9223372036854775808 < s.b ∧ r.lo ≤ s.b - 1 then [(⟨r.a, r.b, 0, s.b - 1⟩ : Rq)] else []) = []) := Lib.hid (by rw [if_neg (fun h => by have := h.2.1; omega)])
   have HP1 := Lib.hid (fun W => rPrev8 s.a s.b 0 0 15 W HSO.out.1 hp)
   clear hp pa pb
   go_wp2_with fail
   refine (HP1.out _).mono ?_
   rintro e w2 ⟨rfl, qw2⟩
   replace qw2 := qw2.dn
   replace hown := hown.dn qw2
   have bF := nlt bZ qw2.size
   have bK := nlt cB qw2.size
   obtain ⟨bG, bH, bI, bJ, bL, bM, bN, bO⟩ := mv8 qw2.cell c0 c1 c6 cA cC cE cF cG
   clear bZ c0 c1 c6 cA cB cC cE cF cG
   have uw2 := uw1.trans qw2
   clear qw2 uw1
   go_upto_region 5 with fail
   obtain ⟨W52, hW52⟩ : ∃ W52, W52 = w2.alloc (.cells #[.int .i8 0, .int .i64 0] 41) := ⟨_, rfl⟩
   have uW52 : Dn w2 W52 := by rw [hW52]; exact (Dn.refl _).alloc _
   replace hown := hown.dn uW52
   have aA := nlt bF uW52.size
   have aF := nlt bK uW52.size
   obtain ⟨aB, aC, aD, aE, aG, aH, aI, aJ⟩ := mv8 uW52.cell bG bH bI bJ bL bM bN bO
   clear bF bG bH bI bJ bK bL bM bN bO
   have cH : W52.cell? ⟨w2.heap.size, 0, none⟩ = some (.int .i8 0) := by rw [hW52]; simp [go_sem]
   have cI : W52.cell? ⟨w2.heap.size, 1, none⟩ = some (.int .i64 0) := by rw [hW52]; simp [go_sem]
   have cJ : w2.heap.size < W52.heap.size := by rw [hW52]; simp <;> omega
   rw [← hW52]
   clear hW52
   have vW52 := uw2.trans uW52
   clear uW52 uw2
   go_upto_region 7 with fail
   clear cH cI cJ
   rcases HNX.out with ⟨pa, pb, hp⟩ | ⟨pa, pb, hp⟩ | ⟨pa, hp⟩
   by_cases hcmp : s.d + 1 ≤ r.hi
   ·
     have HG2 : Hid ((if s.c = 0 ∧ s.d < 9223372036854775807 ∧ s.d + 1 ≤ r.hi then [(⟨0, s.d + 1, r.c, r.d⟩ : Rq)] else []) = [⟨0, s.d + 1, r.c, r.d⟩]) := Lib.hid (by rw [if_pos ⟨pa, pb, hcmp⟩])
     have HP2 := Lib.hid (fun W => rNext8 s.c s.d 0 (s.d + 1) 0 W HSO.out.2.1 hp)
     have hI1 : I64 (s.d + 1) := by have := HSO.out.2.1; unfold I64 at *; omega
     have hke := eC_le (i := 0) (j := r.c) hI1 HRO.out.2.1
     have hk0 : key 0 (s.d + 1) = s.d + 1 := by unfold key; omega
     rw [hk0] at hke
     have hCm2 := Lib.hid (fun W => rCmp8 0 (s.d + 1) r.c r.d W)
     have dc2 : decide (eC 0 (s.d + 1) r.c r.d ≤ 0) = true := by rw [decide_eq_true_iff]; exact hke.2 hcmp
     clear hke hk0 hcmp hI1
     generalize eC 0 (s.d + 1) r.c r.d = n2 at *
     generalize s.d + 1 = xn at *
     clear hp pa pb
     go_wp2_with fail
     refine (HP2.out _).mono ?_
     rintro e w3 ⟨rfl, qw3⟩
     replace qw3 := qw3.dn
     replace hown := hown.dn qw3
     have aV := nlt aA qw3.size
     have b0 := nlt aF qw3.size
     obtain ⟨aW, aX, aY, aZ, b1, b2, b3, b4⟩ := mv8 qw3.cell aB aC aD aE aG aH aI aJ
     clear aA aB aC aD aE aF aG aH aI aJ
     have uw3 := vW52.trans qw3
     clear qw3 vW52
     go_wp2_with fail
     obtain ⟨W106, hW106⟩ : ∃ W106, W106 = w3.alloc (.cells #[.int .i8 0, .int .i64 xn] 41) := ⟨_, rfl⟩
     have uW106 : Dn w3 W106 := by rw [hW106]; exact (Dn.refl _).alloc _
     replace hown := hown.dn uW106
     have b8 := nlt aV uW106.size
     have bB := nlt b0 uW106.size
     obtain ⟨b9, bA, a2, a3, a4, bC, a5, a6⟩ := mv8 uW106.cell aW aX aY aZ b1 b2 b3 b4
     clear aV aW aX aY aZ b0 b1 b2 b3 b4
     have a0 : W106.cell? ⟨w3.heap.size, 0, none⟩ = some (.int .i8 0) := by rw [hW106]; simp [go_sem]
     have a1 : W106.cell? ⟨w3.heap.size, 1, none⟩ = some (.int .i64 xn) := by rw [hW106]; simp [go_sem]
     have b7 : w3.heap.size < W106.heap.size := by rw [hW106]; simp <;> omega
     rw [← hW106]
     clear hW106
     have vW106 := uw3.trans uW106
     clear uW106 uw3
     refine (hCm2.out _).mono ?_
     rintro e w4 ⟨rfl, qw4⟩
     replace qw4 := qw4.dn
     replace hown := hown.dn qw4
     have a7 := nlt b8 qw4.size
     have a8 := nlt bB qw4.size
     have cV := nlt b7 qw4.size
     obtain ⟨aN, aO, aP, aQ, aR, aS, aT, aU, a9, cW⟩ := mv10 qw4.cell b9 bA a2 a3 a4 bC a5 a6 a0 a1
     clear b8 b9 bA a2 a3 bB a4 bC a5 a6 b7 a0 a1
     have uw4 := vW106.trans qw4
     clear qw4 vW106
     have HK : Hid (w4.cell? ⟨w.heap.size, 0, none⟩ = some (.int .i8 r.a) ∧ w4.cell? ⟨w.heap.size, 1, none⟩ = some (.int .i64 r.b) ∧ w4.cell? ⟨w.heap.size, 2, none⟩ = some (.int .i8 r.c) ∧ w4.cell? ⟨w.heap.size, 3, none⟩ = some (.int .i64 r.d) ∧ w4.cell? ⟨w.heap.size + 1, 0, none⟩ = some (.int .i8 s.a) ∧ w4.cell? ⟨w.heap.size + 1, 1, none⟩ = some (.int .i64 s.b) ∧ w4.cell? ⟨w.heap.size + 1, 2, none⟩ = some (.int .i8 s.c) ∧ w4.cell? ⟨w.heap.size + 1, 3, none⟩ = some (.int .i64 s.d)) := Lib.hid ⟨aN, aO, aP, aQ, aR, aS, aT, aU⟩
     have hrw := hown.row
     have hbb : w.heap.size + 1 + 1 ≤ w4.heap.size := by have := HBL.out; have := a8; have := a7; omega
     go_wp2_with (at_builtin; refine list_runC rfl _ _ rfl w4 (w.heap.size + 1 + 1) ov ([]) (0) (xn) (r.c) (r.d) rfl hown rfl (by simp) hbb ?_)
     intro v2 wp2 hown' hold hsz hdn
     have hd2 := hdn w uw4 (by omega)
     have hRs := hold (w.heap.size) a7 (fun k hk e => by have := (hrw k hk).1; omega)
     have hSs := hold (w.heap.size + 1) a8 (fun k hk e => by have := (hrw k hk).1; omega)
     obtain ⟨k0, k1, k2, k3, k4, k5, k6, k7⟩ := HK.out
     have r02 := cell_same hRs k0
     have r12 := cell_same hRs k1
     have r22 := cell_same hRs k2
     have r32 := cell_same hRs k3
     have s02 := cell_same hSs k4
     have s12 := cell_same hSs k5
     have s22 := cell_same hSs k6
     have s32 := cell_same hSs k7
     have rl2 := Nat.lt_of_lt_of_le a7 hsz
     have sl2 := Nat.lt_of_lt_of_le a8 hsz
     clear hown hold hdn hsz hRs hSs HK k0 k1 k2 k3 k4 k5 k6 k7 hrw hbb a7 a8 cV uw4 aN aO aP aQ aR aS aT aU a9 cW
     have hown := hown'
     clear hown'
     try simp only [List.nil_append, List.cons_append] at hown
     have HOWN := Lib.hid hown
     clear hown
     go_wp2_with fail
     go_ret
     exact less_end HOWN.out (by rw [HL.out, HG1.out, HG2.out]; rfl) (by simp) hd2
   ·
     have HG2 : Hid ((if s.c = 0 ∧ s.d < 9223372036854775807 ∧ s.d + 1 ≤ r.hi then [(⟨0, s.d + 1, r.c, r.d⟩ : Rq)] else []) = []) := Lib.hid (by rw [if_neg (fun h => hcmp h.2.2)])
     have HP2 := Lib.hid (fun W => rNext8 s.c s.d 0 (s.d + 1) 0 W HSO.out.2.1 hp)
     have hI1 : I64 (s.d + 1) := by have := HSO.out.2.1; unfold I64 at *; omega
     have hke := eC_le (i := 0) (j := r.c) hI1 HRO.out.2.1
     have hk0 : key 0 (s.d + 1) = s.d + 1 := by unfold key; omega
     rw [hk0] at hke
     have hCm2 := Lib.hid (fun W => rCmp8 0 (s.d + 1) r.c r.d W)
     have dc2 : decide (eC 0 (s.d + 1) r.c r.d ≤ 0) = false := by rw [decide_eq_false_iff_not]; exact fun h => hcmp (hke.1 h)
     clear hke hk0 hcmp hI1
     generalize eC 0 (s.d + 1) r.c r.d = n2 at *
     generalize s.d + 1 = xn at *
     clear hp pa pb
     go_wp2_with fail
     refine (HP2.out _).mono ?_
     rintro e w3 ⟨rfl, qw3⟩
     replace qw3 := qw3.dn
     replace hown := hown.dn qw3
     have aV := nlt aA qw3.size
     have b0 := nlt aF qw3.size
     obtain ⟨aW, aX, aY, aZ, b1, b2, b3, b4⟩ := mv8 qw3.cell aB aC aD aE aG aH aI aJ
     clear aA aB aC aD aE aF aG aH aI aJ
     have uw3 := vW52.trans qw3
     clear qw3 vW52
     go_wp2_with fail
     obtain ⟨W106, hW106⟩ : ∃ W106, W106 = w3.alloc (.cells #[.int .i8 0, .int .i64 xn] 41) := ⟨_, rfl⟩
     have uW106 : Dn w3 W106 := by rw [hW106]; exact (Dn.refl _).alloc _
     replace hown := hown.dn uW106
     have b8 := nlt aV uW106.size
     have bB := nlt b0 uW106.size
     obtain ⟨b9, bA, a2, a3, a4, bC, a5, a6⟩ := mv8 uW106.cell aW aX aY aZ b1 b2 b3 b4
     clear aV aW aX aY aZ b0 b1 b2 b3 b4
     have a0 : W106.cell? ⟨w3.heap.size, 0, none⟩ = some (.int .i8 0) := by rw [hW106]; simp [go_sem]
     have a1 : W106.cell? ⟨w3.heap.size, 1, none⟩ = some (.int .i64 xn) := by rw [hW106]; simp [go_sem]
     have b7 : w3.heap.size < W106.heap.size := by rw [hW106]; simp <;> omega
     rw [← hW106]
     clear hW106
     have vW106 := uw3.trans uW106
     clear uW106 uw3
     refine (hCm2.out _).mono ?_
     rintro e w4 ⟨rfl, qw4⟩
     replace qw4 := qw4.dn
     replace hown := hown.dn qw4
     have a7 := nlt b8 qw4.size
     have a8 := nlt bB qw4.size
     have cV := nlt b7 qw4.size
     obtain ⟨aN, aO, aP, aQ, aR, aS, aT, aU, a9, cW⟩ := mv10 qw4.cell b9 bA a2 a3 a4 bC a5 a6 a0 a1
     clear b8 b9 bA a2 a3 bB a4 bC a5 a6 b7 a0 a1
     have uw4 := vW106.trans qw4
     clear qw4 vW106
     clear a9 cW cV
     have HOWN := Lib.hid hown
     clear hown
     go_wp2_with fail
     go_ret
     exact ⟨_, rfl, Or.inl ⟨by rw [HL.out, HG1.out, HG2.out]; rfl, HOV.out.symm⟩, uw4⟩
   ·
     have HG2 : Hid ((if s.c = 0 ∧ s.d < 9223372036854775807 ∧ s.d + 1 ≤ r.hi then [(⟨0, s.d + 1, r.c, r.d⟩ : Rq)] else []) = []) := Lib.hid (by rw [if_neg (fun h => by have := h.2.1; omega)])
     have HP2 := Lib.hid (fun W => rNext8 s.c s.d 0 0 15 W HSO.out.2.1 hp)
     clear hp pa pb
     go_wp2_with fail
     refine (HP2.out _).mono ?_
     rintro e w3 ⟨rfl, qw3⟩
     replace qw3 := qw3.dn
     replace hown := hown.dn qw3
     have aV := nlt aA qw3.size
     have b0 := nlt aF qw3.size
     obtain ⟨aW, aX, aY, aZ, b1, b2, b3, b4⟩ := mv8 qw3.cell aB aC aD aE aG aH aI aJ
     clear aA aB aC aD aE aF aG aH aI aJ
     have uw3 := vW52.trans qw3
     clear qw3 vW52
     go_upto_region 8 with fail
     obtain ⟨W106, hW106⟩ : ∃ W106, W106 = w3.alloc (.cells #[.int .i8 0, .int .i64 0] 41) := ⟨_, rfl⟩
     have uW106 : Dn w3 W106 := by rw [hW106]; exact (Dn.refl _).alloc _
     replace hown := hown.dn uW106
     have b8 := nlt aV uW106.size
     have bB := nlt b0 uW106.size
     obtain ⟨b9, bA, a2, a3, a4, bC, a5, a6⟩ := mv8 uW106.cell aW aX aY aZ b1 b2 b3 b4
     clear aV aW aX aY aZ b0 b1 b2 b3 b4
     have a0 : W106.cell? ⟨w3.heap.size, 0, none⟩ = some (.int .i8 0) := by rw [hW106]; simp [go_sem]
     have a1 : W106.cell? ⟨w3.heap.size, 1, none⟩ = some (.int .i64 0) := by rw [hW106]; simp [go_sem]
     have b7 : w3.heap.size < W106.heap.size := by rw [hW106]; simp <;> omega
     rw [← hW106]
     clear hW106
     have vW106 := uw3.trans uW106
     clear uW106 uw3
     go_upto_region 10 with fail
     clear a0 a1 b7
     have HOWN := Lib.hid hown
     clear hown
     go_wp2_with fail
     go_ret
     exact ⟨_, rfl, Or.inl ⟨by rw [HL.out, HG1.out, HG2.out]; rfl, HOV.out.symm⟩, vW106⟩
   ·
     have HG2 : Hid ((if s.c = 0 ∧ s.d < 9223372036854775807 ∧ s.d + 1 ≤ r.hi then [(⟨0, s.d + 1, r.c, r.d⟩ : Rq)] else []) = []) := Lib.hid (by rw [if_neg (fun h => pa h.1)])
     have HP2 := Lib.hid (fun W => rNext8 s.c s.d 1 0 0 W HSO.out.2.1 hp)
     clear hp pa
     go_wp2_with fail
     refine (HP2.out _).mono ?_
     rintro e w3 ⟨rfl, qw3⟩
     replace qw3 := qw3.dn
     replace hown := hown.dn qw3
     have aV := nlt aA qw3.size
     have b0 := nlt aF qw3.size
     obtain ⟨aW, aX, aY, aZ, b1, b2, b3, b4⟩ := mv8 qw3.cell aB aC aD aE aG aH aI aJ
     clear aA aB aC aD aE aF aG aH aI aJ
     have uw3 := vW52.trans qw3
     clear qw3 vW52
     go_upto_region 8 with fail
     obtain ⟨W106, hW106⟩ : ∃ W106, W106 = w3.alloc (.cells #[.int .i8 1, .int .i64 0] 41) := ⟨_, rfl⟩
     have uW106 : Dn w3 W106 := by rw [hW106]; exact (Dn.refl _).alloc _
     replace hown := hown.dn uW106
     have b8 := nlt aV uW106.size
     have bB := nlt b0 uW106.size
     obtain ⟨b9, bA, a2, a3, a4, bC, a5, a6⟩ := mv8 uW106.cell aW aX aY aZ b1 b2 b3 b4
     clear aV aW aX aY aZ b0 b1 b2 b3 b4
     have a0 : W106.cell? ⟨w3.heap.size, 0, none⟩ = some (.int .i8 1) := by rw [hW106]; simp [go_sem]
     have a1 : W106.cell? ⟨w3.heap.size, 1, none⟩ = some (.int .i64 0) := by rw [hW106]; simp [go_sem]
     have b7 : w3.heap.size < W106.heap.size := by rw [hW106]; simp <;> omega
     rw [← hW106]
     clear hW106
     have vW106 := uw3.trans uW106
     clear uW106 uw3
     go_upto_region 10 with fail
     clear a0 a1 b7
     have HOWN := Lib.hid hown
     clear hown
     go_wp2_with fail
     go_ret
     exact ⟨_, rfl, Or.inl ⟨by rw [HL.out, HG1.out, HG2.out]; rfl, HOV.out.symm⟩, vW106⟩
 ·
   have HG1 : Hid ((if s.a = 0 ∧ -9223372036854775808 < s.b ∧ r.lo ≤ s.b - 1 then [(⟨r.a, r.b, 0, s.b - 1⟩ : Rq)] else []) = []) := Lib.hid (by rw [if_neg (fun h => pa h.1)])
   have HP1 := Lib.hid (fun W => rPrev8 s.a s.b (-1) 0 0 W HSO.out.1 hp)
   clear hp pa
   go_wp2_with fail
   refine (HP1.out _).mono ?_
   rintro e w2 ⟨rfl, qw2⟩
   replace qw2 := qw2.dn
   replace hown := hown.dn qw2
   have bF := nlt bZ qw2.size
   have bK := nlt cB qw2.size
   obtain ⟨bG, bH, bI, bJ, bL, bM, bN, bO⟩ := mv8 qw2.cell c0 c1 c6 cA cC cE cF cG
   clear bZ c0 c1 c6 cA cB cC cE cF cG
   have uw2 := uw1.trans qw2
   clear qw2 uw1
   go_upto_region 5 with fail
   obtain ⟨W52, hW52⟩ : ∃ W52, W52 = w2.alloc (.cells #[.int .i8 (-1), .int .i64 0] 41) := ⟨_, rfl⟩
   have uW52 : Dn w2 W52 := by rw [hW52]; exact (Dn.refl _).alloc _
   replace hown := hown.dn uW52
   have aA := nlt bF uW52.size
   have aF := nlt bK uW52.size
   obtain ⟨aB, aC, aD, aE, aG, aH, aI, aJ⟩ := mv8 uW52.cell bG bH bI bJ bL bM bN bO
   clear bF bG bH bI bJ bK bL bM bN bO
   have cH : W52.cell? ⟨w2.heap.size, 0, none⟩ = some (.int .i8 (-1)) := by rw [hW52]; simp [go_sem]
   have cI : W52.cell? ⟨w2.heap.size, 1, none⟩ = some (.int .i64 0) := by rw [hW52]; simp [go_sem]
   have cJ : w2.heap.size < W52.heap.size := by rw [hW52]; simp <;> omega
   rw [← hW52]
   clear hW52
   have vW52 := uw2.trans uW52
   clear uW52 uw2
   go_upto_region 7 with fail
   clear cH cI cJ
   rcases HNX.out with ⟨pa, pb, hp⟩ | ⟨pa, pb, hp⟩ | ⟨pa, hp⟩
   by_cases hcmp : s.d + 1 ≤ r.hi
   ·
     have HG2 : Hid ((if s.c = 0 ∧ s.d < 9223372036854775807 ∧ s.d + 1 ≤ r.hi then [(⟨0, s.d + 1, r.c, r.d⟩ : Rq)] else []) = [⟨0, s.d + 1, r.c, r.d⟩]) := Lib.hid (by rw [if_pos ⟨pa, pb, hcmp⟩])
     have HP2 := Lib.hid (fun W => rNext8 s.c s.d 0 (s.d + 1) 0 W HSO.out.2.1 hp)
     have hI1 : I64 (s.d + 1) := by have := HSO.out.2.1; unfold I64 at *; omega
     have hke := eC_le (i := 0) (j := r.c) hI1 HRO.out.2.1
     have hk0 : key 0 (s.d + 1) = s.d + 1 := by unfold key; omega
     rw [hk0] at hke
     have hCm2 := Lib.hid (fun W => rCmp8 0 (s.d + 1) r.c r.d W)
     have dc2 : decide (eC 0 (s.d + 1) r.c r.d ≤ 0) = true := by rw [decide_eq_true_iff]; exact hke.2 hcmp
     clear hke hk0 hcmp hI1
     generalize eC 0 (s.d + 1) r.c r.d = n2 at *
     generalize s.d + 1 = xn at *
     clear hp pa pb
     go_wp2_with fail
     refine (HP2.out _).mono ?_
     rintro e w3 ⟨rfl, qw3⟩
     replace qw3 := qw3.dn
     replace hown := hown.dn qw3
     have aV := nlt aA qw3.size
     have b0 := nlt aF qw3.size
     obtain ⟨aW, aX, aY, aZ, b1, b2, b3, b4⟩ := mv8 qw3.cell aB aC aD aE aG aH aI aJ
     clear aA aB aC aD aE aF aG aH aI aJ
     have uw3 := vW52.trans qw3
     clear qw3 vW52
     go_wp2_with fail
     obtain ⟨W106, hW106⟩ : ∃ W106, W106 = w3.alloc (.cells #[.int .i8 0, .int .i64 xn] 41) := ⟨_, rfl⟩
     have uW106 : Dn w3 W106 := by rw [hW106]; exact (Dn.refl _).alloc _
     replace hown := hown.dn uW106
     have b8 := nlt aV uW106.size
     have bB := nlt b0 uW106.size
     obtain ⟨b9, bA, a2, a3, a4, bC, a5, a6⟩ := mv8 uW106.cell aW aX aY aZ b1 b2 b3 b4
     clear aV aW aX aY aZ b0 b1 b2 b3 b4
     have a0 : W106.cell? ⟨w3.heap.size, 0, none⟩ = some (.int .i8 0) := by rw [hW106]; simp [go_sem]
     have a1 : W106.cell? ⟨w3.heap.size, 1, none⟩ = some (.int .i64 xn) := by rw [hW106]; simp [go_sem]
     have b7 : w3.heap.size < W106.heap.size := by rw [hW106]; simp <;> omega
     rw [← hW106]
     clear hW106
     have vW106 := uw3.trans uW106
     clear uW106 uw3
     refine (hCm2.out _).mono ?_
     rintro e w4 ⟨rfl, qw4⟩
     replace qw4 := qw4.dn
     replace hown := hown.dn qw4
     have a7 := nlt b8 qw4.size
     have a8 := nlt bB qw4.size
     have cV := nlt b7 qw4.size
     obtain ⟨aN, aO, aP, aQ, aR, aS, aT, aU, a9, cW⟩ := mv10 qw4.cell b9 bA a2 a3 a4 bC a5 a6 a0 a1
     clear b8 b9 bA a2 a3 bB a4 bC a5 a6 b7 a0 a1
     have uw4 := vW106.trans qw4
     clear qw4 vW106
     have HK : Hid (w4.cell? ⟨w.heap.size, 0, none⟩ = some (.int .i8 r.a) ∧ w4.cell? ⟨w.heap.size, 1, none⟩ = some (.int .i64 r.b) ∧ w4.cell? ⟨w.heap.size, 2, none⟩ = some (.int .i8 r.c) ∧ w4.cell? ⟨w.heap.size, 3, none⟩ = some (.int .i64 r.d) ∧ w4.cell? ⟨w.heap.size + 1, 0, none⟩ = some (.int .i8 s.a) ∧ w4.cell? ⟨w.heap.size + 1, 1, none⟩ = some (.int .i64 s.b) ∧ w4.cell? ⟨w.heap.size + 1, 2, none⟩ = some (.int .i8 s.c) ∧ w4.cell? ⟨w.heap.size + 1, 3, none⟩ = some (.int .i64 s.d)) := Lib.hid ⟨aN, aO, aP, aQ, aR, aS, aT, aU⟩
     have hrw := hown.row
     have hbb : w.heap.size + 1 + 1 ≤ w4.heap.size := by have := HBL.out; have := a8; have := a7; omega
     go_wp2_with (at_builtin; refine list_runC rfl _ _ rfl w4 (w.heap.size + 1 + 1) ov ([]) (0) (xn) (r.c) (r.d) rfl hown rfl (by simp) hbb ?_)
     intro v2 wp2 hown' hold hsz hdn
     have hd2 := hdn w uw4 (by omega)
     have hRs := hold (w.heap.size) a7 (fun k hk e => by have := (hrw k hk).1; omega)
     have hSs := hold (w.heap.size + 1) a8 (fun k hk e => by have := (hrw k hk).1; omega)
     obtain ⟨k0, k1, k2, k3, k4, k5, k6, k7⟩ := HK.out
     have r02 := cell_same hRs k0
     have r12 := cell_same hRs k1
     have r22 := cell_same hRs k2
     have r32 := cell_same hRs k3
     have s02 := cell_same hSs k4
     have s12 := cell_same hSs k5
     have s22 := cell_same hSs k6
     have s32 := cell_same hSs k7
     have rl2 := Nat.lt_of_lt_of_le a7 hsz
     have sl2 := Nat.lt_of_lt_of_le a8 hsz
     clear hown hold hdn hsz hRs hSs HK k0 k1 k2 k3 k4 k5 k6 k7 hrw hbb a7 a8 cV uw4 aN aO aP aQ aR aS aT aU a9 cW
     have hown := hown'
     clear hown'
     try simp only [List.nil_append, List.cons_append] at hown
     have HOWN := Lib.hid hown
     clear hown
     go_wp2_with fail
     go_ret
     exact less_end HOWN.out (by rw [HL.out, HG1.out, HG2.out]; rfl) (by simp) hd2
   ·
     have HG2 : Hid ((if s.c = 0 ∧ s.d < 9223372036854775807 ∧ s.d + 1 ≤ r.hi then [(⟨0, s.d + 1, r.c, r.d⟩ : Rq)] else []) = []) := Lib.hid (by rw [if_neg (fun h => hcmp h.2.2)])
     have HP2 := Lib.hid (fun W => rNext8 s.c s.d 0 (s.d + 1) 0 W HSO.out.2.1 hp)
     have hI1 : I64 (s.d + 1) := by have := HSO.out.2.1; unfold I64 at *; omega
     have hke := eC_le (i := 0) (j := r.c) hI1 HRO.out.2.1
     have hk0 : key 0 (s.d + 1) = s.d + 1 := by unfold key; omega
     rw [hk0] at hke
     have hCm2 := Lib.hid (fun W => rCmp8 0 (s.d + 1) r.c r.d W)
     have dc2 : decide (eC 0 (s.d + 1) r.c r.d ≤ 0) = false := by rw [decide_eq_false_iff_not]; exact fun h => hcmp (hke.1 h)
     clear hke hk0 hcmp hI1
     generalize eC 0 (s.d + 1) r.c r.d = n2 at *
     generalize s.d + 1 = xn at *
     clear hp pa pb
     go_wp2_with fail
     refine (HP2.out _).mono ?_
     rintro e w3 ⟨rfl, qw3⟩
     replace qw3 := qw3.dn
     replace hown := hown.dn qw3
     have aV := nlt aA qw3.size
     have b0 := nlt aF qw3.size
     obtain ⟨aW, aX, aY, aZ, b1, b2, b3, b4⟩ := mv8 qw3.cell aB aC aD aE aG aH aI aJ
     clear aA aB aC aD aE aF aG aH aI aJ
     have uw3 := vW52.trans qw3
     clear qw3 vW52
     go_wp2_with fail
     obtain ⟨W106, hW106⟩ : ∃ W106, W106 = w3.alloc (.cells #[.int .i8 0, .int .i64 xn] 41) := ⟨_, rfl⟩
     have uW106 : Dn w3 W106 := by rw [hW106]; exact (Dn.refl _).alloc _
     replace hown := hown.dn uW106
     have b8 := nlt aV uW106.size
     have bB := nlt b0 uW106.size
     obtain ⟨b9, bA, a2, a3, a4, bC, a5, a6⟩ := mv8 uW106.cell aW aX aY aZ b1 b2 b3 b4
     clear aV aW aX aY aZ b0 b1 b2 b3 b4
     have a0 : W106.cell? ⟨w3.heap.size, 0, none⟩ = some (.int .i8 0) := by rw [hW106]; simp [go_sem]
     have a1 : W106.cell? ⟨w3.heap.size, 1, none⟩ = some (.int .i64 xn) := by rw [hW106]; simp [go_sem]
     have b7 : w3.heap.size < W106.heap.size := by rw [hW106]; simp <;> omega
     rw [← hW106]
     clear hW106
     have vW106 := uw3.trans uW106
     clear uW106 uw3
     refine (hCm2.out _).mono ?_
     rintro e w4 ⟨rfl, qw4⟩
     replace qw4 := qw4.dn
     replace hown := hown.dn qw4
     have a7 := nlt b8 qw4.size
     have a8 := nlt bB qw4.size
     have cV := nlt b7 qw4.size
     obtain ⟨aN, aO, aP, aQ, aR, aS, aT, aU, a9, cW⟩ := mv10 qw4.cell b9 bA a2 a3 a4 bC a5 a6 a0 a1
     clear b8 b9 bA a2 a3 bB a4 bC a5 a6 b7 a0 a1
     have uw4 := vW106.trans qw4
     clear qw4 vW106
     clear a9 cW cV
     have HOWN := Lib.hid hown
     clear hown
     go_wp2_with fail
     go_ret
     exact ⟨_, rfl, Or.inl ⟨by rw [HL.out, HG1.out, HG2.out]; rfl, HOV.out.symm⟩, uw4⟩
   ·
     have HG2 : Hid ((if s.c = 0 ∧ s.d < 9223372036854775807 ∧ s.d + 1 ≤ r.hi then [(⟨0, s.d + 1, r.c, r.d⟩ : Rq)] else []) = []) := Lib.hid (by rw [if_neg (fun h => by have := h.2.1; omega)])
     have HP2 := Lib.hid (fun W => rNext8 s.c s.d 0 0 15 W HSO.out.2.1 hp)
     clear hp pa pb
     go_wp2_with fail
     refine (HP2.out _).mono ?_
     rintro e w3 ⟨rfl, qw3⟩
     replace qw3 := qw3.dn
     replace hown := hown.dn qw3
     have aV := nlt aA qw3.size
     have b0 := nlt aF qw3.size
     obtain ⟨aW, aX, aY, aZ, b1, b2, b3, b4⟩ := mv8 qw3.cell aB aC aD aE aG aH aI aJ
     clear aA aB aC aD aE aF aG aH aI aJ
     have uw3 := vW52.trans qw3
     clear qw3 vW52
     go_upto_region 8 with fail
     obtain ⟨W106, hW106⟩ : ∃ W106, W106 = w3.alloc (.cells #[.int .i8 0, .int .i64 0] 41) := ⟨_, rfl⟩
     have uW106 : Dn w3 W106 := by rw [hW106]; exact (Dn.refl _).alloc _
     replace hown := hown.dn uW106
     have b8 := nlt aV uW106.size
     have bB := nlt b0 uW106.size
     obtain ⟨b9, bA, a2, a3, a4, bC, a5, a6⟩ := mv8 uW106.cell aW aX aY aZ b1 b2 b3 b4
     clear aV aW aX aY aZ b0 b1 b2 b3 b4
     have a0 : W106.cell? ⟨w3.heap.size, 0, none⟩ = some (.int .i8 0) := by rw [hW106]; simp [go_sem]
     have a1 : W106.cell? ⟨w3.heap.size, 1, none⟩ = some (.int .i64 0) := by rw [hW106]; simp [go_sem]
     have b7 : w3.heap.size < W106.heap.size := by rw [hW106]; simp <;> omega
     rw [← hW106]
     clear hW106
     have vW106 := uw3.trans uW106
     clear uW106 uw3
     go_upto_region 10 with fail
     clear a0 a1 b7
     have HOWN := Lib.hid hown
     clear hown
     go_wp2_with fail
     go_ret
     exact ⟨_, rfl, Or.inl ⟨by rw [HL.out, HG1.out, HG2.out]; rfl, HOV.out.symm⟩, vW106⟩
   ·
     have HG2 : Hid ((if s.c = 0 ∧ s.d < 9223372036854775807 ∧ s.d + 1 ≤ r.hi then [(⟨0, s.d + 1, r.c, r.d⟩ : Rq)] else []) = []) := Lib.hid (by rw [if_neg (fun h => pa h.1)])
     have HP2 := Lib.hid (fun W => rNext8 s.c s.d 1 0 0 W HSO.out.2.1 hp)
     clear hp pa
     go_wp2_with fail
     refine (HP2.out _).mono ?_
     rintro e w3 ⟨rfl, qw3⟩
     replace qw3 := qw3.dn
     replace hown := hown.dn qw3
     have aV := nlt aA qw3.size
     have b0 := nlt aF qw3.size
     obtain ⟨aW, aX, aY, aZ, b1, b2, b3, b4⟩ := mv8 qw3.cell aB aC aD aE aG aH aI aJ
     clear aA aB aC aD aE aF aG aH aI aJ
     have uw3 := vW52.trans qw3
     clear qw3 vW52
     go_upto_region 8 with fail
     obtain ⟨W106, hW106⟩ : ∃ W106, W106 = w3.alloc (.cells #[.int .i8 1, .int .i64 0] 41) := ⟨_, rfl⟩
     have uW106 : Dn w3 W106 := by rw [hW106]; exact (Dn.refl _).alloc _
     replace hown := hown.dn uW106
     have b8 := nlt aV uW106.size
     have bB := nlt b0 uW106.size
     obtain ⟨b9, bA, a2, a3, a4, bC, a5, a6⟩ := mv8 uW106.cell aW aX aY aZ b1 b2 b3 b4
     clear aV aW aX aY aZ b0 b1 b2 b3 b4
     have a0 : W106.cell? ⟨w3.heap.size, 0, none⟩ = some (.int .i8 1) := by rw [hW106]; simp [go_sem]
     have a1 : W106.cell? ⟨w3.heap.size, 1, none⟩ = some (.int .i64 0) := by rw [hW106]; simp [go_sem]
     have b7 : w3.heap.size < W106.heap.size := by rw [hW106]; simp <;> omega
     rw [← hW106]
     clear hW106
     have vW106 := uw3.trans uW106
     clear uW106 uw3
     go_upto_region 10 with fail
     clear a0 a1 b7
     have HOWN := Lib.hid hown
     clear hown
     go_wp2_with fail
     go_ret
     exact ⟨_, rfl, Or.inl ⟨by rw [HL.out, HG1.out, HG2.out]; rfl, HOV.out.symm⟩, vW106⟩
end Go.Proofs.YtoghoddjkdoohaaGreatDoor
