/- Walks and laws that the claim's theorem leans on: part 18. -/
import Derived.Test.YteodjglbpfmikaaGreatDoorZCl1
import Derived.Test.YteodjglbpfmikaaGreatDoorZCl11
import Derived.Test.YteodjglbpfmikaaGreatDoorZCl12
import Derived.Test.YteodjglbpfmikaaGreatDoorZCl13
import Derived.Test.YteodjglbpfmikaaGreatDoorZCl14
import Derived.Test.YteodjglbpfmikaaGreatDoorZCl17
import Derived.Test.YteodjglbpfmikaaGreatDoorShJoin
import Derived.Laws.MakeOwn
namespace Go.Proofs.YteodjglbpfmikaaGreatDoor
set_option maxHeartbeats 4000000
set_option maxRecDepth 100000
open Go.RowKit
set_option linter.unusedVariables false
set_option linter.unusedSimpArgs false
def cellLen (w : World) (A : Nat) : Nat := match w.cell? ⟨A, 0, none⟩ with
 | some v => lenOf v
 | none => 0
theorem SlV.len {w0 w : World} {A : Nat} {s : List Rq} (h : SlV w0 w A s) : cellLen w A = s.length := by
 obtain ⟨⟨p, cap, h1, _⟩, _, _⟩ := h
 unfold cellLen; rw [h1]; rfl
structure Cm (a b : List Rq) (w w' : World) (s t L : List Rq) : Prop where
 A : SlV w w' w.heap.size s
 B : SlV w w' (w.heap.size + 1) t
 O : OwV w' (w.heap.size + 1 + 1 + 1) (w.heap.size + 1 + 1) L
 sk : ∀ x ∈ s, x.ok
 tk : ∀ x ∈ t, x.ok
 lk : ∀ x ∈ L, x.ok
 e : cmn a b = L ++ cmn s t
 n : L.length + s.length + t.length ≤ a.length + b.length
 dn : Dn w w'
theorem ret_sl {p : Option Addr} {M N : List Rq} (h : N = M) : Ending.returned (.slice p M.length M.length) = .returned (.slice p N.length N.length) := by rw [h]
theorem rsCommonIn (p : Option Addr) (cap : Nat) (a : List Rq) (q : Option Addr) (cap' : Nat) (b : List Rq)  (w : World) (hab : a.length + b.length ≤ 800000) (hc1 : a.length ≤ cap) (hm1 : cap ≤ 9223372036854775807) (hc2 : b.length ≤ cap') (hm2 : cap' ≤ 9223372036854775807) (ha : ∀ x ∈ a, x.ok) (hb : ∀ x ∈ b, x.ok) (hR1 : Row w p a) (hR2 : Row w q b) :
  Calls Tryz.prog 95 #[.slice p a.length cap, .slice q b.length cap'] w fun ro w' => ∃ p', ro = .returned (.slice p' (joinedL (cmn a b)).length (joinedL (cmn a b)).length) ∧ Row w' p' (joinedL (cmn a b)) ∧ Dn w w' := by
 go_enter Tryz.func95, Tryz.ntmps95
 go_wp2_with fail
 obtain ⟨W1, hW1⟩ : ∃ W1, W1 = ((w.alloc (.cells #[.slice p a.length cap] 48)).alloc (.cells #[.slice q b.length cap'] 48)).alloc (.cells #[.slice none 0 0] 48) := ⟨_, rfl⟩
 have hcm : Cm a b w W1 a b [] := by
  have u : Dn w W1 := by rw [hW1]; exact (((Dn.refl _).alloc _).alloc _).alloc _
  refine ⟨⟨⟨p, cap, by rw [hW1]; simp [go_sem], hc1, hm1, hR1⟩, by rw [hW1]; simp [go_sem], by rw [hW1]; simp <;> omega⟩, ⟨⟨q, cap', by rw [hW1]; simp [go_sem], hc2, hm2, hR2⟩, by rw [hW1]; simp [go_sem], by rw [hW1]; simp <;> omega⟩,
    ⟨⟨_, by rw [hW1]; simp [go_sem], OwnQ.nil _ _⟩, by rw [hW1]; simp [go_sem], by omega, by rw [hW1]; simp <;> omega⟩, ha, hb, by simp, rfl, by simp, u⟩
 rw [← hW1]
 clear hW1 hR1 hR2 ha hb
 go_loopw [8] (fun _ wr => ∃ s t L, Cm a b w wr s t L) (fun _ wr => cellLen wr w.heap.size + cellLen wr (w.heap.size + 1))
 case atStart => exact ⟨a, b, [], hcm⟩
 case round =>
  obtain ⟨s, t, L, hcm⟩ := hrel
  have HC := Lib.hid hcm
  obtain ⟨⟨pa, ca, a1, a2, a3, a4⟩, -, la⟩ := hcm.A
  obtain ⟨⟨pb, cb, b1, b2, b3, b4⟩, -, lb⟩ := hcm.B
  obtain ⟨⟨v, v1, v2⟩, -, vl, vb⟩ := hcm.O
  have hn := hcm.n
  clear hcm a4 b4
  rcases s with _ | ⟨x, s⟩
  rotate_left
  rcases t with _ | ⟨y, t⟩
  rotate_left
  · have hs0 : decide (0 < (s.length : Int) + 1) = true := by rw [decide_eq_true_iff]; omega
    have ht0 : decide (0 < (t.length : Int) + 1) = true := by rw [decide_eq_true_iff]; omega
    rw [List.length_cons] at a1 b1
    have hx := HC.out.sk x List.mem_cons_self
    have hy := HC.out.tk y List.mem_cons_self
    have HX := Lib.hid hx
    have HY := Lib.hid hy
    clear hx hy v1 v2
    go_wp2_with fail
    refine (cmn1 _ _ _ (w.heap.size + 1 + 1 + 1) x y s t L w wr HC.out.A HC.out.B HC.out.O HC.out.dn (Nat.le_refl _) (by omega) (by omega) (by omega) HX.out HY.out (by omega)).mono ?_
    rintro e w2 ⟨rfl, s', t', k1, k2, kA, kB, kO, kd⟩
    have hst : Cm a b w w2 s' t' (L ++ if MeetR x y then [inR x y] else []) ∧ s'.length + t'.length < (x :: s).length + (y :: t).length := by
     have hlo : ∀ z ∈ L ++ (if MeetR x y then [inR x y] else []), z.ok := by
       intro z hz
       rcases List.mem_append.1 hz with hz | hz
       · exact HC.out.lk z hz
       · split at hz
         · next hm => simp at hz; subst hz; exact inR_ok hm
         · cases hz
     have hle : (L ++ if MeetR x y then [inR x y] else []).length ≤ L.length + 1 := by
       rw [List.length_append]; split <;> simp
     have he := HC.out.e
     rw [cmn_step] at he
     by_cases hlt : x.hi < y.hi
     · obtain ⟨rfl, rfl⟩ := k1 hlt
       rw [if_pos hlt] at he
       simp only [List.length_cons] at hn hle ⊢
       exact ⟨⟨kA, kB, kO, fun z hz => HC.out.sk z (List.mem_cons_of_mem _ hz), HC.out.tk, hlo, by rw [he, List.append_assoc], by simp only [List.length_cons]; omega, kd⟩, by omega⟩
     · obtain ⟨rfl, rfl⟩ := k2 hlt
       rw [if_neg hlt] at he
       simp only [List.length_cons] at hn hle ⊢
       exact ⟨⟨kA, kB, kO, HC.out.sk, fun z hz => HC.out.tk z (List.mem_cons_of_mem _ hz), hlo, by rw [he, List.append_assoc], by simp only [List.length_cons]; omega, kd⟩, by omega⟩
    have HST := Lib.hid hst
    have m1 := HC.out.A.len
    have m2 := HC.out.B.len
    have m3 := hst.1.A.len
    have m4 := hst.1.B.len
    have m5 := hst.2
    clear hst k1 k2 kA kB kO kd a1 b1
    go_wp2_with fail
    go_roundw
    case rel => exact ⟨s', t', _, HST.out.1⟩
    case measure => rw [m1, m2, m3, m4]; omega
  all_goals
    obtain ⟨p3, cap3, rfl, -, hr3⟩ := v2.rowOf
    have HL : Hid (cmn a b = L) := Lib.hid (by have := HC.out.e; simpa [cmn_nil, cmn_nil'] using this)
    have HJ := Lib.hid (rsJoined p3 cap3 L wr (by omega) (sep_i6 HC.out.lk) hr3)
    clear v2 hr3
    try rw [List.length_cons] at a1
    try rw [List.length_nil] at a1
    try rw [List.length_nil] at b1
    try (have hs0 : decide (0 < (s.length : Int) + 1) = true := by rw [decide_eq_true_iff]; omega)
    go_wp2_with fail
    refine HJ.out.mono ?_
    rintro e w2 ⟨p4, rfl, hr4, q1⟩
    have HR4 := Lib.hid hr4
    clear hr4
    go_wp2_with fail
    go_ret
    exact ⟨p4, ret_sl (by rw [HL.out]), by rw [HL.out]; exact HR4.out, HC.out.dn.trans q1⟩
theorem CB.same {w w' : World} {B : Nat} {u v : Value} (h : CB w B u v) (e : w'.heap[B]? = w.heap[B]?) (hl : w.heap.size ≤ w'.heap.size) : CB w' B u v :=
 ⟨cell_same e h.c0, cell_same e h.c1, (frozen_same e).trans h.f0, (frozen_same e).trans h.f1, Nat.lt_of_lt_of_le h.lt hl⟩
theorem C4.same {w w' : World} {B : Nat} {v0 v1 v2 v3 : Value} (h : C4 w B v0 v1 v2 v3) (e : w'.heap[B]? = w.heap[B]?) (hl : w.heap.size ≤ w'.heap.size) : C4 w' B v0 v1 v2 v3 :=
 ⟨cell_same e h.c0, cell_same e h.c1, cell_same e h.c2, cell_same e h.c3, (frozen_same e).trans h.f0, (frozen_same e).trans h.f1, (frozen_same e).trans h.f2, (frozen_same e).trans h.f3, Nat.lt_of_lt_of_le h.lt hl⟩
set_option maxHeartbeats 4000000
set_option maxRecDepth 100000
theorem lim_ok (p : Option Addr) (cap : Nat) (M : List Rq) (w : World) (E : Int) (R : List Rq) (hE : E = fin3 0 M) (hRR : R = res3 0 M) (hcap : M.length ≤ cap) (hmx : cap ≤ 9223372036854775807) (hR : Row w p M) :
  Calls Tryz.prog 94 #[.slice p M.length cap] w fun ro w' => ∃ p', ro = .returned (.tuple #[.slice p' R.length R.length, .int .i64 E]) ∧ Row w' p' R ∧ Dn w w' := by
 subst hE hRR
 refine (rsLimited p cap M w hcap hmx hR).mono ?_
 rintro ro w' ⟨p', cap', rfl, rfl, h1, h2⟩
 exact ⟨p', rfl, h1, h2⟩
theorem cmn_len : ∀ (s t : List Rq), (cmn s t).length ≤ s.length + t.length
 | [], t => by rw [cmn_nil']; simp
 | x :: s, [] => by rw [cmn_nil]; simp
 | x :: s, y :: t => by
   rw [cmn_step, List.length_append]
   have h1 : (if MeetR x y then [inR x y] else []).length ≤ 1 := by split <;> simp
   have h2 := cmn_len s (y :: t)
   have h3 := cmn_len (x :: s) t
   have h4 : (if x.hi < y.hi then cmn s (y :: t) else cmn (x :: s) t).length ≤ s.length + t.length + 1 := by
    simp only [List.length_cons] at h2 h3
    split <;> omega
   simp only [List.length_cons]
   omega
termination_by s t => s.length + t.length
theorem jn_le : ∀ (t : List Rq) (p : Rq), (jn p t).length ≤ t.length + 1
 | [], p => by simp [jn]
 | r :: t, p => by
   unfold jn
   split
   · have := jn_le t (jnR p r); simp only [List.length_cons]; omega
   · have := jn_le t r; simp only [List.length_cons]; omega
theorem joined_le (l : List Rq) : (joinedL l).length ≤ l.length := by
 cases l with
 | nil => simp [joinedL]
 | cons x t => exact jn_le t x
theorem jn_len (s t : List Rq) : (joinedL (cmn s t)).length ≤ s.length + t.length := by
 have h1 := joined_le (cmn s t)
 have h2 := cmn_len s t
 omega
theorem rsCommonS (p : Option Addr) (cap : Nat) (a : List Rq) (q : Option Addr) (cap' : Nat) (b : List Rq) (E : Int) (R : List Rq) (w : World) (hE : E = fin3 (bothL a b) (joinedL (cmn a b))) (hRR : R = res3 (bothL a b) (joinedL (cmn a b))) (hc1 : a.length ≤ cap) (hm1 : cap ≤ 9223372036854775807) (hc2 : b.length ≤ cap') (hm2 : cap' ≤ 9223372036854775807) (hl1 : a.length ≤ 100000) (hI1 : I6 a) (hR1 : Row w p a) (hl2 : b.length ≤ 100000) (hI2 : I6 b) (hR2 : Row w q b) :
   Calls Tryz.prog 43 #[.slice p a.length cap, .slice q b.length cap'] w fun ro w' => ∃ p', ro = .returned (.tuple #[.slice p' R.length R.length, .int .i64 E]) ∧ Row w' p' R ∧ Dn w w' := by
 have HB := Lib.hid (fun W (h : Dn w W) => rsChecked p cap a q cap' b W (by omega) hI1 (hR1.dn h) (by omega) hI2 (hR2.dn h))
 by_cases hc : bothL a b = 0
 rotate_left
 · obtain rfl : E = bothL a b := by rw [hE, fin3_bad hc]
   obtain rfl : R = [] := by rw [hRR, res3_bad hc]
   have d0 : (bothL a b != 0) = true := by simpa using hc
   clear hE hRR hc hR1 hR2 hI1 hI2
   generalize bothL a b = c at *
   go_enter Tryz.func43, Tryz.ntmps43
   go_wp2_with fail
   refine (HB.out _ (Dn.refl _)).mono ?_
   rintro e w1 ⟨rfl, qw1⟩
   have uw1 := qw1
   clear qw1
   go_wp2_with fail
   go_ret2
   exact ⟨none, rfl, rownil _, uw1⟩
 · obtain ⟨hca, hcb⟩ := both_zero hc
   have ssa := chk_ok hI1 hca
   have ssb := chk_ok hI2 hcb
   have la := chk_len hca
   have lb := chk_len hcb
   rw [hc] at HB hE hRR
   clear hc hca hcb hI1 hI2
   have HJ := Lib.hid (fun W (h : Dn w W) q' c' (hr : Row W q' b) (h1 : (b).length ≤ c') (h2 : c' ≤ 9223372036854775807) => rsCommonIn p cap a q' c' (b) W (by omega) hc1 hm1 h1 h2 (Sep.all ssa) (Sep.all ssb) (hR1.dn h) hr)
   have HL := Lib.hid (fun W p' cp (h1 : (joinedL (cmn a b)).length ≤ cp) (h2 : cp ≤ 9223372036854775807) hr => lim_ok p' cp (joinedL (cmn a b)) W E R hE hRR h1 h2 hr)
   have hjl : (joinedL (cmn a b)).length ≤ 9223372036854775807 := by have := jn_len a b; omega
   have HJL := Lib.hid hjl
   have HRB := Lib.hid hR2
   clear hE hRR hjl hR1 hR2 ssa ssb
   generalize joinedL (cmn a b) = M at *
   go_enter Tryz.func43, Tryz.ntmps43
   go_wp2_with fail
   refine (HB.out _ (Dn.refl _)).mono ?_
   rintro e w1 ⟨rfl, qw1⟩
   have uw1 := qw1
   clear qw1
   go_wp2_with fail
   refine (HJ.out _ uw1 q cap' (HRB.out.dn uw1) hc2 hm2).mono ?_
   rintro e wj ⟨pj, rfl, hrj, qj⟩
   have HRJ := Lib.hid hrj
   clear hrj
   have uj := uw1.trans qj
   go_wp2_with fail
   refine (HL.out _ pj _ (Nat.le_refl _) HJL.out HRJ.out).mono ?_
   rintro e wl ⟨p2, rfl, hr2, ql⟩
   have HR2 := Lib.hid hr2
   clear hr2
   go_wp2_with fail
   go_ret2
   first | exact ⟨p2, rfl, HR2.out, uj.trans ql⟩ | exact ⟨⟨p2, rfl⟩, HR2.out, uj.trans ql⟩
set_option maxHeartbeats 4000000
set_option maxRecDepth 100000
def cntL (L : List Rq) : Int × Int := if chkL L ≠ 0 then (0, chkL L) else if L.any infB = true then (0, 16) else cntP 0 L
theorem cnt_at {L : List Rq} {k : Nat} {x : Rq} {acc : Int} (h : L[k]? = some x) : cntP acc (L.drop k) = if I64 (x.d - x.b + 1) then (if I64 (acc + (x.d - x.b + 1)) then cntP (acc + (x.d - x.b + 1)) (L.drop (k + 1)) else (0, 15)) else (0, 15) := by
 obtain ⟨hl, rfl⟩ := List.getElem?_eq_some_iff.1 h
 rw [List.drop_eq_getElem_cons hl]; rfl
theorem rsCount (p : Option Addr) (cap : Nat) (L : List Rq) (n E : Int) (w : World) (hn : n = (cntL L).1) (hE : E = (cntL L).2) (hl : L.length ≤ 100000) (hI : I6 L) (hR : Row w p L) :
   Calls Tryz.prog 44 #[.slice p L.length cap] w fun ro w' => ro = .returned (.tuple #[.int .i64 n, .int .i64 E]) ∧ Dn w w' := by
 have HB := Lib.hid (fun W (h : Dn w W) => rsCheck p cap L W (by omega) hI (hR.dn h))
 have HC := Lib.hid (fun W (h : Dn w W) => slContC p cap L W (by omega) (hR.dn h))
 by_cases hc : chkL L = 0
 rotate_left
 · have d0 : (chkL L != 0) = true := by simpa using hc
   obtain ⟨rfl, rfl⟩ : n = 0 ∧ E = chkL L := by unfold cntL at hn hE; rw [if_pos hc] at hn hE; exact ⟨hn, hE⟩
   clear hn hE hc hR hI
   generalize chkL L = c at *
   go_enter Tryz.func44, Tryz.ntmps44
   go_wp2_with fail
   refine (HB.out _ (Dn.refl _)).mono ?_
   rintro e w1 ⟨rfl, qw1⟩
   have uw1 := qw1
   clear qw1
   go_wp2_with fail
   go_ret2
   exact ⟨rfl, uw1⟩
 rw [hc] at HB
 have hok := Sep.all (chk_ok hI hc)
 have e0 : cntL L = if L.any infB = true then (0, 16) else cntP 0 L := by unfold cntL; rw [if_neg (by simpa using hc)]
 rw [e0] at hn hE
 clear e0 hc hI
 by_cases ha : L.any infB = true
 · rw [if_pos ha] at hn hE
   rw [ha] at HC
   subst hn hE
   clear hok ha hR
   go_enter Tryz.func44, Tryz.ntmps44
   go_wp2_with fail
   refine (HB.out _ (Dn.refl _)).mono ?_
   rintro e w1 ⟨rfl, qw1⟩
   have uw1 := qw1
   clear qw1
   go_wp2_with fail
   refine (HC.out _ uw1).mono ?_
   rintro e w2 ⟨rfl, qw2⟩
   have uw2 := uw1.trans qw2
   clear qw2 uw1
   go_wp2_with fail
   go_ret2
   exact ⟨rfl, uw2⟩
 · rw [if_neg ha] at hn hE
   rw [show L.any infB = false by simpa using ha] at HC
   have hinf : ∀ x ∈ L, x.a = 0 ∧ x.c = 0 := by
    intro x hx
    have h1 : L.any infB = false := by simpa using ha
    rw [List.any_eq_false] at h1
    have h2 := h1 x hx
    unfold infB at h2
    simp at h2
    exact h2
   have HN := Lib.hid hn
   have HE := Lib.hid hE
   have HOK := Lib.hid hok
   have HINF := Lib.hid hinf
   clear hn hE ha hok hinf
   go_enter Tryz.func44, Tryz.ntmps44
   go_wp2_with fail
   refine (HB.out _ (Dn.refl _)).mono ?_
   rintro e w1 ⟨rfl, qw1⟩
   have uw1 := qw1
   clear qw1
   go_wp2_with fail
   refine (HC.out _ uw1).mono ?_
   rintro e w2 ⟨rfl, qw2⟩
   have uw2 := uw1.trans qw2
   clear qw2 uw1
   go_wp2_with fail
   go_loopw [2, 3, 5, 19] (fun r1 r2 av iv wr => r1 = .int .i64 0 ∧ r2 = .int .i64 0 ∧ ∃ (k : Nat) (acc : Int), k ≤ L.length ∧ iv = .int .i64 k ∧ av = .int .i64 acc ∧ I64 acc ∧ cntP 0 L = cntP acc (L.drop k) ∧ Dn w wr) (fun _ _ _ iv _ => L.length - (intOf iv).toNat)
   case atStart => exact ⟨rfl, rfl, 0, 0, by omega, rfl, rfl, by decide, rfl, uw2⟩
   case round =>
    obtain ⟨rfl, rfl, k, acc, hk, rfl, rfl, hacc, hcnt, hu⟩ := hrel
    have HCN := Lib.hid hcnt
    clear hcnt
    by_cases hlt : k < L.length
    · have d1 : decide ((k : Int) < L.length) = true := by simp; omega
      obtain ⟨x, hx⟩ : ∃ x, L[k]? = some x := ⟨L[k], by simp [hlt]⟩
      obtain ⟨g, o, rfl, hc⟩ := hR.cs (by omega)
      obtain ⟨a0, a1, a2, a3⟩ := (hc.dn hu).el _ _ hx
      have HX := Lib.hid hx
      have hxo := HOK.out x (List.mem_of_getElem? hx)
      have hx0 := HINF.out x (List.mem_of_getElem? hx)
      have hat := cnt_at (acc := acc) hx
      have HLN := Lib.hid (fun n e W h => rnLen x.a x.b x.c x.d n e W hxo.1 hxo.2.1 (Or.inr (Or.inr ⟨hxo.2.2, hx0.1, hx0.2, h⟩)))
      clear hx hc hR hxo hx0
      by_cases hy : I64 (x.d - x.b + 1)
      · rw [if_pos hy] at hat
        have HL2 := Lib.hid (fun W => HLN.out _ _ W (Or.inl ⟨hy, rfl, rfl⟩))
        clear HLN
        generalize x.d - x.b + 1 = y at *
        by_cases hz : I64 (acc + y)
        · rw [if_pos hz] at hat
          have HAT := Lib.hid (HCN.out.trans hat)
          have HZ := Lib.hid hz
          have HA := Lib.hid (fun W => add_fits acc y W hacc hy hz)
          clear hat hy hacc hz
          go_wp2_with fail
          clear a0 a1 a2 a3
          obtain ⟨W1, hW1⟩ : ∃ W1, W1 = wr.alloc (.cells #[.int .i8 x.a, .int .i64 x.b, .int .i8 x.c, .int .i64 x.d] 30) := ⟨_, rfl⟩
          have uW1 : Dn wr W1 := by rw [hW1]; exact (Dn.refl _).alloc _
          have c2 : W1.cell? ⟨wr.heap.size, 0, none⟩ = some (.int .i8 x.a) := by rw [hW1]; simp [go_sem]
          have c3 : W1.cell? ⟨wr.heap.size, 1, none⟩ = some (.int .i64 x.b) := by rw [hW1]; simp [go_sem]
          have c4 : W1.cell? ⟨wr.heap.size, 2, none⟩ = some (.int .i8 x.c) := by rw [hW1]; simp [go_sem]
          have c5 : W1.cell? ⟨wr.heap.size, 3, none⟩ = some (.int .i64 x.d) := by rw [hW1]; simp [go_sem]
          have l6 : wr.heap.size < W1.heap.size := by rw [hW1]; simp <;> omega
          rw [← hW1]
          clear hW1
          have vW1 := hu.trans uW1
          clear uW1 hu
          refine (HL2.out _).mono ?_
          rintro e w1 ⟨rfl, qw1⟩
          have l7 := nlt l6 qw1.size
          obtain ⟨c8, c9, a4, a5⟩ := mv4 qw1.cell c2 c3 c4 c5
          clear l6 c2 c3 c4 c5
          have uw1 := vW1.trans qw1
          clear qw1 vW1
          go_wp2_with fail
          refine (HA.out _).mono ?_
          rintro e w2 ⟨rfl, qw2⟩
          replace qw2 := qw2.dn
          have a6 := nlt l7 qw2.size
          obtain ⟨a7, a8, a9, aA⟩ := mv4 qw2.cell c8 c9 a4 a5
          clear l7 c8 c9 a4 a5
          have uw2 := uw1.trans qw2
          clear qw2 uw1
          go_wp2_with fail
          go_roundw
          case rel => exact ⟨rfl, rfl, k + 1, acc + y, by omega, by simp, rfl, HZ.out, HAT.out, uw2⟩
          case measure => simp [intOf]; omega
        · rw [if_neg hz] at hat
          obtain ⟨rfl, rfl⟩ : n = 0 ∧ E = 15 := by rw [HN.out, HE.out, HCN.out, hat]; exact ⟨rfl, rfl⟩
          have HA := Lib.hid (fun W => add_over acc y W hacc hy hz)
          clear hat hy hacc hz
          go_wp2_with fail
          clear a0 a1 a2 a3
          obtain ⟨W1, hW1⟩ : ∃ W1, W1 = wr.alloc (.cells #[.int .i8 x.a, .int .i64 x.b, .int .i8 x.c, .int .i64 x.d] 30) := ⟨_, rfl⟩
          have uW1 : Dn wr W1 := by rw [hW1]; exact (Dn.refl _).alloc _
          have c2 : W1.cell? ⟨wr.heap.size, 0, none⟩ = some (.int .i8 x.a) := by rw [hW1]; simp [go_sem]
          have c3 : W1.cell? ⟨wr.heap.size, 1, none⟩ = some (.int .i64 x.b) := by rw [hW1]; simp [go_sem]
          have c4 : W1.cell? ⟨wr.heap.size, 2, none⟩ = some (.int .i8 x.c) := by rw [hW1]; simp [go_sem]
          have c5 : W1.cell? ⟨wr.heap.size, 3, none⟩ = some (.int .i64 x.d) := by rw [hW1]; simp [go_sem]
          have l6 : wr.heap.size < W1.heap.size := by rw [hW1]; simp <;> omega
          rw [← hW1]
          clear hW1
          have vW1 := hu.trans uW1
          clear uW1 hu
          refine (HL2.out _).mono ?_
          rintro e w1 ⟨rfl, qw1⟩
          have l7 := nlt l6 qw1.size
          obtain ⟨c8, c9, a4, a5⟩ := mv4 qw1.cell c2 c3 c4 c5
          clear l6 c2 c3 c4 c5
          have uw1 := vW1.trans qw1
          clear qw1 vW1
          go_wp2_with fail
          refine (HA.out _).mono ?_
          rintro e w2 ⟨rfl, qw2⟩
          replace qw2 := qw2.dn
          have a6 := nlt l7 qw2.size
          obtain ⟨a7, a8, a9, aA⟩ := mv4 qw2.cell c8 c9 a4 a5
          clear l7 c8 c9 a4 a5
          have uw2 := uw1.trans qw2
          clear qw2 uw1
          go_wp2_with fail
          go_ret2
          exact ⟨rfl, uw2⟩
      · rw [if_neg hy] at hat
        obtain ⟨rfl, rfl⟩ : n = 0 ∧ E = 15 := by rw [HN.out, HE.out, HCN.out, hat]; exact ⟨rfl, rfl⟩
        have HL2 := Lib.hid (fun W => HLN.out _ _ W (Or.inr ⟨hy, rfl, rfl⟩))
        clear hat hy hacc HLN
        go_wp2_with fail
        clear a0 a1 a2 a3
        obtain ⟨W1, hW1⟩ : ∃ W1, W1 = wr.alloc (.cells #[.int .i8 x.a, .int .i64 x.b, .int .i8 x.c, .int .i64 x.d] 30) := ⟨_, rfl⟩
        have uW1 : Dn wr W1 := by rw [hW1]; exact (Dn.refl _).alloc _
        have c2 : W1.cell? ⟨wr.heap.size, 0, none⟩ = some (.int .i8 x.a) := by rw [hW1]; simp [go_sem]
        have c3 : W1.cell? ⟨wr.heap.size, 1, none⟩ = some (.int .i64 x.b) := by rw [hW1]; simp [go_sem]
        have c4 : W1.cell? ⟨wr.heap.size, 2, none⟩ = some (.int .i8 x.c) := by rw [hW1]; simp [go_sem]
        have c5 : W1.cell? ⟨wr.heap.size, 3, none⟩ = some (.int .i64 x.d) := by rw [hW1]; simp [go_sem]
        have l6 : wr.heap.size < W1.heap.size := by rw [hW1]; simp <;> omega
        rw [← hW1]
        clear hW1
        have vW1 := hu.trans uW1
        clear uW1 hu
        refine (HL2.out _).mono ?_
        rintro e w1 ⟨rfl, qw1⟩
        have l7 := nlt l6 qw1.size
        obtain ⟨c8, c9, a4, a5⟩ := mv4 qw1.cell c2 c3 c4 c5
        clear l6 c2 c3 c4 c5
        have uw1 := vW1.trans qw1
        clear qw1 vW1
        go_wp2_with fail
        go_ret2
        exact ⟨rfl, uw1⟩
    · obtain rfl : k = L.length := by omega
      have d1 : decide ((L.length : Int) < L.length) = false := by simp
      obtain ⟨rfl, rfl⟩ : n = acc ∧ E = 0 := by rw [HN.out, HE.out, HCN.out]; simp [cntP]
      go_wp2_with fail
      go_ret2
      exact ⟨rfl, hu⟩
def joinC : List (List UInt8) → List UInt8
 | [] => []
 | [x] => x
 | x :: y :: t => x ++ 44 :: joinC (y :: t)
theorem joinC_len : ∀ (L : List (List UInt8)) (n : Nat), (∀ x ∈ L, x.length ≤ n) → (joinC L).length ≤ L.length * (n + 1)
 | [], n, _ => by simp [joinC]
 | [x], n, h => by have := h x List.mem_cons_self; simp [joinC]; omega
 | x :: y :: t, n, h => by
   have h1 := h x List.mem_cons_self
   have h2 := joinC_len (y :: t) n (fun z hz => h z (List.mem_cons_of_mem _ hz))
   unfold joinC
   simp only [List.length_append, List.length_cons] at *
   have : (t.length + 1 + 1) * (n + 1) = (t.length + 1) * (n + 1) + (n + 1) := by rw [Nat.add_mul (t.length + 1) 1]; omega
   omega
set_option maxHeartbeats 4000000
set_option maxRecDepth 100000
theorem rnBT (a b c d : Int) (s t : ByteArray) (HA : Hid (∀ W, EnvR W → Calls Tryz.prog 142 #[.agg #[.int .i8 a, .int .i64 b]] W fun o w' => o = .returned (.tuple #[.string s, .int .i64 0]) ∧ Dn W w')) (HB : Hid (∀ W, EnvR W → Calls Tryz.prog 142 #[.agg #[.int .i8 c, .int .i64 d]] W fun o w' => o = .returned (.tuple #[.string t, .int .i64 0]) ∧ Dn W w')) (w : World) (hE : EnvR w) :
  Calls Tryz.prog 141 #[.agg #[.int .i8 a, .int .i64 b], .agg #[.int .i8 c, .int .i64 d], .func (.func 142) #[] #[]] w fun ro w' => ro = .returned (.tuple #[.agg #[.string s, .string t], .int .i64 0]) ∧ Dn w w' := by
 go_enter Tryz.func141, Tryz.ntmps141
 go_wp2_with fail
 obtain ⟨W1, hW1⟩ : ∃ W1, W1 = ((w.alloc (.cells #[.int .i8 a, .int .i64 b] 28)).alloc (.cells #[.int .i8 c, .int .i64 d] 28)).alloc (.cells #[.string ⟨#[]⟩, .string ⟨#[]⟩] 173) := ⟨_, rfl⟩
 have uW1 : Dn w W1 := by rw [hW1]; exact (((Dn.refl _).alloc _).alloc _).alloc _
 have n2 : w.heap.size ≠ w.heap.size + 1 + 1 := by omega
 have n3 : w.heap.size + 1 ≠ w.heap.size + 1 + 1 := by omega
 have c4 : W1.cell? ⟨w.heap.size, 0, none⟩ = some (.int .i8 a) := by rw [hW1]; simp [go_sem]
 have c5 : W1.cell? ⟨w.heap.size, 1, none⟩ = some (.int .i64 b) := by rw [hW1]; simp [go_sem]
 have l6 : w.heap.size < W1.heap.size := by rw [hW1]; simp <;> omega
 have c7 : W1.cell? ⟨w.heap.size + 1, 0, none⟩ = some (.int .i8 c) := by rw [hW1]; simp [go_sem]
 have c8 : W1.cell? ⟨w.heap.size + 1, 1, none⟩ = some (.int .i64 d) := by rw [hW1]; simp [go_sem]
 have l9 : w.heap.size + 1 < W1.heap.size := by rw [hW1]; simp <;> omega
 have a2 : W1.cell? ⟨w.heap.size + 1 + 1, 0, none⟩ = some (.string ⟨#[]⟩) := by rw [hW1]; simp [go_sem]
 have a3 : W1.cell? ⟨w.heap.size + 1 + 1, 1, none⟩ = some (.string ⟨#[]⟩) := by rw [hW1]; simp [go_sem]
 have a0 : w.heap.size + 1 + 1 < W1.heap.size := by rw [hW1]; simp <;> omega
 have f13 : W1.frozen? ⟨w.heap.size + 1 + 1, 0, none⟩ = false := by rw [hW1]; simp [go_sem]
 have f14 : W1.frozen? ⟨w.heap.size + 1 + 1, 1, none⟩ = false := by rw [hW1]; simp [go_sem]
 rw [← hW1]
 clear hW1
 refine (HA.out _ (hE.dn uW1)).mono ?_
 rintro e w1 ⟨rfl, qw1⟩
 have a4 := nlt l6 qw1.size
 have a7 := nlt l9 qw1.size
 obtain ⟨a5, a6, a8, a9⟩ := mv4 qw1.cell c4 c5 c7 c8
 have f21 := (qw1.frozen (a := ⟨w.heap.size + 1 + 1, 0, none⟩) a0).trans f13
 have f22 := (qw1.frozen (a := ⟨w.heap.size + 1 + 1, 1, none⟩) a0).trans f14
 have a1 := nlt a0 qw1.size
 have aA := qw1.cell a2
 have aB := qw1.cell a3
 clear l6 c4 c5 l9 c7 c8 f13 f14 a0 a2 a3
 have uw1 := uW1.trans qw1
 clear qw1 uW1
 go_wp2_with fail
 refine (HB.out _ (hE.dn uw1)).mono ?_
 rintro e w2 ⟨rfl, qw2⟩
 have aI := nlt a4 qw2.size
 have aJ := nlt a7 qw2.size
 obtain ⟨aC, aD, aE, aF⟩ := mv4 qw2.cell a5 a6 a8 a9
 have f32 := (qw2.frozen (a := ⟨w.heap.size + 1 + 1, 0, none⟩) a1).trans f21
 have f33 := (qw2.frozen (a := ⟨w.heap.size + 1 + 1, 1, none⟩) a1).trans f22
 have aK := nlt a1 qw2.size
 have aG := qw2.cell aA
 have aH := qw2.cell aB
 clear a4 a5 a6 a7 a8 a9 f21 f22 a1 aA aB
 have uw2 := uw1.trans qw2
 clear qw2 uw1
 go_wp2_with fail
 exact bodyPost_ret (v := .tuple #[.agg #[.string s, .string t], .int .i64 0]) (by simp [results, Tryz.results141, go_sem, aC, aD, aE, aF, aG, aH, f32, f33] <;> omega) rfl ⟨rfl, ((uw2.setCell (by simp <;> omega) _).setCell (by simp <;> omega) _)⟩
theorem preCl87x1 (w : World) (a b c d : Int) : ∃ W1, W1 = w.alloc (.cells #[.int .i8 a, .int .i64 b, .int .i8 c, .int .i64 d] 30) ∧ (Dn w W1) ∧ (W1.cell? ⟨w.heap.size, 0, none⟩ = some (.int .i8 a)) ∧ (W1.cell? ⟨w.heap.size, 1, none⟩ = some (.int .i64 b)) ∧ (W1.cell? ⟨w.heap.size, 2, none⟩ = some (.int .i8 c)) ∧ (W1.cell? ⟨w.heap.size, 3, none⟩ = some (.int .i64 d)) ∧ (w.heap.size < W1.heap.size) := by
  obtain ⟨W1, hW1⟩ : ∃ W1, W1 = w.alloc (.cells #[.int .i8 a, .int .i64 b, .int .i8 c, .int .i64 d] 30) := ⟨_, rfl⟩
  exact ⟨W1, hW1, (by rw [hW1]; exact (Dn.refl _).alloc _), (by rw [hW1]; simp [go_sem]), (by rw [hW1]; simp [go_sem]), (by rw [hW1]; simp [go_sem]), (by rw [hW1]; simp [go_sem]), (by rw [hW1]; simp <;> omega)⟩
theorem rnTx_ok (a b c d : Int) (s t : ByteArray) (hs : s.size ≤ 1000) (ht : t.size ≤ 1000) (HC : Hid (ChkIs a b c d 0)) (HB : Hid (∀ W, EnvR W → Calls Tryz.prog 141 #[.agg #[.int .i8 a, .int .i64 b], .agg #[.int .i8 c, .int .i64 d], .func (.func 142) #[] #[]] W fun o w' => o = .returned (.tuple #[.agg #[.string s, .string t], .int .i64 0]) ∧ Dn W w')) (w : World) (hE : EnvR w) :
  Calls Tryz.prog 103 #[.agg #[.int .i8 a, .int .i64 b, .int .i8 c, .int .i64 d]] w fun ro w' => ro = .returned (.tuple #[.string (s ++ ⟨#[46, 46]⟩ ++ t), .int .i64 0]) ∧ Dn w w' := by
 have z1 : ¬ (9223372036854775807 < s.size + 2) := by omega
 have z2 : ¬ (9223372036854775807 < s.size + 2 + t.size) := by omega
 go_enter Tryz.func103, Tryz.ntmps103
 go_wp2_with fail
 obtain ⟨W1, hW1, uW1, c2, c3, c4, c5, l6⟩ := preCl87x1 w a b c d
 rw [← hW1]
 clear hW1
 refine (HC.out _).mono ?_
 rintro e w1 ⟨rfl, qw1⟩
 have l7 := nlt l6 qw1.size
 obtain ⟨c8, c9, a0, a1⟩ := mv4 qw1.cell c2 c3 c4 c5
 clear l6 c2 c3 c4 c5
 have uw1 := uW1.trans qw1
 clear qw1 uW1
 go_wp2_with fail
 refine (HB.out _ (hE.dn uw1)).mono ?_
 rintro e w2 ⟨rfl, qw2⟩
 have a2 := nlt l7 qw2.size
 obtain ⟨a3, a4, a5, a6⟩ := mv4 qw2.cell c8 c9 a0 a1
 clear l7 c8 c9 a0 a1
 have uw2 := uw1.trans qw2
 clear qw2 uw1
 go_wp2_with fail
 go_ret2
 exact ⟨rfl, uw2.alloc _⟩
def rStr (a b c d : Int) : ByteArray := eStr a b ++ ⟨#[46, 46]⟩ ++ eStr c d
theorem eStr_sz (i d : Int) (hd : I64 d) : (eStr i d).size ≤ 1000 := by
 unfold eStr
 split
 · exact size_itoa d hd
 · split <;> decide
theorem rnText (a b c d : Int) (w : World) (hb : I64 b) (hd : I64 d) (h : RnOk a b c d) (hE : EnvR w) :
  Calls Tryz.prog 103 #[.agg #[.int .i8 a, .int .i64 b, .int .i8 c, .int .i64 d]] w fun ro w' => ro = .returned (.tuple #[.string (rStr a b c d), .int .i64 0]) ∧ Dn w w' := by
 have HC : Hid (ChkIs a b c d (rnErr a b c d)) := Lib.hid (rnChk a b c d)
 rw [(rnErr_ok hb hd).2 h] at HC
 have HA : Hid (∀ W, EnvR W → Calls Tryz.prog 142 #[.agg #[.int .i8 a, .int .i64 b]] W fun o w' => o = .returned (.tuple #[.string (eStr a b), .int .i64 0]) ∧ Dn W w') := Lib.hid (fun W hW => (eText_ok a b W h.1 hb hW.i).mono fun _ _ ⟨h1, h2⟩ => ⟨h1, h2.dn⟩)
 have HB : Hid (∀ W, EnvR W → Calls Tryz.prog 142 #[.agg #[.int .i8 c, .int .i64 d]] W fun o w' => o = .returned (.tuple #[.string (eStr c d), .int .i64 0]) ∧ Dn W w') := Lib.hid (fun W hW => (eText_ok c d W h.2.1 hd hW.i).mono fun _ _ ⟨h1, h2⟩ => ⟨h1, h2.dn⟩)
 exact rnTx_ok a b c d _ _ (eStr_sz a b hb) (eStr_sz c d hd) HC (Lib.hid fun W hW => rnBT a b c d _ _ HA HB W hW) w hE
set_option maxHeartbeats 4000000
set_option maxRecDepth 100000
def tx (x : Rq) : List UInt8 := (rStr x.a x.b x.c x.d).data.toList
def jnT (l : List Rq) : ByteArray := ⟨(joinC (l.map tx)).toArray⟩
def noneS : ByteArray := ⟨#[110, 111, 110, 101]⟩
def txtL (L : List Rq) : ByteArray := if L = [] then noneS else jnT L
theorem joinTail_is : ∀ (x : List UInt8) (r : List (List UInt8)), [44].intercalate (x :: r) = joinC (x :: r)
 | x, [] => by simp [List.intercalate, joinC]
 | x, y :: t => by
   have ih := joinTail_is y t
   unfold joinC
   rw [← ih]
   simp [List.intercalate]
theorem join_is (L : List (List UInt8)) : Lib.join L [44] = joinC L := by
 cases L with
 | nil => rfl
 | cons x r => exact joinTail_is x r
theorem tx_len {x : Rq} (hb : I64 x.b) (hd : I64 x.d) : (tx x).length ≤ 2002 := by
 have h1 := eStr_sz x.a x.b hb
 have h2 := eStr_sz x.c x.d hd
 unfold tx rStr
 simp [ByteArray.data_append]; omega
theorem jnT_len {l : List Rq} (h : I6 l) : (joinC (l.map tx)).length ≤ l.length * 2003 := by
 have := joinC_len (l.map tx) 2002 (fun t ht => by
  obtain ⟨x, hx, rfl⟩ := List.mem_map.1 ht
  exact tx_len (h x hx).1 (h x hx).2)
 simpa using this
theorem jnT_size {l : List Rq} (h : I6 l) : (jnT l).size ≤ l.length * 2003 := by
 rw [Lib.size_eq]; exact jnT_len h
structure LtH (w : World) (B : Nat) : Prop where
 lt : B < w.heap.size
theorem LtH.dn {w w2 : World} {B : Nat} (h : LtH w B) (q : Dn w w2) : LtH w2 B := ⟨Nat.lt_of_lt_of_le h.lt q.size⟩
def rS (x : Rq) : ByteArray := rStr x.a x.b x.c x.d
structure TxRel (B : Nat) (L : List Rq) (k : Nat) (wr : World) (O : List ByteArray) : Prop where
 own : wr.ownsRow 0 9 1 (.slice (some ⟨B, 0, none⟩) L.length L.length) L.length (O.map Value.string)
 len : O.length = L.length
 at_ : ∀ j x, j < k → L[j]? = some x → O[j]? = some (rS x)
theorem TxRel.dn {B : Nat} {L : List Rq} {k : Nat} {wr w' : World} {O : List ByteArray} (h : TxRel B L k wr O) (q : Dn wr w') : TxRel B L k w' O :=
 ⟨h.own.kept (grown_dn q none) (Or.inr (by simp [Value.ownBlock])), h.len, h.at_⟩
theorem TxRel.cell {B : Nat} {L : List Rq} {k : Nat} {wr : World} {O : List ByteArray} (h : TxRel B L k wr O) {j : Nat} (hj : j < L.length) : ∃ v, wr.cell? ⟨B, j, none⟩ = some (.string v) ∧ wr.frozen? ⟨B, j, none⟩ = false := by
 have hl := h.len
 refine ⟨O[j], ?_, h.own.frozenAt j⟩
 rw [h.own.cellAt j (by omega), List.getElem?_map, List.getElem?_eq_getElem (by omega)]
 rfl
theorem TxRel.set {B : Nat} {L : List Rq} {k : Nat} {wr : World} {O : List ByteArray} (h : TxRel B L k wr O) {x : Rq} (hx : L[k]? = some x) : TxRel B L (k + 1) (wr.setCell ⟨B, k, none⟩ (.string (rS x))) (O.set k (rS x)) := by
 have hl := (List.getElem?_eq_some_iff.1 hx).1
 refine ⟨?_, by rw [List.length_set]; exact h.len, fun j y hj hy => ?_⟩
 · have := (h.own.stored k (.string (rS x))).1
   rwa [← List.map_set] at this
 · by_cases e : j = k
   · subst e
     rw [hx] at hy; cases hy
     rw [List.getElem?_set_self (by rw [h.len]; exact hl)]
   · rw [List.getElem?_set_ne (fun e' => e e'.symm)]
     exact h.at_ j y (by omega) hy
theorem TxRel.all {B : Nat} {L : List Rq} {wr : World} {O : List ByteArray} (h : TxRel B L L.length wr O) : O = L.map rS := by
 apply List.ext_getElem?
 intro j
 rw [List.getElem?_map]
 by_cases hj : j < L.length
 · rw [h.at_ j L[j] hj (by simp [hj])]; simp [hj]
 · rw [List.getElem?_eq_none (by rw [h.len]; omega), List.getElem?_eq_none (by omega)]; rfl
theorem TxRel.new (w : World) (L : List Rq) (hl : L.length ≤ 100) : TxRel w.heap.size L 0 (w.alloc (.cells (madeCells #[.string ⟨#[]⟩] L.length) 9)) (List.replicate L.length ⟨#[]⟩) := by
 refine ⟨?_, by simp, fun j x hj => by omega⟩
 have h := World.ownsRow_lit (base := 0) (e := 9) (size := 1) w (madeCells #[.string ⟨#[]⟩] L.length) L.length (Nat.zero_le _) (by unfold maxLen; omega) (by rw [size_madeCells]; omega)
 rw [toList_madeCells_one] at h
 simpa using h
theorem infoStr : (Tryz.prog.info? 9).map (fun i => (i.zero, i.size, i.bytes)) = some (some (.string ⟨#[]⟩), 1, 16) := by kernel_rfl
theorem run_mkS (N : Nat) (hN : N ≤ 1000000) (w : World) : (Instr.makeSlice 142 (.int .i64 (N : Int)) (.int .i64 (N : Int))).run Tryz.prog w = .ok (.slice (some ⟨w.heap.size, 0, none⟩) N N) (w.alloc (.cells (madeCells #[.string ⟨#[]⟩] N) 9)) := by
 obtain ⟨i0, hi, hz0, hz1, hz2⟩ := info_parts infoStr
 have h := run_make (P := Tryz.prog) w 142 9 i0 (.string ⟨#[]⟩) Tryz.underlying142 hi hz0 .i64 .i64 N N (by omega) (by omega) (by rw [hz2]; omega) (by omega)
 rw [hz1] at h
 simpa [Value.cells] using h
theorem join_rS (L : List Rq) : (⟨(Lib.join ((L.map rS).map (·.data.toList)) [44]).toArray⟩ : ByteArray) = jnT L := by
 rw [join_is, List.map_map]; rfl
theorem rsTextS (p : Option Addr) (cap : Nat) (L : List Rq) (T : ByteArray) (w : World) (hT : T = if chkL L = 0 then txtL L else ⟨#[]⟩) (hE : EnvR w) (hl : L.length ≤ 100) (hI : I6 L) (hR : Row w p L) :
   Calls Tryz.prog 46 #[.slice p L.length cap] w fun ro w' => ro = .returned (.tuple #[.string T, .int .i64 (chkL L)]) ∧ Dn w w' := by
 have HB := Lib.hid (fun W (h : Dn w W) => rsCheck p cap L W (by omega) hI (hR.dn h))
 by_cases hc : chkL L = 0
 rotate_left
 · have d0 : (chkL L != 0) = true := by simpa using hc
   obtain rfl : T = ⟨#[]⟩ := by rw [hT, if_neg hc]
   clear hT hc hR hI
   generalize chkL L = c at *
   go_enter Tryz.func46, Tryz.ntmps46
   go_wp2_with fail
   refine (HB.out _ (Dn.refl _)).mono ?_
   rintro e w1 ⟨rfl, qw1⟩
   have uw1 := qw1
   clear qw1
   go_wp2_with fail
   go_ret2
   exact ⟨rfl, uw1⟩
 obtain rfl : T = txtL L := by rw [hT, if_pos hc]
 have hok := Sep.all (chk_ok hI hc)
 rw [hc] at HB ⊢
 have HOK := Lib.hid hok
 have HI := Lib.hid hI
 clear hT hc hok hI
 by_cases h0 : L = []
 · subst h0
   go_enter Tryz.func46, Tryz.ntmps46
   go_wp2_with fail
   refine (HB.out _ (Dn.refl _)).mono ?_
   rintro e w1 ⟨rfl, qw1⟩
   have uw1 := qw1
   clear qw1
   go_wp2_with fail
   go_ret2
   exact ⟨rfl, uw1⟩
 have hn := Lib.hid (show txtL L = jnT L by unfold txtL; rw [if_neg h0])
 have h1 : 0 < L.length := List.length_pos_iff.2 h0
 have d2 : ((L.length : Int) == 0) = false := by simp; omega
 have d4 : decide ((L.length : Int) = 0) = false := by simp; omega
 have d5 : decide (L.length = 0) = false := by simp; omega
 have hmk := run_mkS L.length (by omega)
 rw [hn.out]
 clear h0 hn
 generalize hZC : madeCells #[.string ⟨#[]⟩] L.length = ZC at *
 have HZC := Lib.hid hZC
 clear hZC
 go_enter Tryz.func46, Tryz.ntmps46
 go_wp2_with fail
 refine (HB.out _ (Dn.refl _)).mono ?_
 rintro e w1 ⟨rfl, qw1⟩
 have uw1 := qw1
 clear qw1
 go_wp2_with fail
 obtain ⟨W1, hW1⟩ : ∃ W1, W1 = w1.alloc (.cells ZC 9) := ⟨_, rfl⟩
 have htx : TxRel w1.heap.size L 0 W1 (List.replicate L.length ⟨#[]⟩) := by rw [hW1, ← HZC.out]; exact TxRel.new _ L hl
 have u2 : Dn w W1 := by rw [hW1]; exact uw1.alloc _
 have hBB : w.heap.size ≤ w1.heap.size := uw1.size
 have hBL : w1.heap.size < W1.heap.size := by rw [hW1]; simp
 rw [← hW1]
 generalize w1.heap.size = B at *
 have HTX := Lib.hid htx
 have HBB := Lib.hid hBB
 have HBL := Lib.hid hBL
 clear hW1 htx hBB hBL HZC hmk uw1
 go_loopw [22] (fun iv wr => ∃ (k : Nat) (O : List ByteArray), k ≤ L.length ∧ iv = .int .i64 k ∧ TxRel B L k wr O ∧ B < wr.heap.size ∧ Dn w wr) (fun iv _ => L.length - (intOf iv).toNat)
 case atStart => exact ⟨0, _, by omega, rfl, HTX.out, HBL.out, u2⟩
 case round =>
   obtain ⟨k, O, hk, rfl, htr, hBr, hu⟩ := hrel
   clear HTX HBL
   by_cases hlt : k < L.length
   · have d1 : decide ((k : Int) < L.length) = true := by simp; omega
     obtain ⟨x, hx⟩ : ∃ x, L[k]? = some x := ⟨L[k], by simp [hlt]⟩
     obtain ⟨g, o, rfl, hc⟩ := hR.cs (by omega)
     obtain ⟨a0, a1, a2, a3⟩ := (hc.dn hu).el _ _ hx
     have hxi := HI.out x (List.mem_of_getElem? hx)
     have hxo := (HOK.out x (List.mem_of_getElem? hx)).2.2
     have HT := Lib.hid (fun W (h : Dn w W) => rnText x.a x.b x.c x.d W hxi.1 hxi.2 hxo (hE.dn h))
     have HX := Lib.hid hx
     have hlh : LtH wr B := ⟨hBr⟩
     clear hx hc hR hxi hxo hBr
     go_wp2_with fail
     clear a0 a1 a2 a3
     obtain ⟨W1, hW1⟩ : ∃ W1, W1 = wr.alloc (.cells #[.int .i8 x.a, .int .i64 x.b, .int .i8 x.c, .int .i64 x.d] 30) := ⟨_, rfl⟩
     have uW1 : Dn wr W1 := by rw [hW1]; exact (Dn.refl _).alloc _
     replace htr := htr.dn uW1
     replace hlh := hlh.dn uW1
     have c2 : W1.cell? ⟨wr.heap.size, 0, none⟩ = some (.int .i8 x.a) := by rw [hW1]; simp [go_sem]
     have c3 : W1.cell? ⟨wr.heap.size, 1, none⟩ = some (.int .i64 x.b) := by rw [hW1]; simp [go_sem]
     have c4 : W1.cell? ⟨wr.heap.size, 2, none⟩ = some (.int .i8 x.c) := by rw [hW1]; simp [go_sem]
     have c5 : W1.cell? ⟨wr.heap.size, 3, none⟩ = some (.int .i64 x.d) := by rw [hW1]; simp [go_sem]
     have l6 : wr.heap.size < W1.heap.size := by rw [hW1]; simp <;> omega
     rw [← hW1]
     clear hW1
     have vW1 := hu.trans uW1
     clear uW1 hu
     refine (HT.out _ vW1).mono ?_
     rintro e w1 ⟨rfl, qw1⟩
     replace htr := htr.dn qw1
     replace hlh := hlh.dn qw1
     have l7 := nlt l6 qw1.size
     obtain ⟨c8, c9, c10, c11⟩ := mv4 qw1.cell c2 c3 c4 c5
     clear l6 c2 c3 c4 c5
     have uw1 := vW1.trans qw1
     clear qw1 vW1
     obtain ⟨v0, hcell, hfz⟩ := htr.cell hlt
     have hBr2 := hlh.lt
     clear hlh
     have HTR := Lib.hid htr
     clear htr
     go_wp2_with fail
     go_roundw
     case rel => exact ⟨k + 1, _, by omega, by simp, HTR.out.set HX.out, by simpa using hBr2, uw1.setCell HBB.out _⟩
     case measure => simp [intOf]; omega
   · obtain rfl : k = L.length := by omega
     have d1 : decide ((L.length : Int) < L.length) = false := by simp
     obtain rfl := htr.all
     have HJ := Lib.hid (fun W (q : Dn wr W) => Tryz.strings_Join B 0 L.length (L.map rS) ⟨#[44]⟩ W (fun j x hx => by
      have hj : j < L.length := by have := (List.getElem?_eq_some_iff.1 hx).1; simpa using this
      rw [Nat.zero_add]
      exact q.cell (by rw [htr.own.cellAt j (by omega), List.getElem?_map, hx]; rfl)) (Nat.lt_of_lt_of_le hBr q.size) (by simp; omega) (by simp) (by
       have h1 := jnT_size HI.out
       rw [← join_rS, Lib.size_eq] at h1
       have h2 : (⟨#[44]⟩ : ByteArray).data.toList = [44] := rfl
       rw [h2]
       exact Nat.le_trans h1 (by omega)))
     simp only [List.length_map] at HJ
     have hjz : (jnT L).size ≤ 200300 := Nat.le_trans (jnT_size HI.out) (by omega)
     have hlim : decide (((jnT L).size : Int) > 1048576) = false := by simp; omega
     have hlim2 : decide (1048576 < (jnT L).size) = false := by simp; omega
     have HJE := Lib.hid (join_rS L)
     clear htr hBr hjz hR
     go_wp2_with fail
     refine (HJ.out _ (Dn.refl _)).mono ?_
     rintro e w5 ⟨rfl, hb5⟩
     have u5' : Dn w w5 := hu.trans ⟨hb5⟩
     rw [HJE.out]
     clear hb5
     go_wp2_with fail
     go_ret2
     exact ⟨rfl, u5'⟩
end Go.Proofs.YteodjglbpfmikaaGreatDoor
namespace Go.Proofs.YteodjglbpfmikaaGreatDoor
set_option maxHeartbeats 4000000
set_option maxRecDepth 100000
open Go.RowKit
set_option linter.unusedVariables false
set_option linter.unusedSimpArgs false
namespace Fl
theorem small_exact {n : Int} (h0 : 0 ≤ n) (h1 : n < 9007199254740992) : MG (fdn n) = n * U := by
 have h2 : mg (nr n.natAbs) = n.natAbs * un 1074 := nr_exact (k := 0) (Nat.lt_of_lt_of_le (show n.natAbs < 2 ^ 53 by omega) (un_le (by decide))) (by simp [Nat.mod_one]) (by simp; omega)
 have h3 : fns n = (nr n.natAbs : Int) := by unfold fns; rw [if_neg (by omega)]
 have h4 : MG (fns n) = n * U := by
  rw [h3]
  unfold MG
  rw [if_neg (by omega), show ((nr n.natAbs : Int)).natAbs = nr n.natAbs by omega, h2]
  show ((n.natAbs * un 1074 : Nat) : Int) = n * U
  rw [Int.natCast_mul, show ((n.natAbs : Nat) : Int) = n by omega]
  rfl
 have h5 : fdn n = fns n := by
  unfold fdn
  rw [h4, if_neg]
  unfold c3
  rw [if_neg (by omega), if_neg (by omega)]
  decide
 rw [h5, h4]
end Fl
open Fl
theorem tDown (w : World) : Calls Tryz.prog 9 #[.int .i64 730544] w fun ro w' => (∃ y, ro = .returned (.float .f64 y) ∧ rg y < top ∧ flo y = 730544) ∧ Dn w w' := by
 obtain ⟨y, ⟨h2, h3⟩, hw⟩ := f_down 730544 (by decide)
 refine (hw w).mono fun e w' h => ?_
 obtain ⟨h1, rfl⟩ := h
 refine ⟨⟨y, h1, h2, ?_⟩, Dn.refl _⟩
 have hv : val y = 730544 * U := by rw [val_sr, h3]; exact small_exact (by decide) (by decide)
 exact flo_eq (by omega) (by have := U_pos; rw [hv, Int.add_mul]; omega)
theorem tFloor {y : Nat} (h : rg y < top) (hf : flo y = 730544) (w : World) : Calls Tryz.prog 11 #[.float .f64 y] w fun ro w' => ro = .returned (.tuple #[.int .i64 730544, .int .i64 0]) ∧ Dn w w' := by
 refine (f_floor h w).mono fun e w' q => ?_
 obtain ⟨q1, rfl⟩ := q
 refine ⟨?_, Dn.refl _⟩
 rw [hf] at q1
 rcases q1 with q1 | q1
 · exact q1.2
 · exact absurd (by decide) q1.1
theorem tI6 (x : Rq) (h : I64 x.b ∧ I64 x.d) : I6 [x] := fun y hy => by obtain rfl := List.mem_singleton.1 hy; exact h
theorem tCmn : cmn [⟨0, 730485, 0, 730850⟩] [⟨0, 730545, 0, 730636⟩] = [⟨0, 730545, 0, 730636⟩] := by
 unfold cmn
 rw [if_pos (by decide +kernel), if_neg (by decide +kernel)]
 unfold cmn
 decide +kernel
theorem tCommon (W : World) (p q : Option Addr) (r1 : Row W p [⟨0, 730485, 0, 730850⟩]) (r2 : Row W q [⟨0, 730545, 0, 730636⟩]) : Calls Tryz.prog 43 #[.slice p 1 1, .slice q 1 1] W fun ro w' => ∃ p', ro = .returned (.tuple #[.slice p' 1 1, .int .i64 0]) ∧ Row w' p' [⟨0, 730545, 0, 730636⟩] ∧ Dn W w' :=
 rsCommonS p 1 [⟨0, 730485, 0, 730850⟩] q 1 [⟨0, 730545, 0, 730636⟩] 0 [⟨0, 730545, 0, 730636⟩] W (by rw [tCmn]; decide +kernel) (by rw [tCmn]; decide +kernel) (by decide) (by decide) (by decide) (by decide) (by decide) (tI6 _ (by decide)) r1 (by decide) (tI6 _ (by decide)) r2
theorem tCount (W : World) (p : Option Addr) (r : Row W p [⟨0, 730545, 0, 730636⟩]) : Calls Tryz.prog 44 #[.slice p 1 1] W fun ro w' => ro = .returned (.tuple #[.int .i64 92, .int .i64 0]) ∧ Dn W w' :=
 rsCount p 1 [⟨0, 730545, 0, 730636⟩] 92 0 W (by decide +kernel) (by decide +kernel) (by decide) (tI6 _ (by decide)) r
theorem tText (W : World) (p : Option Addr) (r : Row W p [⟨0, 730545, 0, 730636⟩]) (hE : EnvP W) : Calls Tryz.prog 46 #[.slice p 1 1] W fun ro w' => ro = .returned (.tuple #[.string ⟨#[55, 51, 48, 53, 52, 53, 46, 46, 55, 51, 48, 54, 51, 54]⟩, .int .i64 0]) ∧ Dn W w' := by
 have h := rsTextS p 1 [⟨0, 730545, 0, 730636⟩] ⟨#[55, 51, 48, 53, 52, 53, 46, 46, 55, 51, 48, 54, 51, 54]⟩ W (by decide +kernel) hE.r (by decide) (tI6 _ (by decide)) r
 rw [show chkL [⟨0, 730545, 0, 730636⟩] = 0 by decide +kernel] at h
 exact h
theorem rq_new (w : World) (L : List Rq) (arr : Array Value) (h : arr = (L.flatMap qc).toArray) : Row (w.alloc (.cells arr 30)) (some ⟨w.heap.size, 0, none⟩) L := by
 refine ⟨.inr ⟨_, _, rfl, by simp, fun k x hx => ?_⟩⟩
 subst h
 have g := fun j hj => qc_get L k j x hx hj
 have g0 := g 0 (by decide); have g1 := g 1 (by decide); have g2 := g 2 (by decide); have g3 := g 3 (by decide)
 simp only [qc, Nat.add_zero] at g0 g1 g2 g3
 refine ⟨?_, ?_, ?_, ?_⟩
 · simp [go_sem]; exact g0
 · simp [go_sem]; exact g1
 · simp [go_sem]; exact g2
 · simp [go_sem]; exact g3
theorem preCl89x1 (w2 : World) : ∃ W1, W1 = w2.alloc (.cells #[.int .i8 0, .int .i64 730545, .int .i8 0, .int .i64 730636] 30) ∧ (Dn w2 W1) ∧ (W1.cell? ⟨w2.heap.size, 0, none⟩ = some (.int .i8 0)) ∧ (W1.cell? ⟨w2.heap.size, 1, none⟩ = some (.int .i64 730545)) ∧ (W1.cell? ⟨w2.heap.size, 2, none⟩ = some (.int .i8 0)) ∧ (W1.cell? ⟨w2.heap.size, 3, none⟩ = some (.int .i64 730636)) ∧ (w2.heap.size < W1.heap.size) := by
  obtain ⟨W1, hW1⟩ : ∃ W1, W1 = w2.alloc (.cells #[.int .i8 0, .int .i64 730545, .int .i8 0, .int .i64 730636] 30) := ⟨_, rfl⟩
  exact ⟨W1, hW1, (by rw [hW1]; exact (Dn.refl _).alloc _), (by rw [hW1]; simp [go_sem]), (by rw [hW1]; simp [go_sem]), (by rw [hW1]; simp [go_sem]), (by rw [hW1]; simp [go_sem]), (by rw [hW1]; simp <;> omega)⟩
theorem live11 (w : World) (hE : EnvP w) :
  Calls Tryz.prog 8 #[] w fun ro w' => ro = .returned (.bool true) ∧ Dn w w' := by
 go_enter Tryz.func8, Tryz.ntmps8
 go_wp2_with fail
 refine (tDay _ hE).mono ?_
 rintro e w1 ⟨rfl, qw1⟩
 have uw1 := qw1
 clear qw1
 go_wp2_with fail
 refine (tSeason _ (hE.dn uw1)).mono ?_
 rintro e w2 ⟨rfl, qw2⟩
 have uw2 := uw1.trans qw2
 clear qw2 uw1
 go_wp2_with fail
 obtain ⟨W1, hW1, uW1, c2, c3, c4, c5, l6⟩ := preCl89x1 w2 
 rw [← hW1]
 clear hW1
 have vW1 := uw2.trans uW1
 clear uW1 uw2
 go_wp2_with fail
 refine (tYear 2000 730485 730850 _ (by decide +kernel) (by decide +kernel) (by decide) (hE.dn vW1)).mono ?_
 rintro e w3 ⟨rfl, qw3⟩
 have l7 := nlt l6 qw3.size
 obtain ⟨c8, c9, a0, a1⟩ := mv4 qw3.cell c2 c3 c4 c5
 clear l6 c2 c3 c4 c5
 have uw3 := vW1.trans qw3
 clear qw3 vW1
 go_wp2_with fail
 obtain ⟨W12, hW12⟩ : ∃ W12, W12 = ((w3.alloc (.cells #[.int .i8 0, .int .i64 730485, .int .i8 0, .int .i64 730850] 30)).alloc (.cells #[.int .i8 0, .int .i64 730485, .int .i8 0, .int .i64 730850] 30)).alloc (.cells #[.int .i8 0, .int .i64 730545, .int .i8 0, .int .i64 730636] 30) := ⟨_, rfl⟩
 have uW12 : Dn w3 W12 := by rw [hW12]; exact (((Dn.refl _).alloc _).alloc _).alloc _
 have a2 := nlt l7 uW12.size
 obtain ⟨a3, a4, a5, a6⟩ := mv4 uW12.cell c8 c9 a0 a1
 clear l7 c8 c9 a0 a1
 have a7 : W12.cell? ⟨w3.heap.size, 0, none⟩ = some (.int .i8 0) := by rw [hW12]; simp [go_sem]
 have a8 : W12.cell? ⟨w3.heap.size, 1, none⟩ = some (.int .i64 730485) := by rw [hW12]; simp [go_sem]
 have a9 : W12.cell? ⟨w3.heap.size, 2, none⟩ = some (.int .i8 0) := by rw [hW12]; simp [go_sem]
 have aA : W12.cell? ⟨w3.heap.size, 3, none⟩ = some (.int .i64 730850) := by rw [hW12]; simp [go_sem]
 have aB : w3.heap.size < W12.heap.size := by rw [hW12]; simp <;> omega
 have r1 : Row W12 (some ⟨w3.heap.size + 1, 0, none⟩) [⟨0, 730485, 0, 730850⟩] := by
  rw [hW12]
  have h := (rq_new ((w3.alloc (.cells #[.int .i8 0, .int .i64 730485, .int .i8 0, .int .i64 730850] 30))) [⟨0, 730485, 0, 730850⟩] #[.int .i8 0, .int .i64 730485, .int .i8 0, .int .i64 730850] rfl).dn ((Dn.refl _).alloc (.cells #[.int .i8 0, .int .i64 730545, .int .i8 0, .int .i64 730636] 30))
  simpa using h
 have r2 : Row W12 (some ⟨w3.heap.size + 1 + 1, 0, none⟩) [⟨0, 730545, 0, 730636⟩] := by
  rw [hW12]
  have h := (rq_new (((w3.alloc (.cells #[.int .i8 0, .int .i64 730485, .int .i8 0, .int .i64 730850] 30)).alloc (.cells #[.int .i8 0, .int .i64 730485, .int .i8 0, .int .i64 730850] 30))) [⟨0, 730545, 0, 730636⟩] #[.int .i8 0, .int .i64 730545, .int .i8 0, .int .i64 730636] rfl).dn (Dn.refl _)
  simpa using h
 rw [← hW12]
 clear hW12
 have vW12 := uw3.trans uW12
 clear uW12 uw3
 go_wp2_with fail
 refine (tCommon _ _ _ r1 r2).mono ?_
 rintro e w4 ⟨p3, rfl, r3, qw4⟩
 replace r1 := r1.dn qw4
 replace r2 := r2.dn qw4
 have aC := nlt a2 qw4.size
 have aH := nlt aB qw4.size
 obtain ⟨aD, aE, aF, aG, aI, aJ, aK, aL⟩ := mv8 qw4.cell a3 a4 a5 a6 a7 a8 a9 aA
 clear a2 a3 a4 a5 a6 aB a7 a8 a9 aA
 have uw4 := vW12.trans qw4
 clear qw4 vW12
 clear r1 r2
 clear aD aE aF aG aC
 clear aI aJ aK aL aH
 go_wp2_with fail
 refine (tCount _ _ r3).mono ?_
 rintro e w5 ⟨rfl, qw5⟩
 replace r3 := r3.dn qw5
 have uw5 := uw4.trans qw5
 clear qw5 uw4
 go_wp2_with fail
 refine (mNext _).mono ?_
 rintro e w6 ⟨rfl, qw6⟩
 replace r3 := r3.dn qw6
 have uw6 := uw5.trans qw6
 clear qw6 uw5
 go_wp2_with fail
 refine (tText _ _ r3 (hE.dn uw6)).mono ?_
 rintro e w7 ⟨rfl, qw7⟩
 replace r3 := r3.dn qw7
 have uw7 := uw6.trans qw7
 clear qw7 uw6
 clear r3
 go_wp2_with fail
 refine (tDown _).mono ?_
 rintro e w8 ⟨⟨y, rfl, hy, hf⟩, qw8⟩
 have uw8 := uw7.trans qw8
 clear qw8 uw7
 go_wp2_with fail
 refine (tFloor hy hf _).mono ?_
 rintro e w9 ⟨rfl, qw9⟩
 have uw9 := uw8.trans qw9
 clear qw9 uw8
 go_wp2_with fail
 go_ret
 exact ⟨rfl, uw9⟩
end Go.Proofs.YteodjglbpfmikaaGreatDoor
