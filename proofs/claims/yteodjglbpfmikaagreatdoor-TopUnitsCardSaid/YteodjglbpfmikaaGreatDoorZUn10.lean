/- Walks and laws that the claim's theorem leans on: part 10. -/
import Derived.Test.YteodjglbpfmikaaGreatDoorZUn1
import Derived.Test.YteodjglbpfmikaaGreatDoorZUn5
import Derived.Test.YteodjglbpfmikaaGreatDoorZUn7
import Derived.Test.YteodjglbpfmikaaGreatDoorZUn8
import Derived.Test.YteodjglbpfmikaaGreatDoorZUn9
import Derived.Test.YteodjglbpfmikaaGreatDoorShSort
import Derived.Test.YteodjglbpfmikaaGreatDoorShGrow
import Derived.Shelf.SlIter.Collect
import Derived.RangeFuncStops
import Derived.RangeFuncCalls
namespace Go.Proofs.YteodjglbpfmikaaGreatDoor
set_option maxHeartbeats 4000000
set_option maxRecDepth 100000
open Go.RowKit
set_option linter.unusedVariables false
set_option linter.unusedSimpArgs false
def cellLen (w : World) (A : Nat) : Nat := match w.cell? ⟨A, 0, none⟩ with
 | some v => lenOf v
 | none => 0
theorem SlV.len {w0 w : World} {A : Nat} {s : List Rq} (h : SlV w0 w A s) : cellLen w A = s.length := by
 obtain ⟨⟨p, cap, h1, _⟩, _, _⟩ := h
 unfold cellLen; rw [h1]; rfl
structure Cm (a b : List Rq) (w w' : World) (s t L : List Rq) : Prop where
 A : SlV w w' w.heap.size s
 B : SlV w w' (w.heap.size + 1) t
 O : OwV w' (w.heap.size + 1 + 1 + 1) (w.heap.size + 1 + 1) L
 sk : ∀ x ∈ s, x.ok
 tk : ∀ x ∈ t, x.ok
 lk : ∀ x ∈ L, x.ok
 e : cmn a b = L ++ cmn s t
 n : L.length + s.length + t.length ≤ a.length + b.length
 dn : Dn w w'
theorem ret_sl {p : Option Addr} {M N : List Rq} (h : N = M) : Ending.returned (.slice p M.length M.length) = .returned (.slice p N.length N.length) := by rw [h]
theorem rsCommonIn (p : Option Addr) (cap : Nat) (a : List Rq) (q : Option Addr) (cap' : Nat) (b : List Rq)  (w : World) (hab : a.length + b.length ≤ 800000) (hc1 : a.length ≤ cap) (hm1 : cap ≤ 9223372036854775807) (hc2 : b.length ≤ cap') (hm2 : cap' ≤ 9223372036854775807) (ha : ∀ x ∈ a, x.ok) (hb : ∀ x ∈ b, x.ok) (hR1 : Row w p a) (hR2 : Row w q b) :
  Calls Tryz.prog 95 #[.slice p a.length cap, .slice q b.length cap'] w fun ro w' => ∃ p', ro = .returned (.slice p' (joinedL (cmn a b)).length (joinedL (cmn a b)).length) ∧ Row w' p' (joinedL (cmn a b)) ∧ Dn w w' := by
 go_enter Tryz.func95, Tryz.ntmps95
 go_wp2_with fail
 obtain ⟨W1, hW1⟩ : ∃ W1, W1 = ((w.alloc (.cells #[.slice p a.length cap] 48)).alloc (.cells #[.slice q b.length cap'] 48)).alloc (.cells #[.slice none 0 0] 48) := ⟨_, rfl⟩
 have hcm : Cm a b w W1 a b [] := by
  have u : Dn w W1 := by rw [hW1]; exact (((Dn.refl _).alloc _).alloc _).alloc _
  refine ⟨⟨⟨p, cap, by rw [hW1]; simp [go_sem], hc1, hm1, hR1⟩, by rw [hW1]; simp [go_sem], by rw [hW1]; simp <;> omega⟩, ⟨⟨q, cap', by rw [hW1]; simp [go_sem], hc2, hm2, hR2⟩, by rw [hW1]; simp [go_sem], by rw [hW1]; simp <;> omega⟩,
    ⟨⟨_, by rw [hW1]; simp [go_sem], OwnQ.nil _ _⟩, by rw [hW1]; simp [go_sem], by omega, by rw [hW1]; simp <;> omega⟩, ha, hb, by simp, rfl, by simp, u⟩
 rw [← hW1]
 clear hW1 hR1 hR2 ha hb
 go_loopw [8] (fun _ wr => ∃ s t L, Cm a b w wr s t L) (fun _ wr => cellLen wr w.heap.size + cellLen wr (w.heap.size + 1))
 case atStart => exact ⟨a, b, [], hcm⟩
 case round =>
  obtain ⟨s, t, L, hcm⟩ := hrel
  have HC := Lib.hid hcm
  obtain ⟨⟨pa, ca, a1, a2, a3, a4⟩, -, la⟩ := hcm.A
  obtain ⟨⟨pb, cb, b1, b2, b3, b4⟩, -, lb⟩ := hcm.B
  obtain ⟨⟨v, v1, v2⟩, -, vl, vb⟩ := hcm.O
  have hn := hcm.n
  clear hcm a4 b4
  rcases s with _ | ⟨x, s⟩
  rotate_left
  rcases t with _ | ⟨y, t⟩
  rotate_left
  · have hs0 : decide (0 < (s.length : Int) + 1) = true := by rw [decide_eq_true_iff]; omega
    have ht0 : decide (0 < (t.length : Int) + 1) = true := by rw [decide_eq_true_iff]; omega
    rw [List.length_cons] at a1 b1
    have hx := HC.out.sk x List.mem_cons_self
    have hy := HC.out.tk y List.mem_cons_self
    have HX := Lib.hid hx
    have HY := Lib.hid hy
    clear hx hy v1 v2
    go_wp2_with fail
    refine (cmn1 _ _ _ (w.heap.size + 1 + 1 + 1) x y s t L w wr HC.out.A HC.out.B HC.out.O HC.out.dn (Nat.le_refl _) (by omega) (by omega) (by omega) HX.out HY.out (by omega)).mono ?_
    rintro e w2 ⟨rfl, s', t', k1, k2, kA, kB, kO, kd⟩
    have hst : Cm a b w w2 s' t' (L ++ if MeetR x y then [inR x y] else []) ∧ s'.length + t'.length < (x :: s).length + (y :: t).length := by
     have hlo : ∀ z ∈ L ++ (if MeetR x y then [inR x y] else []), z.ok := by
       intro z hz
       rcases List.mem_append.1 hz with hz | hz
       · exact HC.out.lk z hz
       · split at hz
         · next hm => simp at hz; subst hz; exact inR_ok hm
         · cases hz
     have hle : (L ++ if MeetR x y then [inR x y] else []).length ≤ L.length + 1 := by
       rw [List.length_append]; split <;> simp
     have he := HC.out.e
     rw [cmn_step] at he
     by_cases hlt : x.hi < y.hi
     · obtain ⟨rfl, rfl⟩ := k1 hlt
       rw [if_pos hlt] at he
       simp only [List.length_cons] at hn hle ⊢
       exact ⟨⟨kA, kB, kO, fun z hz => HC.out.sk z (List.mem_cons_of_mem _ hz), HC.out.tk, hlo, by rw [he, List.append_assoc], by simp only [List.length_cons]; omega, kd⟩, by omega⟩
     · obtain ⟨rfl, rfl⟩ := k2 hlt
       rw [if_neg hlt] at he
       simp only [List.length_cons] at hn hle ⊢
       exact ⟨⟨kA, kB, kO, HC.out.sk, fun z hz => HC.out.tk z (List.mem_cons_of_mem _ hz), hlo, by rw [he, List.append_assoc], by simp only [List.length_cons]; omega, kd⟩, by omega⟩
    have HST := Lib.hid hst
    have m1 := HC.out.A.len
    have m2 := HC.out.B.len
    have m3 := hst.1.A.len
    have m4 := hst.1.B.len
    have m5 := hst.2
    clear hst k1 k2 kA kB kO kd a1 b1
    go_wp2_with fail
    go_roundw
    case rel => exact ⟨s', t', _, HST.out.1⟩
    case measure => rw [m1, m2, m3, m4]; omega
  all_goals
    obtain ⟨p3, cap3, rfl, -, hr3⟩ := v2.rowOf
    have HL : Hid (cmn a b = L) := Lib.hid (by have := HC.out.e; simpa [cmn_nil, cmn_nil'] using this)
    have HJ := Lib.hid (rsJoined p3 cap3 L wr (by omega) (sep_i6 HC.out.lk) hr3)
    clear v2 hr3
    try rw [List.length_cons] at a1
    try rw [List.length_nil] at a1
    try rw [List.length_nil] at b1
    try (have hs0 : decide (0 < (s.length : Int) + 1) = true := by rw [decide_eq_true_iff]; omega)
    go_wp2_with fail
    refine HJ.out.mono ?_
    rintro e w2 ⟨p4, rfl, hr4, q1⟩
    have HR4 := Lib.hid hr4
    clear hr4
    go_wp2_with fail
    go_ret
    exact ⟨p4, ret_sl (by rw [HL.out]), by rw [HL.out]; exact HR4.out, HC.out.dn.trans q1⟩
theorem CB.same {w w' : World} {B : Nat} {u v : Value} (h : CB w B u v) (e : w'.heap[B]? = w.heap[B]?) (hl : w.heap.size ≤ w'.heap.size) : CB w' B u v :=
 ⟨cell_same e h.c0, cell_same e h.c1, (frozen_same e).trans h.f0, (frozen_same e).trans h.f1, Nat.lt_of_lt_of_le h.lt hl⟩
theorem C4.same {w w' : World} {B : Nat} {v0 v1 v2 v3 : Value} (h : C4 w B v0 v1 v2 v3) (e : w'.heap[B]? = w.heap[B]?) (hl : w.heap.size ≤ w'.heap.size) : C4 w' B v0 v1 v2 v3 :=
 ⟨cell_same e h.c0, cell_same e h.c1, cell_same e h.c2, cell_same e h.c3, (frozen_same e).trans h.f0, (frozen_same e).trans h.f1, (frozen_same e).trans h.f2, (frozen_same e).trans h.f3, Nat.lt_of_lt_of_le h.lt hl⟩
set_option maxHeartbeats 4000000
set_option maxRecDepth 100000
theorem lim_ok (p : Option Addr) (cap : Nat) (M : List Rq) (w : World) (E : Int) (R : List Rq) (hE : E = fin3 0 M) (hRR : R = res3 0 M) (hcap : M.length ≤ cap) (hmx : cap ≤ 9223372036854775807) (hR : Row w p M) :
  Calls Tryz.prog 94 #[.slice p M.length cap] w fun ro w' => ∃ p', ro = .returned (.tuple #[.slice p' R.length R.length, .int .i64 E]) ∧ Row w' p' R ∧ Dn w w' := by
 subst hE hRR
 refine (rsLimited p cap M w hcap hmx hR).mono ?_
 rintro ro w' ⟨p', cap', rfl, rfl, h1, h2⟩
 exact ⟨p', rfl, h1, h2⟩
theorem cmn_len : ∀ (s t : List Rq), (cmn s t).length ≤ s.length + t.length
 | [], t => by rw [cmn_nil']; simp
 | x :: s, [] => by rw [cmn_nil]; simp
 | x :: s, y :: t => by
   rw [cmn_step, List.length_append]
   have h1 : (if MeetR x y then [inR x y] else []).length ≤ 1 := by split <;> simp
   have h2 := cmn_len s (y :: t)
   have h3 := cmn_len (x :: s) t
   have h4 : (if x.hi < y.hi then cmn s (y :: t) else cmn (x :: s) t).length ≤ s.length + t.length + 1 := by
    simp only [List.length_cons] at h2 h3
    split <;> omega
   simp only [List.length_cons]
   omega
termination_by s t => s.length + t.length
theorem jn_le : ∀ (t : List Rq) (p : Rq), (jn p t).length ≤ t.length + 1
 | [], p => by simp [jn]
 | r :: t, p => by
   unfold jn
   split
   · have := jn_le t (jnR p r); simp only [List.length_cons]; omega
   · have := jn_le t r; simp only [List.length_cons]; omega
theorem joined_le (l : List Rq) : (joinedL l).length ≤ l.length := by
 cases l with
 | nil => simp [joinedL]
 | cons x t => exact jn_le t x
theorem jn_len (s t : List Rq) : (joinedL (cmn s t)).length ≤ s.length + t.length := by
 have h1 := joined_le (cmn s t)
 have h2 := cmn_len s t
 omega
theorem rsCommonS (p : Option Addr) (cap : Nat) (a : List Rq) (q : Option Addr) (cap' : Nat) (b : List Rq) (E : Int) (R : List Rq) (w : World) (hE : E = fin3 (bothL a b) (joinedL (cmn a b))) (hRR : R = res3 (bothL a b) (joinedL (cmn a b))) (hc1 : a.length ≤ cap) (hm1 : cap ≤ 9223372036854775807) (hc2 : b.length ≤ cap') (hm2 : cap' ≤ 9223372036854775807) (hl1 : a.length ≤ 100000) (hI1 : I6 a) (hR1 : Row w p a) (hl2 : b.length ≤ 100000) (hI2 : I6 b) (hR2 : Row w q b) :
   Calls Tryz.prog 43 #[.slice p a.length cap, .slice q b.length cap'] w fun ro w' => ∃ p', ro = .returned (.tuple #[.slice p' R.length R.length, .int .i64 E]) ∧ Row w' p' R ∧ Dn w w' := by
 have HB := Lib.hid (fun W (h : Dn w W) => rsChecked p cap a q cap' b W (by omega) hI1 (hR1.dn h) (by omega) hI2 (hR2.dn h))
 by_cases hc : bothL a b = 0
 rotate_left
 · obtain rfl : E = bothL a b := by rw [hE, fin3_bad hc]
   obtain rfl : R = [] := by rw [hRR, res3_bad hc]
   have d0 : (bothL a b != 0) = true := by simpa using hc
   clear hE hRR hc hR1 hR2 hI1 hI2
   generalize bothL a b = c at *
   go_enter Tryz.func43, Tryz.ntmps43
   go_wp2_with fail
   refine (HB.out _ (Dn.refl _)).mono ?_
   rintro e w1 ⟨rfl, qw1⟩
   have uw1 := qw1
   clear qw1
   go_wp2_with fail
   go_ret2
   exact ⟨none, rfl, rownil _, uw1⟩
 · obtain ⟨hca, hcb⟩ := both_zero hc
   have ssa := chk_ok hI1 hca
   have ssb := chk_ok hI2 hcb
   have la := chk_len hca
   have lb := chk_len hcb
   rw [hc] at HB hE hRR
   clear hc hca hcb hI1 hI2
   have HJ := Lib.hid (fun W (h : Dn w W) q' c' (hr : Row W q' b) (h1 : (b).length ≤ c') (h2 : c' ≤ 9223372036854775807) => rsCommonIn p cap a q' c' (b) W (by omega) hc1 hm1 h1 h2 (Sep.all ssa) (Sep.all ssb) (hR1.dn h) hr)
   have HL := Lib.hid (fun W p' cp (h1 : (joinedL (cmn a b)).length ≤ cp) (h2 : cp ≤ 9223372036854775807) hr => lim_ok p' cp (joinedL (cmn a b)) W E R hE hRR h1 h2 hr)
   have hjl : (joinedL (cmn a b)).length ≤ 9223372036854775807 := by have := jn_len a b; omega
   have HJL := Lib.hid hjl
   have HRB := Lib.hid hR2
   clear hE hRR hjl hR1 hR2 ssa ssb
   generalize joinedL (cmn a b) = M at *
   go_enter Tryz.func43, Tryz.ntmps43
   go_wp2_with fail
   refine (HB.out _ (Dn.refl _)).mono ?_
   rintro e w1 ⟨rfl, qw1⟩
   have uw1 := qw1
   clear qw1
   go_wp2_with fail
   refine (HJ.out _ uw1 q cap' (HRB.out.dn uw1) hc2 hm2).mono ?_
   rintro e wj ⟨pj, rfl, hrj, qj⟩
   have HRJ := Lib.hid hrj
   clear hrj
   have uj := uw1.trans qj
   go_wp2_with fail
   refine (HL.out _ pj _ (Nat.le_refl _) HJL.out HRJ.out).mono ?_
   rintro e wl ⟨p2, rfl, hr2, ql⟩
   have HR2 := Lib.hid hr2
   clear hr2
   go_wp2_with fail
   go_ret2
   first | exact ⟨p2, rfl, HR2.out, uj.trans ql⟩ | exact ⟨⟨p2, rfl⟩, HR2.out, uj.trans ql⟩
open Go.RowKit Go.Sort Go.Proofs
instance inhRq : Inhabited Rq := ⟨⟨0, 0, 0, 0⟩⟩
theorem swoR : SWO (Go.Proofs.ltOf cmpR) := ⟨cmpR_irrefl, cmpR_trans, cmpR_ntrans⟩
theorem grownB {w : World} {g n : Nat} {os : Array Obj} (F : Array Value) : w.grownBy (grow (putRow id (Go.Sort.ahead w n) g 0 F) os) (some g) := by
 refine ⟨rfl, rfl, rfl, by simp, fun k hk hne => ?_⟩
 rw [heap_grow_old _ _ (by simpa using hk)]
 have : g ≠ k := fun e => hne (by rw [e])
 simp [putRow, mapBlock, Go.Sort.ahead, Array.getElem?_modify, this]
theorem holdsQ {w : World} {base g cap : Nat} {L : List Rq} (h : OwnQ w base (.slice (some ⟨g, 0, none⟩) L.length cap) L) : HoldsK qc 4 w g 0 L.toArray := by
 intro j hj
 have hj2 : j < L.length * 4 := by simpa using hj
 refine ⟨?_, by simpa using h.own.frozenAt (0 + j)⟩
 have e := h.own.cellAt j (by simpa using hj2)
 rw [Nat.zero_add, e]
 obtain ⟨i, t, ht, rfl⟩ : ∃ i t, t < 4 ∧ j = i * 4 + t := ⟨j / 4, j % 4, by omega, by omega⟩
 obtain ⟨r, hr⟩ : ∃ r, L[i]? = some r := ⟨L[i]'(by omega), by simp [show i < L.length by omega]⟩
 rw [qc_get L i t r hr ht, get_flatK _ _ _ _ (by simpa using hj2)]
 have e1 : (i * 4 + t) / 4 = i := by omega
 have e2 : (i * 4 + t) % 4 = t := by omega
 obtain ⟨hl, hri⟩ := List.getElem?_eq_some_iff.1 hr
 have e3 : (L.toArray)[i]! = r := by simp [hl, hri]
 rw [e1, e2, e3]
 match t, ht with
 | 0, _ => rfl
 | 1, _ => rfl
 | 2, _ => rfl
 | 3, _ => rfl
theorem rowQ {w : World} {g : Nat} {M : List Rq} (hg : g < w.heap.size) (h : HoldsK qc 4 w g 0 M.toArray) : Cs w g 0 M := ⟨hg, fun k x hx => by
 obtain ⟨hl, hri⟩ := List.getElem?_eq_some_iff.1 hx
 have e3 : (M.toArray)[k]! = x := by simp [hl, hri]
 have c0 := (h.cell (i := k) (c := 0) (by simpa using hl) (by omega)).1
 have c1 := (h.cell (i := k) (c := 1) (by simpa using hl) (by omega)).1
 have c2 := (h.cell (i := k) (c := 2) (by simpa using hl) (by omega)).1
 have c3 := (h.cell (i := k) (c := 3) (by simpa using hl) (by omega)).1
 rw [e3] at c0 c1 c2 c3
 exact ⟨c0, c1, c2, c3⟩⟩
theorem aggR (w : World) : (isAgg 30).run Tryz.prog w = .ok true w := by kernel_rfl
theorem sizR (w : World) : (Go.sizeOf 30).run Tryz.prog w = .ok 4 w := by kernel_rfl
theorem cmpLaysR (blk off size : Nat) (w : World) : Go.Proofs.CmpLays Tryz.prog 67 #[] qc 4 cmpR blk off size w := by
 intro m os dk _ x y
 refine (rnCmpU x.a x.b x.c x.d y.a y.b y.c y.d (sortWorldK qc 4 w blk off m dk os)).mono ?_
 rintro e w' ⟨rfl, hu⟩
 exact ⟨rfl, hu.grow⟩
theorem slSort (base g cap : Nat) (L : List Rq) (w : World) (hown : OwnQ w base (.slice (some ⟨g, 0, none⟩) L.length cap) L) (hl : L.length ≤ 1000000) :
   Calls Tryz.prog 119 #[.slice (some ⟨g, 0, none⟩) L.length cap, .func (.func 67) #[] #[]] w fun ro w' => ro = .returned (.tuple #[]) ∧ Row w' (some ⟨g, 0, none⟩) (srt L) ∧ ∀ w0, Dn w0 w → w0.heap.size ≤ base → Dn w0 w' := by
 have hgr := hown.row g rfl
 have hH := holdsQ hown
 have eg : ∀ args w, (callFunc 67 args).run Tryz.prog w = .ok (.enter 67 args) w := enters_of Tryz.func67 (by kernel_rfl) rfl
 have hc := AnyQ.slices_SortFunc_total Tryz.sortR 4 aggR sizR qc (fun _ => rfl) (fun x v hv => by simp [qc] at hv; rcases hv with rfl | rfl | rfl | rfl <;> rfl) cmpR swoR 67 #[] g 0 cap L.toArray w eg (cmpLaysR g 0 L.toArray.size w) hH hgr.2 (by simp; omega) cmpR_total
 have hc2 : Calls Tryz.prog 119 #[.slice (some ⟨g, 0, none⟩) L.length cap, .func (.func 67) #[] #[]] w _ := hc
 refine hc2.mono ?_
 rintro e w' ⟨rfl, n, os, rfl⟩
 refine ⟨rfl, ?_, ?_⟩
 · have hH2 := holdsK_sortWorldK_c qc 4 w g 0 L.toArray (srt L).toArray n os hH hgr.2 (by simp [srt_len])
   exact (rowQ (Nat.lt_of_lt_of_le hgr.2 (size_sortWorldK_c qc 4 w g 0 n _ os)) hH2).row
 · intro w0 hd hb
   have hg := grownB (w := w) (g := g) (n := n) (os := os) (flatK qc 4 (srt L).toArray)
   exact ⟨hd.below.trans ⟨hg.os, hg.tape, hg.output, hg.size, fun i hi => hg.block i (Nat.lt_of_lt_of_le hi hd.size) (fun e => by cases e; omega)⟩⟩
theorem srt_nil : srt [] = [] := by simp [srt]
theorem slSortV (base : Nat) (v : Value) (L : List Rq) (w : World) (hown : OwnQ w base v L) (hl : L.length ≤ 1000000) :
   Calls Tryz.prog 119 #[v, .func (.func 67) #[] #[]] w fun ro w' => ro = .returned (.tuple #[]) ∧ (∃ p cap, v = .slice p (srt L).length cap ∧ Row w' p (srt L)) ∧ ∀ w0, Dn w0 w → w0.heap.size ≤ base → Dn w0 w' := by
 rcases hown.form with ⟨rfl, rfl⟩ | ⟨g, cap, rfl, _, _, _, _⟩
 · have h := AnyF.slices_SortFunc_none Tryz.sortR none 0 (.func (.func 67) #[] #[]) w
   refine Calls.mono (show Calls Tryz.prog 119 _ w _ from h) ?_
   rintro e w' ⟨rfl, rfl⟩
   exact ⟨rfl, ⟨none, 0, by rw [srt_nil]; rfl, by rw [srt_nil]; exact Row.nil _ _⟩, fun w0 hd _ => hd⟩
 · refine (slSort base g cap L w hown hl).mono ?_
   rintro e w' ⟨rfl, h1, h2⟩
   exact ⟨rfl, ⟨_, cap, by rw [srt_len], h1⟩, h2⟩
set_option maxHeartbeats 4000000
set_option maxRecDepth 100000
open Go.RowKit Go.Maps Go.Sort Go.Shelf Go.Proofs
abbrev rqv (x : Rq) : Value := .agg #[.int .i8 x.a, .int .i64 x.b, .int .i8 x.c, .int .i64 x.d]
def SeqGivesB (F : Fence) (n : Nat) (g : Nat) (lb : Array Value) (L : List Rq) (w : World) : Prop :=
 ∀ (l : Nat) (J : List Rq → World → Prop) (W : World), Below w.heap.size w W → AbidesFrom W.heap.size J → (∀ s W', J s W' → Below w.heap.size w W') →
  (∀ pre x W1, J pre W1 → pre.length < L.length → YieldAt F (n - 1) Tryz.prog l #[rqv x] W1 fun e W' => e = .returned (.bool true) ∧ J (pre ++ [x]) W' ∧ KeepsWalks W1 W') →
  J [] W →
  CallsIn F n Tryz.prog g (#[.func (.yield l) #[] #[]] ++ lb) W fun e W' => (∃ v, e = .returned v) ∧ J L W'
theorem vals_give (F : Fence) (n : Nat) (hF : F.fn 120) (hro : F.round = none) (hn : 1 ≤ n) (B : Nat) (p : Option Addr) (cap : Nat) (L : List Rq) (w : World) (hl : L.length ≤ 100000)
  (hB : w.cell? ⟨B, 0, none⟩ = some (.slice p L.length cap)) (hR : Row w p L) :
  SeqGivesB F n 120 #[.pointer (some ⟨B, 0, none⟩)] L w := by
 intro l J W hW hJ hJB hY h0
 have FG := Tryz.func120
 refine callsIn_of_wp FG rfl hF ?_ hro
 simp only [Tryz.ntmps120, List.size_toArray, List.length_cons, List.length_nil, Nat.reduceAdd, Nat.reduceSub, Array.replicate_succ, Array.replicate_zero, List.push_toArray, List.append_toArray, List.nil_append, List.cons_append]
 have hB1 : W.cell? ⟨B, 0, none⟩ = some (.slice p L.length cap) := cell_below hW hB
 have HR := Lib.hid hR
 have HJB := Lib.hid hJB
 have HB := Lib.hid hB
 clear hR hB
 gi_wp2
 clear hB1
 gi_loopw [7] (fun iv wr => ∃ k : Nat, k ≤ L.length ∧ iv = .int .i64 k ∧ J (L.take k) wr) (fun iv _ => L.length - (intOf iv).toNat)
 case atStart => exact ⟨0, by omega, rfl, h0⟩
 case round =>
  obtain ⟨k, hk, rfl, hJk⟩ := hrel
  by_cases hlt : k < L.length
  · have d1 : decide ((k : Int) < L.length) = true := by simp; omega
    obtain ⟨x, hx⟩ : ∃ x, L[k]? = some x := ⟨L[k], by simp [hlt]⟩
    obtain ⟨g, o, rfl, hc⟩ := HR.out.cs (by omega)
    obtain ⟨a0, a1, a2, a3⟩ := (hc.dn ⟨HJB.out _ _ hJk⟩).el _ _ hx
    have HX := Lib.hid hx
    clear hx hc
    have hJ2 : J (L.take k) (wr.alloc (.cells #[.int .i8 x.a, .int .i64 x.b, .int .i8 x.c, .int .i64 x.d] 30)) := hJ _ _ _ none hJk (World.grownBy_alloc _ _ none) (fun r e => by cases e)
    obtain ⟨fn, tmps, assign, body, hy, hR2⟩ := hY (L.take k) x _ hJ2 (by simp; omega)
    gi_wp2
    refine hR2.mono ?_
    rintro e W3 ⟨rfl, hJ3, hk3⟩
    gi_wp2
    go_roundw
    case rel => exact ⟨k + 1, by omega, by simp, by rw [take_at HX.out]; exact hJ3⟩
    case measure => simp [intOf]; omega
  · obtain rfl : k = L.length := by omega
    have d1 : decide ((L.length : Int) < L.length) = false := by simp
    rw [List.take_length] at hJk
    gi_wp2
    go_end0
    exact ⟨⟨_, rfl⟩, hJk⟩
def apPick (b : Option Code) : Code × Code := match b with
 | some (.seq _ (.seq (.seq _ (.block _ (.rangeFunc _ _ x y))) _)) => (x, y)
 | _ => (.skip, .skip)
def apRecQ (cA cB : Code) (fn : FuncId) (sv : Value) (Bs D : Nat) (st : LoopState) (pend : Option Code) : Loop :=
 { state := st, pending := pend, fn, tmps := #[.slice none 0 0, sv, .pointer (some ⟨Bs, 0, none⟩), undef, .slice none 0 0, undef, sv, undef, undef, undef, undef, undef, undef], params := #[7], assign := cA, body := cB, defers := D }
structure ApQ (cA cB : Code) (w0 : World) (fn : FuncId) (sv : Value) (Bs l D : Nat) (ss : List Rq) (W : World) : Prop where
 box : ∃ v, W.heap[Bs]? = some (.cells #[v] 48 (0, 0)) ∧ W.ownsRow w0.heap.size 30 4 v ss.length (ss.flatMap qc)
 L : W.heap[l]? = some (.loop (apRecQ cA cB fn sv Bs D .ready none))
 K : W.heap[D]? = some (.deferred (some []))
 below : Below w0.heap.size w0 W
theorem apq_abides (cA cB : Code) (w0 : World) (fn : FuncId) (sv : Value) (Bs l D B : Nat) (hB : w0.heap.size ≤ B) : AbidesFrom B (ApQ cA cB w0 fn sv Bs l D) := fun s W W' row h hg hrow => by
 have hrow' : ∀ r, row = some r → ∃ o : Obj, W.heap[r]? = some o ∧ o.isWalk = true := fun r e => (hrow r e).2
 obtain ⟨v, hv, hr⟩ := h.box
 exact ⟨⟨v, (grownBy_keeps hg hrow' hv rfl).trans hv, ownsRow_abides_a hr hg hrow'⟩, (grownBy_keeps hg hrow' h.L rfl).trans h.L, (grownBy_keeps hg hrow' h.K rfl).trans h.K,
  h.below.grown hg h.below.size (fun k e => Nat.le_trans hB (hrow k e).1)⟩
theorem apq_yield (cA cB : Code) (hAB : apPick Tryz.f153.body = (cA, cB)) (F : Fence) (m : Nat) (w0 : World) (fn : FuncId) (hfn : F.fn fn) (sv : Value) (Bs l D : Nat) (hBl : Bs ≠ l) (hDl : D ≠ l) (hDB : D ≠ Bs) (h0B : w0.heap.size ≤ Bs) (h0l : w0.heap.size ≤ l)
    (N : Nat) (hN : N ≤ 1000000) (ss : List Rq) (x : Rq) (W0 : World) (h0 : ApQ cA cB w0 fn sv Bs l D ss W0) (hlen : ss.length < N) :
    YieldAt F m Tryz.prog l #[rqv x] W0 fun e W' => e = .returned (.bool true) ∧ ApQ cA cB w0 fn sv Bs l D (ss ++ [x]) W' ∧ KeepsWalks W0 W' := by
  have hne : 48 ≠ 30 := by decide
  obtain ⟨i0, hi, hz0, hz1, hz2⟩ := info_parts infoRun
  refine ⟨fn, #[.slice none 0 0, sv, .pointer (some ⟨Bs, 0, none⟩), undef, .slice none 0 0, undef, sv, rqv x, undef, undef, undef, undef, undef], cA, cB, by simpa [apRecQ] using run_yield (P := Tryz.prog) (args := #[rqv x]) h0.L rfl, roundIn_of_wpIn hfn ?_⟩
  obtain ⟨W, hW⟩ : ∃ W, W = W0.alloc (.cells #[.int .i8 x.a, .int .i64 x.b, .int .i8 x.c, .int .i64 x.d] 30) := ⟨_, rfl⟩
  have h : ApQ cA cB w0 fn sv Bs l D ss W := by rw [hW]; exact apq_abides cA cB w0 fn sv Bs l D w0.heap.size (Nat.le_refl _) _ _ _ none h0 (World.grownBy_alloc _ _ none) (fun r e => by cases e)
  have hk1 : KeepsWalks W0 W := by rw [hW]; exact KeepsWalks.alloc _ _
  have hxc : W.heap[W0.heap.size]? = some (.cells #[.int .i8 x.a, .int .i64 x.b, .int .i8 x.c, .int .i64 x.d] 30 (0, 0)) := by rw [hW]; exact World.alloc_heap_new _ _
  have hl0 : l < W0.heap.size := (Array.getElem?_eq_some_iff.1 h0.L).1
  have hB0 : Bs < W0.heap.size := by obtain ⟨v, hv, _⟩ := h0.box; exact (Array.getElem?_eq_some_iff.1 hv).1
  obtain ⟨v, hv, hrow⟩ := h.box
  have hl : l < W.heap.size := (Array.getElem?_eq_some_iff.1 h.L).1
  have hbr := run_beginRound (P := Tryz.prog) h.L rfl
  obtain ⟨W2, hW2⟩ : ∃ W2, W.putObj l (.loop { apRecQ cA cB fn sv Bs D .ready none with state := .busy }) = W2 := ⟨_, rfl⟩
  rw [hW2] at hbr
  have hg2 : W.grownBy W2 (some l) := by rw [← hW2]; exact grownBy_putObj_a _ _ _
  have hk2 : KeepsWalks W W2 := by rw [← hW2]; exact KeepsWalks.putObj _ h.L rfl
  have hv2 : W2.heap[Bs]? = some (.cells #[v] 48 (0, 0)) := by rw [← hW2]; exact (World.putObj_heap_other hBl).trans hv
  have hK2 : W2.heap[D]? = some (.deferred (some [])) := by rw [← hW2]; exact (World.putObj_heap_other hDl).trans h.K
  have hx2 : W2.heap[W0.heap.size]? = some (.cells #[.int .i8 x.a, .int .i64 x.b, .int .i8 x.c, .int .i64 x.d] 30 (0, 0)) := by rw [← hW2]; exact (World.putObj_heap_other (by omega)).trans hxc
  have hL2 : W2.heap[l]? = some (.loop { apRecQ cA cB fn sv Bs D .ready none with state := .busy }) := by rw [← hW2]; exact World.putObj_heap_same hl
  have hrow2 : W2.ownsRow w0.heap.size 30 4 v ss.length (ss.flatMap qc) := hrow.kept hg2 (ownsRow_ne_a hrow h.L (fun cur e => by first | cases e | exact hne (Obj.cells.inj e).2.1))
  have hb2 : Below w0.heap.size w0 W2 := h.below.grown hg2 h.below.size (fun k e => by cases e; exact h0l)
  obtain ⟨hc2, hf2⟩ := cell_of_box_a hv2
  have x0 : W2.cell? ⟨W0.heap.size, 0, none⟩ = some (.int .i8 x.a) := by simp [World.cell?, hx2]
  have x1 : W2.cell? ⟨W0.heap.size, 1, none⟩ = some (.int .i64 x.b) := by simp [World.cell?, hx2]
  have x2 : W2.cell? ⟨W0.heap.size, 2, none⟩ = some (.int .i8 x.c) := by simp [World.cell?, hx2]
  have x3 : W2.cell? ⟨W0.heap.size, 3, none⟩ = some (.int .i64 x.d) := by simp [World.cell?, hx2]
  have hBlt : Bs < W2.heap.size := (Array.getElem?_eq_some_iff.1 hv2).1
  have hl2 : l < W2.heap.size := (Array.getElem?_eq_some_iff.1 hL2).1
  have hDlt : D < W2.heap.size := (Array.getElem?_eq_some_iff.1 hK2).1
  have ne_of : ∀ {j : Nat} {o : Obj}, W2.heap[j]? = some o → (∀ cur, o ≠ .cells cur 30 (0, 0)) → some j ≠ v.ownBlock := fun hj hno => by
    rcases ownsRow_ne_a hrow2 hj hno with e | e
    · rw [e]; simp
    · exact fun e' => e e'.symm
  clear hW2
  obtain ⟨rfl, rfl⟩ : cA = (apPick Tryz.f153.body).1 ∧ cB = (apPick Tryz.f153.body).2 := by rw [hAB]; exact ⟨rfl, rfl⟩
  dsimp only [apPick, Tryz.f153]
  clear hAB
  rw [hW] at hbr
  have hcell : ∀ j u, (qc x)[j]? = some u → (W2.alloc (.cells #[.int .i8 x.a, .int .i64 x.b, .int .i8 x.c, .int .i64 x.d] 30)).cell? ((⟨W2.heap.size, 0, none⟩ : Addr).add j) = some u := by
    intro j u hj
    match j, hj with
    | 0, hj => simp [qc] at hj; subst hj; simp [Addr.add]
    | 1, hj => simp [qc] at hj; subst hj; simp [Addr.add]
    | 2, hj => simp [qc] at hj; subst hj; simp [Addr.add]
    | 3, hj => simp [qc] at hj; subst hj; simp [Addr.add]
    | n + 4, hj => simp [qc] at hj
  have hone : ∀ u ∈ qc x, u.oneCell' = true := by intro u hu; simp [qc] at hu; rcases hu with rfl | rfl | rfl | rfl <;> rfl
  have h63 : ss.length + 1 ≤ maxLen := by unfold maxLen; omega
  have hby : (ss.length + 1) * 32 ≤ 140737488355328 := by omega
  have hbase : w0.heap.size ≤ (W2.alloc (.cells #[.int .i8 x.a, .int .i64 x.b, .int .i8 x.c, .int .i64 x.d] 30)).heap.size := by have := hb2.size; simp; omega
  have HC := Lib.hid hcell
  have HO := Lib.hid hone
  have H63 := Lib.hid h63
  have HBY := Lib.hid hby
  have HBA := Lib.hid hbase
  clear hcell hone h63 hby hbase
  gi_wp2_with (first
    | (gi_at_builtin; refine wpListIn_append_own _ rfl _ _ 48 rfl w0.heap.size 30 i0 _ 4 32 Tryz.underlying48 hi hz0 hz1 hz2 rfl (by decide) _ _ _ rfl (hrow2.alloc _) ⟨W2.heap.size, 0, none⟩ 1 1 (qc x) rfl rfl HC.out HO.out H63.out HBY.out HBA.out ?_; intro v' w3 hown' hg3 hnil3
       have hv3 : w3.heap[Bs]? = some (.cells #[v] 48 (0, 0)) := (hg3.block Bs (by simp; omega) (ne_of hv2 (fun cur e => by first | cases e | exact hne (Obj.cells.inj e).2.1))).trans ((Below.heap_alloc _ _ Bs hBlt).trans hv2)
       obtain ⟨hc3, hf3⟩ := cell_of_box_a hv3
       obtain ⟨g', cap', cur', rfl, hbase', hgb', hr1, hr2, hr3, hr4⟩ : ∃ g' cap' cur', v' = .slice (some ⟨g', 0, none⟩) (ss.length + 1) cap' ∧ w0.heap.size ≤ g' ∧ w3.heap[g']? = some (.cells cur' 30 (0, 0)) ∧ ss.length + 1 ≤ cap' ∧ cap' ≤ maxLen ∧ cur'.size = cap' * 4 ∧ cur'.toList.take ((ss.length + 1) * 4) = ss.flatMap qc ++ qc x := by
         rcases hown'.2 with ⟨_, h0⟩ | h'
         · exact absurd h0 (by omega)
         · exact h'
       go_frame)
    | gi_round_op_a)
  have hg3' : (W2.alloc (.cells #[.int .i8 x.a, .int .i64 x.b, .int .i8 x.c, .int .i64 x.d] 30)).grownBy w3 v.ownBlock := hg3
  have hL3 : w3.heap[l]? = some (.loop { apRecQ (apPick Tryz.f153.body).1 (apPick Tryz.f153.body).2 fn sv Bs D .ready none with state := .busy }) := (hg3'.block l (by simp; omega) (ne_of hL2 (fun cur e => by first | cases e | exact hne (Obj.cells.inj e).2.1))).trans ((Below.heap_alloc _ _ l hl2).trans hL2)
  have hK3 : w3.heap[D]? = some (.deferred (some [])) := (hg3'.block D (by simp; omega) (ne_of hK2 (fun cur e => by first | cases e | exact hne (Obj.cells.inj e).2.1))).trans ((Below.heap_alloc _ _ D hDlt).trans hK2)
  obtain ⟨w4, hw4⟩ : ∃ w4, w3.setCell ⟨Bs, 0, none⟩ (.slice (some ⟨g', 0, none⟩) (ss.length + 1) cap') = w4 := ⟨_, rfl⟩
  rw [hw4]
  have hg4 : w3.grownBy w4 (some Bs) := by rw [← hw4]; exact grownBy_setCell0_a _ _ _
  have hv4 : w4.heap[Bs]? = some (.cells #[.slice (some ⟨g', 0, none⟩) (ss.length + 1) cap'] 48 (0, 0)) := by rw [← hw4]; exact heap_setCell_box_a _ hv3
  have hL4 := (hg4.block l (Array.getElem?_eq_some_iff.1 hL3).1 (fun e => hBl (by cases e; rfl))).trans hL3
  have hK4 : w4.heap[D]? = some (.deferred (some [])) := (hg4.block D (Array.getElem?_eq_some_iff.1 hK3).1 (fun e => hDB (by cases e; rfl))).trans hK3
  have hrow4 := hown'.kept hg4 (ownsRow_ne_a hown' hv3 (fun cur e => by first | cases e | exact hne (Obj.cells.inj e).2.1))
  have hl4 : l < w4.heap.size := (Array.getElem?_eq_some_iff.1 hL4).1
  have hb3 : Below w0.heap.size w0 w3 := (hb2.alloc hb2.size _).grown hg3' (by have := hb2.size; simp; omega) (fun k e => (hrow2.lt k e).1)
  have hb4 : Below w0.heap.size w0 w4 := hb3.grown hg4 hb3.size (fun k e => by cases e; exact h0B)
  have hk4 : KeepsWalks W w4 := ((hk2.trans (KeepsWalks.alloc _ _)).trans (KeepsWalks.of_grownBy hg3' (ownsRow_not_walk_a (hrow2.alloc _)))).trans (by rw [← hw4]; exact KeepsWalks.setCell _ _ _)
  clear hw4
  refine ⟨_, _, run_endRound none hL4, rfl, ⟨⟨_, (World.putObj_heap_other hBl).trans hv4, ?_⟩, World.putObj_heap_same hl4, (World.putObj_heap_other hDl).trans hK4, hb4.grown (grownBy_putObj_a _ _ _) hb4.size (fun k e => by cases e; exact h0l)⟩, hk1.trans (hk4.trans (KeepsWalks.putObj _ hL4 rfl))⟩
  have hkk := fun o => hrow4.kept (grownBy_putObj_a w4 l o) (ownsRow_ne_a hrow4 hL4 (fun cur e => by first | cases e | exact hne (Obj.cells.inj e).2.1))
  rw [show (ss ++ [x]).length = ss.length + 1 by simp, show (ss ++ [x]).flatMap qc = ss.flatMap qc ++ qc x by simp]
  exact hkk _
theorem slAppendSeq (F : Fence) (n : Nat) (h11 : F.fn 153) (hro : F.round = none) (hn : 2 ≤ n) (g : Nat) (lb : Array Value) (hFg : F.fn g) (eg : ∀ args w, (callFunc g args).run Tryz.prog w = .ok (.enter g args) w)
   (L : List Rq) (hl : L.length ≤ 100000) (w : World) (hseq : SeqGivesB F (n - 1) g lb L w) :
   CallsIn F n Tryz.prog 153 #[.slice none 0 0, .func (.func g) #[] lb] w fun e w' => ∃ v : Value, e = .returned v ∧ OwnQ w' w.heap.size v L ∧ Dn w w' := by
 have h1 : 1 ≤ n := by omega
 have hne : 48 ≠ 30 := by decide
 obtain ⟨cA, cB, hAB⟩ : ∃ cA cB, apPick Tryz.f153.body = (cA, cB) := ⟨_, _, rfl⟩
 have FG := Tryz.func153
 refine callsIn_of_wp_marks FG rfl h11 ?_ hro
 simp only [Tryz.ntmps153, List.size_toArray, List.length_cons, List.length_nil, Nat.reduceAdd, Nat.reduceSub, Array.replicate_succ, Array.replicate_zero, List.push_toArray, List.append_toArray, List.nil_append, List.cons_append]
 gi_wp2
 refine wpIn_rangeFunc ?_
 intro fn hfn
 rw [hro]
 obtain ⟨W0, hW0⟩ : ∃ W0, w.alloc (.cells #[.slice none 0 0] 48) = W0 := ⟨_, rfl⟩
 have hs0 : W0.heap.size = w.heap.size + 1 := by rw [← hW0]; simp
 have hv0 : W0.heap[w.heap.size]? = some (.cells #[.slice none 0 0] 48 (0, 0)) := by rw [← hW0]; exact World.alloc_heap_new w _
 have hb0 : Below w.heap.size w W0 := by rw [← hW0]; exact (Below.refl _ w).alloc (Nat.le_refl _) _
 rw [hW0]
 obtain ⟨W1, hW1⟩ : ∃ W1, (W0.alloc (.deferred (some []))).alloc (.loop (apRecQ cA cB fn (.func (.func g) #[] lb) w.heap.size W0.heap.size .ready none)) = W1 := ⟨_, rfl⟩
 have hold : ∀ k, k < W0.heap.size → W1.heap[k]? = W0.heap[k]? := fun k hk => by
   rw [← hW1]; exact (Below.heap_alloc _ _ k (by simp; omega)).trans (Below.heap_alloc _ _ k hk)
 have hb1 : Below w.heap.size w W1 := by rw [← hW1]; exact (hb0.alloc hb0.size _).alloc (by have := hb0.size; simp; omega) _
 have hs1 : W1.heap.size = W0.heap.size + 2 := by rw [← hW1]; simp
 have hM : ApQ cA cB w fn (.func (.func g) #[] lb) w.heap.size (W0.heap.size + 1) W0.heap.size [] W1 :=
   ⟨⟨_, (hold w.heap.size (by omega)).trans hv0, ⟨rfl, .inl ⟨rfl, rfl⟩⟩⟩,
    by rw [← hW1]; have := World.alloc_heap_new (W0.alloc (.deferred (some []))) (.loop (apRecQ cA cB fn (.func (.func g) #[] lb) w.heap.size W0.heap.size .ready none)); rwa [World.size_alloc] at this,
    by rw [← hW1]; exact (Below.heap_alloc _ _ _ (by simp)).trans (World.alloc_heap_new W0 _), hb1⟩
 refine ⟨W0.heap.size + 1, [{ target := .collected W0.heap.size, args := #[] }], W1, { target := .fn (.func g) lb, args := #[.func (.yield (W0.heap.size + 1)) #[] #[]] }, W1, g,
   #[.func (.yield (W0.heap.size + 1)) #[] #[]] ++ lb, W1, ?_, ?_, ?_, ?_, fun _ => h1, ?_⟩
 · have hA : cA = (apPick Tryz.f153.body).1 := by rw [hAB]
   have hB : cB = (apPick Tryz.f153.body).2 := by rw [hAB]
   rw [← hW1, hA, hB]; exact run_enterLoop_outer _ _ _ _ _
 · simp [resolve, go_sem]
 · intro f' hf'; simp [Target.leads] at hf'; subst hf'; exact hFg
 · simp [invoke, go_sem, eg]
 · refine (hseq (W0.heap.size + 1) (ApQ cA cB w fn (.func (.func g) #[] lb) w.heap.size (W0.heap.size + 1) W0.heap.size) W1 hb1 (apq_abides cA cB _ _ _ _ _ _ _ hb1.size) (fun s W' h => h.below)
     (fun pre x W hJ hl2 => apq_yield cA cB hAB F (n - 1 - 1) w fn hfn _ w.heap.size (W0.heap.size + 1) W0.heap.size (by omega) (by omega) (by omega) (Nat.le_refl _) (by omega) L.length (by omega) pre x W hJ hl2) hM).mono ?_
   rintro e W2 ⟨⟨v0, rfl⟩, h2⟩
   obtain ⟨v, hv, hrow⟩ := h2.box
   have hend := run_endLoop (P := Tryz.prog) h2.L (by simp [apRecQ])
   obtain ⟨W3, hW3⟩ : ∃ W3, W2.putObj (W0.heap.size + 1) (.loop { apRecQ cA cB fn (.func (.func g) #[] lb) w.heap.size W0.heap.size .ready none with state := .exhausted }) = W3 := ⟨_, rfl⟩
   rw [hW3] at hend
   have hg3 : W2.grownBy W3 (some (W0.heap.size + 1)) := by rw [← hW3]; exact grownBy_putObj_a _ _ _
   have hv3 : W3.heap[w.heap.size]? = some (.cells #[v] 48 (0, 0)) := by rw [← hW3]; exact (World.putObj_heap_other (by omega)).trans hv
   have hK3 : W3.heap[W0.heap.size]? = some (.deferred (some [])) := by rw [← hW3]; exact (World.putObj_heap_other (by omega)).trans h2.K
   have hrow3 := hrow.kept hg3 (ownsRow_ne_a hrow h2.L (fun cur e => by first | cases e | exact hne (Obj.cells.inj e).2.1))
   have hb3 : Below w.heap.size w W3 := h2.below.grown hg3 h2.below.size (fun k e => by cases e; omega)
   obtain ⟨hc3, hf3⟩ := cell_of_box_a hv3
   clear hW3
   refine ⟨none, W3, hend, ?_⟩
   gi_wp2
   rw [← hs0]
   refine ⟨by simp, .inl ⟨_, _, rfl, run_takeDeferred hK3, ?_⟩⟩
   exact ⟨_, results_tmp rfl _ _ _, v, rfl, ⟨hrow3.kept (grownBy_putObj_a _ _ _) (ownsRow_ne_a hrow3 hK3 (fun cur e => by first | cases e | exact hne (Obj.cells.inj e).2.1))⟩, ⟨hb3.grown (grownBy_putObj_a _ _ _) hb3.size (fun k e => by cases e; omega)⟩⟩
set_option maxHeartbeats 4000000
set_option maxRecDepth 100000
theorem slCollect (B : Nat) (p : Option Addr) (cap : Nat) (L : List Rq) (w : World) (hl : L.length ≤ 100000) (hB : w.cell? ⟨B, 0, none⟩ = some (.slice p L.length cap)) (hR : Row w p L) :
  Calls Tryz.prog 118 #[.func (.func 120) #[] #[.pointer (some ⟨B, 0, none⟩)]] w fun e w' => ∃ v : Value, e = .returned v ∧ OwnQ w' w.heap.size v L ∧ Dn w w' := by
 refine (callsIn_wide (n := 6)).1 ?_
 have e11 : ∀ args w, (callFunc 153 args).run Tryz.prog w = .ok (.enter 153 args) w := enters_of Tryz.func153 (by kernel_rfl) rfl
 have e86 : ∀ args w, (callFunc 120 args).run Tryz.prog w = .ok (.enter 120 args) w := enters_of Tryz.func120 (by kernel_rfl) rfl
 have hseq : ∀ W, Dn w W → CallsIn Fence.wide 5 Tryz.prog 153 #[.slice none 0 0, .func (.func 120) #[] #[.pointer (some ⟨B, 0, none⟩)]] W fun e w' => ∃ v : Value, e = .returned v ∧ OwnQ w' W.heap.size v L ∧ Dn W w' := fun W h =>
  slAppendSeq Fence.wide 5 trivial rfl (by omega) 120 #[.pointer (some ⟨B, 0, none⟩)] trivial e86 L hl W (vals_give Fence.wide 4 trivial rfl (by omega) B p cap L W hl (h.cell hB) (hR.dn h))
 have HS := Lib.hid hseq
 clear hseq hB hR
 refine callsIn_of_wp Tryz.func118 rfl trivial ?_ rfl
 simp only [Tryz.ntmps118, List.size_toArray, List.length_cons, List.length_nil, Nat.reduceAdd, Nat.reduceSub, Array.replicate_succ, Array.replicate_zero, List.push_toArray, List.append_toArray, List.nil_append, List.cons_append]
 gi_wp2_with fail
 refine ⟨trivial, (HS.out _ (Dn.refl _)).mono ?_⟩
 rintro e w' ⟨v, rfl, hown, hd⟩
 gi_wp2_with fail
 go_ret
 exact ⟨v, rfl, hown, hd⟩
theorem slValues (p : Option Addr) (cap : Nat) (L : List Rq) (w : World) (hR : Row w p L) :
  Calls Tryz.prog 66 #[.slice p L.length cap] w fun ro w' => ∃ B : Nat, ro = .returned (.func (.func 120) #[] #[.pointer (some ⟨B, 0, none⟩)]) ∧ w'.cell? ⟨B, 0, none⟩ = some (.slice p L.length cap) ∧ Dn w w' := by
 have HR := Lib.hid hR
 clear hR
 go_enter Tryz.func66, Tryz.ntmps66
 go_wp2_with fail
 obtain ⟨W1, hW1⟩ : ∃ W1, W1 = w.alloc (.cells #[.slice p L.length cap] 48) := ⟨_, rfl⟩
 have u1 : Dn w W1 := by rw [hW1]; exact (Dn.refl _).alloc _
 have cB : W1.cell? ⟨w.heap.size, 0, none⟩ = some (.slice p L.length cap) := by rw [hW1]; simp [go_sem]
 rw [← hW1]
 clear hW1
 go_ret
 exact ⟨w.heap.size, rfl, cB, u1⟩
theorem slSortedFunc (B : Nat) (p : Option Addr) (cap : Nat) (L : List Rq) (w : World) (hl : L.length ≤ 100000) (hB : w.cell? ⟨B, 0, none⟩ = some (.slice p L.length cap)) (hR : Row w p L) :
  Calls Tryz.prog 65 #[.func (.func 120) #[] #[.pointer (some ⟨B, 0, none⟩)], .func (.func 67) #[] #[]] w fun ro w' => ∃ p' cap', ro = .returned (.slice p' (srt L).length cap') ∧ Row w' p' (srt L) ∧ Dn w w' := by
 have HC := Lib.hid (slCollect B p cap L w hl hB hR)
 have HS := Lib.hid (fun W base v (h : OwnQ W base v L) => slSortV base v L W h (by omega))
 clear hB hR
 go_enter Tryz.func65, Tryz.ntmps65
 go_wp2_with fail
 refine HC.out.mono ?_
 rintro e wc ⟨v, rfl, hown, qc⟩
 have HOWN := Lib.hid hown
 clear hown
 go_wp2_with fail
 refine (HS.out _ _ v HOWN.out).mono ?_
 rintro e ws ⟨rfl, ⟨p3, c3, rfl, hrs⟩, hdn⟩
 have us := hdn w qc (Nat.le_refl _)
 have HRS := Lib.hid hrs
 clear hrs hdn
 go_wp2_with fail
 go_ret
 first | exact ⟨p3, c3, rfl, HRS.out, us⟩ | exact ⟨p3, ⟨c3, rfl⟩, HRS.out, us⟩
theorem rsOf (p : Option Addr) (cap : Nat) (L : List Rq) (E : Int) (R : List Rq) (w : World) (hE : E = ofE L) (hRR : R = if E = 0 then joinedL (srt L) else []) (hl : L.length ≤ 100000) (hI : I6 L) (hR : Row w p L) :
   Calls Tryz.prog 24 #[.slice p L.length cap] w fun ro w' => ∃ p', ro = .returned (.tuple #[.slice p' R.length R.length, .int .i64 E]) ∧ Row w' p' R ∧ Dn w w' := by
 have HI := Lib.hid hI
 clear hI
 by_cases h4 : 4096 < L.length
 · have d0 : decide ((L.length : Int) > 4096) = true := by simp; omega
   obtain rfl : E = 3 := by rw [hE]; unfold ofE; rw [if_pos h4]
   obtain rfl : R = [] := by rw [hRR, if_neg (by decide)]
   clear hE hRR
   go_enter Tryz.func24, Tryz.ntmps24
   go_wp2_with fail
   go_ret2
   exact ⟨none, rfl, rownil _, Dn.refl _⟩
 have d0 : decide ((L.length : Int) > 4096) = false := by simp; omega
 have HE : Hid (E = errL (L.drop 0)) := Lib.hid (by rw [hE]; unfold ofE; rw [if_neg h4]; rfl)
 have HRR := Lib.hid hRR
 clear hE hRR
 go_enter Tryz.func24, Tryz.ntmps24
 go_wp2_with fail
 go_loopw [2, 3, 12] (fun r1 r2 i wr => r1 = .slice none 0 0 ∧ r2 = .int .i64 0 ∧ ∃ k : Nat, k ≤ L.length ∧ i = .int .i64 k ∧ errL (L.drop 0) = errL (L.drop k) ∧ Dn w wr) (fun _ _ i _ => L.length - (intOf i).toNat)
 case atStart => exact ⟨rfl, rfl, 0, by omega, rfl, rfl, Dn.refl _⟩
 case round =>
   obtain ⟨rfl, rfl, k, hk, rfl, he, hu⟩ := hrel
   have HF := Lib.hid he
   clear he
   by_cases hlt : k < L.length
   · have d1 : decide ((k : Int) < L.length) = true := by simp; omega
     obtain ⟨x, hx⟩ : ∃ x, L[k]? = some x := ⟨L[k], by simp [hlt]⟩
     obtain ⟨g, o, rfl, hc⟩ := hR.cs (by omega)
     have HX := Lib.hid hx
     have hA : Hid (ChkIs x.a x.b x.c x.d (rnErr x.a x.b x.c x.d)) := Lib.hid (rnChk x.a x.b x.c x.d)
     obtain ⟨a0, a1, a2, a3⟩ := (hc.dn hu).el _ _ hx
     clear hx hc hR
     by_cases hb : rnErr x.a x.b x.c x.d = 0
     · have HB := Lib.hid hb
       rw [hb] at hA
       clear hb
       go_wp2_with fail
       clear a0 a1 a2 a3
       obtain ⟨W1, hW1⟩ : ∃ W1, W1 = wr.alloc (.cells #[.int .i8 x.a, .int .i64 x.b, .int .i8 x.c, .int .i64 x.d] 30) := ⟨_, rfl⟩
       have uW1 : Dn wr W1 := by rw [hW1]; exact (Dn.refl _).alloc _
       have c2 : W1.cell? ⟨wr.heap.size, 0, none⟩ = some (.int .i8 x.a) := by rw [hW1]; simp [go_sem]
       have c3 : W1.cell? ⟨wr.heap.size, 1, none⟩ = some (.int .i64 x.b) := by rw [hW1]; simp [go_sem]
       have c4 : W1.cell? ⟨wr.heap.size, 2, none⟩ = some (.int .i8 x.c) := by rw [hW1]; simp [go_sem]
       have c5 : W1.cell? ⟨wr.heap.size, 3, none⟩ = some (.int .i64 x.d) := by rw [hW1]; simp [go_sem]
       have l6 : wr.heap.size < W1.heap.size := by rw [hW1]; simp <;> omega
       rw [← hW1]
       clear hW1
       have vW1 := hu.trans uW1
       clear uW1 hu
       refine (hA.out _).mono ?_
       rintro e w1 ⟨rfl, qw1⟩
       have l7 := nlt l6 qw1.size
       obtain ⟨c8, c9, c10, c11⟩ := mv4 qw1.cell c2 c3 c4 c5
       clear l6 c2 c3 c4 c5
       have uw1 := vW1.trans qw1
       clear qw1 vW1
       go_wp2_with fail
       go_roundw
       case rel => exact ⟨rfl, rfl, k + 1, by omega, by simp, HF.out.trans (err_ok HX.out HB.out), uw1⟩
       case measure => simp [intOf]; omega
     · have d2 : (rnErr x.a x.b x.c x.d != 0) = true := by simpa using hb
       obtain rfl : E = rnErr x.a x.b x.c x.d := HE.out.trans (HF.out.trans (err_bad HX.out hb))
       obtain rfl : R = [] := by rw [HRR.out, if_neg hb]
       clear hb
       go_wp2_with fail
       clear a0 a1 a2 a3
       obtain ⟨W1, hW1⟩ : ∃ W1, W1 = wr.alloc (.cells #[.int .i8 x.a, .int .i64 x.b, .int .i8 x.c, .int .i64 x.d] 30) := ⟨_, rfl⟩
       have uW1 : Dn wr W1 := by rw [hW1]; exact (Dn.refl _).alloc _
       have c2 : W1.cell? ⟨wr.heap.size, 0, none⟩ = some (.int .i8 x.a) := by rw [hW1]; simp [go_sem]
       have c3 : W1.cell? ⟨wr.heap.size, 1, none⟩ = some (.int .i64 x.b) := by rw [hW1]; simp [go_sem]
       have c4 : W1.cell? ⟨wr.heap.size, 2, none⟩ = some (.int .i8 x.c) := by rw [hW1]; simp [go_sem]
       have c5 : W1.cell? ⟨wr.heap.size, 3, none⟩ = some (.int .i64 x.d) := by rw [hW1]; simp [go_sem]
       have l6 : wr.heap.size < W1.heap.size := by rw [hW1]; simp <;> omega
       rw [← hW1]
       clear hW1
       have vW1 := hu.trans uW1
       clear uW1 hu
       refine (hA.out _).mono ?_
       rintro e w1 ⟨rfl, qw1⟩
       have l7 := nlt l6 qw1.size
       obtain ⟨c8, c9, c10, c11⟩ := mv4 qw1.cell c2 c3 c4 c5
       clear l6 c2 c3 c4 c5
       have uw1 := vW1.trans qw1
       clear qw1 vW1
       go_wp2_with fail
       go_ret2
       exact ⟨none, rfl, rownil _, uw1⟩
   · obtain rfl : k = L.length := by omega
     have d1 : decide ((L.length : Int) < L.length) = false := by simp
     have hend := Lib.hid (HF.out.trans err_end)
     obtain rfl : E = 0 := HE.out.trans hend.out
     obtain rfl : R = joinedL (srt L) := by rw [HRR.out, if_pos rfl]
     clear HE HRR
     have HV := Lib.hid (fun W (h : Dn w W) => slValues p cap L W (hR.dn h))
     have HS := Lib.hid (fun B W (h : Dn w W) hB => slSortedFunc B p cap L W hl hB (hR.dn h))
     have HJ := Lib.hid (fun W p' c' (hr : Row W p' (srt L)) => rsJoined p' c' (srt L) W (by rw [srt_len]; omega) (fun x hx => HI.out x ((srt_mem L x).1 hx)) hr)
     clear hR
     generalize hSL : srt L = SL at *
     have hSL' := Lib.hid hSL
     clear hSL
     go_wp2_with fail
     refine (HV.out _ hu).mono ?_
     rintro e w1 ⟨B, rfl, hB, q1⟩
     have u1 := hu.trans q1
     have HB := Lib.hid hB
     clear hB q1
     go_wp2_with fail
     refine (HS.out B _ u1 HB.out).mono ?_
     rintro e w2 ⟨p2, c2, rfl, hr2, q2⟩
     have HR2 := Lib.hid hr2
     have u2 := u1.trans q2
     clear hr2 q2
     go_wp2_with fail
     refine (HJ.out _ p2 c2 HR2.out).mono ?_
     rintro e w3 ⟨p3, rfl, hr3, q3⟩
     have HR3 := Lib.hid hr3
     clear hr3
     go_wp2_with fail
     go_ret2
     cases hSL'.out
     exact ⟨p3, rfl, HR3.out, u2.trans q3⟩
set_option maxHeartbeats 4000000
set_option maxRecDepth 100000
open Go.RowKit Go.Maps Go.Sort Go.Shelf Go.Proofs
structure Moves (T : Nat → Prop) (A A' : World) : Prop where
 os : A'.os = A.os
 tape : A'.tape = A.tape
 output : A'.output = A.output
 size : A.heap.size ≤ A'.heap.size
 block : ∀ i, i < A.heap.size → ¬ T i → A'.heap[i]? = A.heap[i]?
theorem Moves.refl (T : Nat → Prop) (A : World) : Moves T A A := ⟨rfl, rfl, rfl, Nat.le_refl _, fun _ _ _ => rfl⟩
theorem Moves.trans {T : Nat → Prop} {A B C : World} (h : Moves T A B) (k : Moves T B C) : Moves T A C :=
 ⟨k.os.trans h.os, k.tape.trans h.tape, k.output.trans h.output, Nat.le_trans h.size k.size, fun i hi hn => (k.block i (Nat.lt_of_lt_of_le hi h.size) hn).trans (h.block i hi hn)⟩
theorem Moves.of_dn {T : Nat → Prop} {A B : World} (h : Dn A B) : Moves T A B := ⟨h.below.os, h.below.tape, h.below.output, h.size, fun i hi _ => h.below.block i hi⟩
theorem Moves.more {T T' : Nat → Prop} {A B : World} (h : Moves T A B) (k : ∀ b, T b → T' b) : Moves T' A B := ⟨h.os, h.tape, h.output, h.size, fun i hi hn => h.block i hi (fun e => hn (k i e))⟩
theorem Moves.set {T : Nat → Prop} {p : Addr} (h : T p.block) (A : World) (v : Value) : Moves T A (A.setCell p v) :=
 ⟨rfl, rfl, rfl, by simp, fun i _ hn => Below.heap_setCell A p v i (fun e => hn (e ▸ h))⟩
theorem Moves.put {T : Nat → Prop} {l : Nat} (h : T l) (A : World) (o : Obj) : Moves T A (A.putObj l o) :=
 ⟨rfl, rfl, rfl, by simp [World.putObj], fun i _ hn => World.putObj_heap_other (fun e => hn (e ▸ h))⟩
theorem Moves.alloc (T : Nat → Prop) (A : World) (o : Obj) : Moves T A (A.alloc o) := .of_dn ((Dn.refl _).alloc o)
theorem Moves.dn {T : Nat → Prop} {w A B : World} (h : Moves T A B) (k : Dn w A) (hT : ∀ b, T b → w.heap.size ≤ b) : Dn w B :=
 ⟨h.os.trans k.below.os, h.tape.trans k.below.tape, h.output.trans k.below.output, Nat.le_trans k.size h.size, fun i hi => (h.block i (Nat.lt_of_lt_of_le hi k.size) (fun e => by have := hT i e; omega)).trans (k.below.block i hi)⟩
structure Jok (w : World) (J : Nat → (Nat → Prop) → World → Prop) (Jx : (Nat → Prop) → World → Prop) : Prop where
 dn : ∀ k T A, J k T A → Dn w A
 lt : ∀ k T A b, J k T A → T b → b < A.heap.size
 mv : ∀ k T A A', J k T A → Moves T A A' → J k T A'
 mx : ∀ T A A', Jx T A → Moves T A A' → Jx T A'
 nw : ∀ k T A o, J k T A → J k (fun b => T b ∨ b = A.heap.size) (A.alloc o)
theorem Jok.al {w : World} {J : Nat → (Nat → Prop) → World → Prop} {Jx : (Nat → Prop) → World → Prop} (h : Jok w J Jx) {k : Nat} {T : Nat → Prop} {A A' : World} (hj : J k T A) (q : Dn A A') : J k T A' := h.mv _ _ _ _ hj (.of_dn q)
def StrG (g : Nat) (lb : Array Value) (L : List Rq) (w : World) : Prop :=
 ∀ (n l : Nat) (J : Nat → (Nat → Prop) → World → Prop) (Jx : (Nat → Prop) → World → Prop) (W : World), Jok w J Jx →
  (∀ k x T A m, L[k]? = some x → J k T A → YieldAt Fence.wide m Tryz.prog l #[rqv x] A fun e A' =>
   ((e = .returned (.bool true) ∧ J (k + 1) T A') ∨ (e = .returned (.bool false) ∧ Jx T A')) ∧ ∀ b, T b → A'.heap[b]? = A.heap[b]?) →
  J 0 (fun _ => False) W →
  CallsIn Fence.wide n Tryz.prog g (#[.func (.yield l) #[] #[]] ++ lb) W fun e W' => (∃ v, e = .returned v) ∧ ((∃ T, J L.length T W') ∨ ∃ T, Jx T W')
theorem StrG.later {g : Nat} {lb : Array Value} {L : List Rq} {w w' : World} (h : StrG g lb L w) (q : Dn w w') : StrG g lb L w' :=
 fun n l J Jx W hJ hY h0 => h n l J Jx W ⟨fun k T A x => q.trans (hJ.dn k T A x), hJ.lt, hJ.mv, hJ.mx, hJ.nw⟩ hY h0
def StrV (v : Value) (L : List Rq) (w : World) : Prop :=
 ∃ g lb, v = .func (.func g) #[] lb ∧ (∀ args w, (callFunc g args).run Tryz.prog w = .ok (.enter g args) w) ∧ StrG g lb L w
theorem StrV.later {v : Value} {L : List Rq} {w w' : World} (h : StrV v L w) (q : Dn w w') : StrV v L w' := by
 obtain ⟨g, lb, e, hg, hs⟩ := h
 exact ⟨g, lb, e, hg, hs.later q⟩
theorem roundIn_any {n m l : Nat} {f : FuncId} {tmps : Array Value} {assign body : Code} {w : World} {R : Ending → World → Prop} (h : RoundIn Fence.wide n Tryz.prog l f tmps assign body w R) : RoundIn Fence.wide m Tryz.prog l f tmps assign body w R :=
 ⟨h.1, fun c cs _ => h.2 c cs (room_wide _)⟩
theorem roundIn_in {n m l l0 : Nat} {f : FuncId} {tmps : Array Value} {assign body : Code} {w : World} {R : Ending → World → Prop} (h : RoundIn Fence.wide n Tryz.prog l f tmps assign body w R) : RoundIn (Fence.wide.inRound l0) m Tryz.prog l f tmps assign body w R :=
 ⟨h.1, fun c cs _ => h.2 c cs (room_wide _)⟩
theorem vals_strm (B : Nat) (p : Option Addr) (cap : Nat) (L : List Rq) (w : World) (hl : L.length ≤ 100000)
  (hB : w.cell? ⟨B, 0, none⟩ = some (.slice p L.length cap)) (hR : Row w p L) :
  StrG 120 #[.pointer (some ⟨B, 0, none⟩)] L w := by
 intro n l J Jx W hK hY h0
 have FG := Tryz.func120
 refine callsIn_of_wp FG rfl trivial ?_ rfl
 simp only [Tryz.ntmps120, List.size_toArray, List.length_cons, List.length_nil, Nat.reduceAdd, Nat.reduceSub, Array.replicate_succ, Array.replicate_zero, List.push_toArray, List.append_toArray, List.nil_append, List.cons_append]
 have hB1 : W.cell? ⟨B, 0, none⟩ = some (.slice p L.length cap) := (hK.dn _ _ _ h0).cell hB
 have HR := Lib.hid hR
 have HK := Lib.hid hK
 have HB := Lib.hid hB
 clear hR hB hK
 gi_wp2
 clear hB1
 gi_loopw [7] (fun iv wr => ∃ (k : Nat) (T : Nat → Prop), k ≤ L.length ∧ iv = .int .i64 k ∧ J k T wr) (fun iv _ => L.length - (intOf iv).toNat)
 case atStart => exact ⟨0, _, by omega, rfl, h0⟩
 case round =>
  obtain ⟨k, T, hk, rfl, hJk⟩ := hrel
  by_cases hlt : k < L.length
  · have d1 : decide ((k : Int) < L.length) = true := by simp; omega
    obtain ⟨x, hx⟩ : ∃ x, L[k]? = some x := ⟨L[k], by simp [hlt]⟩
    obtain ⟨g, o, rfl, hc⟩ := HR.out.cs (by omega)
    obtain ⟨a0, a1, a2, a3⟩ := (hc.dn (HK.out.dn _ _ _ hJk)).el _ _ hx
    have hJ2 : J k T (wr.alloc (.cells #[.int .i8 x.a, .int .i64 x.b, .int .i8 x.c, .int .i64 x.d] 30)) := HK.out.al hJk ((Dn.refl _).alloc _)
    obtain ⟨fn, tmps, assign, body, hy, hR2⟩ := hY k x T _ (n - 1) hx hJ2
    clear hx hc
    gi_wp2
    refine ⟨(fun h => nomatch h), hR2.mono ?_⟩
    rintro e W3 ⟨⟨rfl, hJ3⟩ | ⟨rfl, hJ3⟩, -⟩
    · gi_wp2
      go_roundw
      case rel => exact ⟨k + 1, T, by omega, by simp, hJ3⟩
      case measure => simp [intOf]; omega
    · gi_wp2
      first
       | (go_end0; exact ⟨⟨_, rfl⟩, .inr ⟨T, hJ3⟩⟩)
       | (refine bodyPost_ret (results_none rfl _ _ _) rfl ?_; exact ⟨⟨_, rfl⟩, .inr ⟨T, hJ3⟩⟩)
  · obtain rfl : k = L.length := by omega
    have d1 : decide ((L.length : Int) < L.length) = false := by simp
    gi_wp2
    go_end0
    exact ⟨⟨_, rfl⟩, .inl ⟨T, hJk⟩⟩
end Go.Proofs.YteodjglbpfmikaaGreatDoor
