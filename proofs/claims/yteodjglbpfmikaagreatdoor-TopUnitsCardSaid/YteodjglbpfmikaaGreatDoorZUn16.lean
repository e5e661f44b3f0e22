/- Walks and laws that the claim's theorem leans on: part 16. -/
import Derived.Test.YteodjglbpfmikaaGreatDoorZUn1
import Derived.Test.YteodjglbpfmikaaGreatDoorZUn2
import Derived.Test.YteodjglbpfmikaaGreatDoorZUn5
import Derived.Test.YteodjglbpfmikaaGreatDoorZUn6
import Derived.Test.YteodjglbpfmikaaGreatDoorZUn7
import Derived.Test.YteodjglbpfmikaaGreatDoorZUn10
import Derived.Test.YteodjglbpfmikaaGreatDoorZUn13
import Derived.Test.YteodjglbpfmikaaGreatDoorZUn14
import Derived.Test.YteodjglbpfmikaaGreatDoorZUn15
import Derived.Test.YteodjglbpfmikaaGreatDoorShJoin
import Derived.Laws.MakeOwn
import Derived.ProofKit
import Derived.LaidMore
import Derived.OpenShut
import Derived.Stop.Joined
import Derived.Lib.LaidTab
import Derived.Shelf.Vars
import Derived.Deep.Slices
import Derived.Laws.Cover2
namespace Go.Proofs.YteodjglbpfmikaaGreatDoor
set_option maxHeartbeats 4000000
set_option maxRecDepth 100000
open Go.RowKit
set_option linter.unusedVariables false
set_option linter.unusedSimpArgs false
def cntL (L : List Rq) : Int × Int := if chkL L ≠ 0 then (0, chkL L) else if L.any infB = true then (0, 16) else cntP 0 L
theorem cnt_at {L : List Rq} {k : Nat} {x : Rq} {acc : Int} (h : L[k]? = some x) : cntP acc (L.drop k) = if I64 (x.d - x.b + 1) then (if I64 (acc + (x.d - x.b + 1)) then cntP (acc + (x.d - x.b + 1)) (L.drop (k + 1)) else (0, 15)) else (0, 15) := by
 obtain ⟨hl, rfl⟩ := List.getElem?_eq_some_iff.1 h
 rw [List.drop_eq_getElem_cons hl]; rfl
theorem rsCount (p : Option Addr) (cap : Nat) (L : List Rq) (n E : Int) (w : World) (hn : n = (cntL L).1) (hE : E = (cntL L).2) (hl : L.length ≤ 100000) (hI : I6 L) (hR : Row w p L) :
   Calls Tryz.prog 44 #[.slice p L.length cap] w fun ro w' => ro = .returned (.tuple #[.int .i64 n, .int .i64 E]) ∧ Dn w w' := by
 have HB := Lib.hid (fun W (h : Dn w W) => rsCheck p cap L W (by omega) hI (hR.dn h))
 have HC := Lib.hid (fun W (h : Dn w W) => slContC p cap L W (by omega) (hR.dn h))
 by_cases hc : chkL L = 0
 rotate_left
 · have d0 : (chkL L != 0) = true := by simpa using hc
   obtain ⟨rfl, rfl⟩ : n = 0 ∧ E = chkL L := by unfold cntL at hn hE; rw [if_pos hc] at hn hE; exact ⟨hn, hE⟩
   clear hn hE hc hR hI
   generalize chkL L = c at *
   go_enter Tryz.func44, Tryz.ntmps44
   go_wp2_with fail
   refine (HB.out _ (Dn.refl _)).mono ?_
   rintro e w1 ⟨rfl, qw1⟩
   have uw1 := qw1
   clear qw1
   go_wp2_with fail
   go_ret2
   exact ⟨rfl, uw1⟩
 rw [hc] at HB
 have hok := Sep.all (chk_ok hI hc)
 have e0 : cntL L = if L.any infB = true then (0, 16) else cntP 0 L := by unfold cntL; rw [if_neg (by simpa using hc)]
 rw [e0] at hn hE
 clear e0 hc hI
 by_cases ha : L.any infB = true
 · rw [if_pos ha] at hn hE
   rw [ha] at HC
   subst hn hE
   clear hok ha hR
   go_enter Tryz.func44, Tryz.ntmps44
   go_wp2_with fail
   refine (HB.out _ (Dn.refl _)).mono ?_
   rintro e w1 ⟨rfl, qw1⟩
   have uw1 := qw1
   clear qw1
   go_wp2_with fail
   refine (HC.out _ uw1).mono ?_
   rintro e w2 ⟨rfl, qw2⟩
   have uw2 := uw1.trans qw2
   clear qw2 uw1
   go_wp2_with fail
   go_ret2
   exact ⟨rfl, uw2⟩
 · rw [if_neg ha] at hn hE
   rw [show L.any infB = false by simpa using ha] at HC
   have hinf : ∀ x ∈ L, x.a = 0 ∧ x.c = 0 := by
    intro x hx
    have h1 : L.any infB = false := by simpa using ha
    rw [List.any_eq_false] at h1
    have h2 := h1 x hx
    unfold infB at h2
    simp at h2
    exact h2
   have HN := Lib.hid hn
   have HE := Lib.hid hE
   have HOK := Lib.hid hok
   have HINF := Lib.hid hinf
   clear hn hE ha hok hinf
   go_enter Tryz.func44, Tryz.ntmps44
   go_wp2_with fail
   refine (HB.out _ (Dn.refl _)).mono ?_
   rintro e w1 ⟨rfl, qw1⟩
   have uw1 := qw1
   clear qw1
   go_wp2_with fail
   refine (HC.out _ uw1).mono ?_
   rintro e w2 ⟨rfl, qw2⟩
   have uw2 := uw1.trans qw2
   clear qw2 uw1
   go_wp2_with fail
   go_loopw [2, 3, 5, 19] (fun r1 r2 av iv wr => r1 = .int .i64 0 ∧ r2 = .int .i64 0 ∧ ∃ (k : Nat) (acc : Int), k ≤ L.length ∧ iv = .int .i64 k ∧ av = .int .i64 acc ∧ I64 acc ∧ cntP 0 L = cntP acc (L.drop k) ∧ Dn w wr) (fun _ _ _ iv _ => L.length - (intOf iv).toNat)
   case atStart => exact ⟨rfl, rfl, 0, 0, by omega, rfl, rfl, by decide, rfl, uw2⟩
   case round =>
    obtain ⟨rfl, rfl, k, acc, hk, rfl, rfl, hacc, hcnt, hu⟩ := hrel
    have HCN := Lib.hid hcnt
    clear hcnt
    by_cases hlt : k < L.length
    · have d1 : decide ((k : Int) < L.length) = true := by simp; omega
      obtain ⟨x, hx⟩ : ∃ x, L[k]? = some x := ⟨L[k], by simp [hlt]⟩
      obtain ⟨g, o, rfl, hc⟩ := hR.cs (by omega)
      obtain ⟨a0, a1, a2, a3⟩ := (hc.dn hu).el _ _ hx
      have HX := Lib.hid hx
      have hxo := HOK.out x (List.mem_of_getElem? hx)
      have hx0 := HINF.out x (List.mem_of_getElem? hx)
      have hat := cnt_at (acc := acc) hx
      have HLN := Lib.hid (fun n e W h => rnLen x.a x.b x.c x.d n e W hxo.1 hxo.2.1 (Or.inr (Or.inr ⟨hxo.2.2, hx0.1, hx0.2, h⟩)))
      clear hx hc hR hxo hx0
      by_cases hy : I64 (x.d - x.b + 1)
      · rw [if_pos hy] at hat
        have HL2 := Lib.hid (fun W => HLN.out _ _ W (Or.inl ⟨hy, rfl, rfl⟩))
        clear HLN
        generalize x.d - x.b + 1 = y at *
        by_cases hz : I64 (acc + y)
        · rw [if_pos hz] at hat
          have HAT := Lib.hid (HCN.out.trans hat)
          have HZ := Lib.hid hz
          have HA := Lib.hid (fun W => add_fits acc y W hacc hy hz)
          clear hat hy hacc hz
          go_wp2_with fail
          clear a0 a1 a2 a3
          obtain ⟨W1, hW1⟩ : ∃ W1, W1 = wr.alloc (.cells #[.int .i8 x.a, .int .i64 x.b, .int .i8 x.c, .int .i64 x.d] 30) := ⟨_, rfl⟩
          have uW1 : Dn wr W1 := by rw [hW1]; exact (Dn.refl _).alloc _
          have c2 : W1.cell? ⟨wr.heap.size, 0, none⟩ = some (.int .i8 x.a) := by rw [hW1]; simp [go_sem]
          have c3 : W1.cell? ⟨wr.heap.size, 1, none⟩ = some (.int .i64 x.b) := by rw [hW1]; simp [go_sem]
          have c4 : W1.cell? ⟨wr.heap.size, 2, none⟩ = some (.int .i8 x.c) := by rw [hW1]; simp [go_sem]
          have c5 : W1.cell? ⟨wr.heap.size, 3, none⟩ = some (.int .i64 x.d) := by rw [hW1]; simp [go_sem]
          have l6 : wr.heap.size < W1.heap.size := by rw [hW1]; simp <;> omega
          rw [← hW1]
          clear hW1
          have vW1 := hu.trans uW1
          clear uW1 hu
          refine (HL2.out _).mono ?_
          rintro e w1 ⟨rfl, qw1⟩
          have l7 := nlt l6 qw1.size
          obtain ⟨c8, c9, a4, a5⟩ := mv4 qw1.cell c2 c3 c4 c5
          clear l6 c2 c3 c4 c5
          have uw1 := vW1.trans qw1
          clear qw1 vW1
          go_wp2_with fail
          refine (HA.out _).mono ?_
          rintro e w2 ⟨rfl, qw2⟩
          replace qw2 := qw2.dn
          have a6 := nlt l7 qw2.size
          obtain ⟨a7, a8, a9, aA⟩ := mv4 qw2.cell c8 c9 a4 a5
          clear l7 c8 c9 a4 a5
          have uw2 := uw1.trans qw2
          clear qw2 uw1
          go_wp2_with fail
          go_roundw
          case rel => exact ⟨rfl, rfl, k + 1, acc + y, by omega, by simp, rfl, HZ.out, HAT.out, uw2⟩
          case measure => simp [intOf]; omega
        · rw [if_neg hz] at hat
          obtain ⟨rfl, rfl⟩ : n = 0 ∧ E = 15 := by rw [HN.out, HE.out, HCN.out, hat]; exact ⟨rfl, rfl⟩
          have HA := Lib.hid (fun W => add_over acc y W hacc hy hz)
          clear hat hy hacc hz
          go_wp2_with fail
          clear a0 a1 a2 a3
          obtain ⟨W1, hW1⟩ : ∃ W1, W1 = wr.alloc (.cells #[.int .i8 x.a, .int .i64 x.b, .int .i8 x.c, .int .i64 x.d] 30) := ⟨_, rfl⟩
          have uW1 : Dn wr W1 := by rw [hW1]; exact (Dn.refl _).alloc _
          have c2 : W1.cell? ⟨wr.heap.size, 0, none⟩ = some (.int .i8 x.a) := by rw [hW1]; simp [go_sem]
          have c3 : W1.cell? ⟨wr.heap.size, 1, none⟩ = some (.int .i64 x.b) := by rw [hW1]; simp [go_sem]
          have c4 : W1.cell? ⟨wr.heap.size, 2, none⟩ = some (.int .i8 x.c) := by rw [hW1]; simp [go_sem]
          have c5 : W1.cell? ⟨wr.heap.size, 3, none⟩ = some (.int .i64 x.d) := by rw [hW1]; simp [go_sem]
          have l6 : wr.heap.size < W1.heap.size := by rw [hW1]; simp <;> omega
          rw [← hW1]
          clear hW1
          have vW1 := hu.trans uW1
          clear uW1 hu
          refine (HL2.out _).mono ?_
          rintro e w1 ⟨rfl, qw1⟩
          have l7 := nlt l6 qw1.size
          obtain ⟨c8, c9, a4, a5⟩ := mv4 qw1.cell c2 c3 c4 c5
          clear l6 c2 c3 c4 c5
          have uw1 := vW1.trans qw1
          clear qw1 vW1
          go_wp2_with fail
          refine (HA.out _).mono ?_
          rintro e w2 ⟨rfl, qw2⟩
          replace qw2 := qw2.dn
          have a6 := nlt l7 qw2.size
          obtain ⟨a7, a8, a9, aA⟩ := mv4 qw2.cell c8 c9 a4 a5
          clear l7 c8 c9 a4 a5
          have uw2 := uw1.trans qw2
          clear qw2 uw1
          go_wp2_with fail
          go_ret2
          exact ⟨rfl, uw2⟩
      · rw [if_neg hy] at hat
        obtain ⟨rfl, rfl⟩ : n = 0 ∧ E = 15 := by rw [HN.out, HE.out, HCN.out, hat]; exact ⟨rfl, rfl⟩
        have HL2 := Lib.hid (fun W => HLN.out _ _ W (Or.inr ⟨hy, rfl, rfl⟩))
        clear hat hy hacc HLN
        go_wp2_with fail
        clear a0 a1 a2 a3
        obtain ⟨W1, hW1⟩ : ∃ W1, W1 = wr.alloc (.cells #[.int .i8 x.a, .int .i64 x.b, .int .i8 x.c, .int .i64 x.d] 30) := ⟨_, rfl⟩
        have uW1 : Dn wr W1 := by rw [hW1]; exact (Dn.refl _).alloc _
        have c2 : W1.cell? ⟨wr.heap.size, 0, none⟩ = some (.int .i8 x.a) := by rw [hW1]; simp [go_sem]
        have c3 : W1.cell? ⟨wr.heap.size, 1, none⟩ = some (.int .i64 x.b) := by rw [hW1]; simp [go_sem]
        have c4 : W1.cell? ⟨wr.heap.size, 2, none⟩ = some (.int .i8 x.c) := by rw [hW1]; simp [go_sem]
        have c5 : W1.cell? ⟨wr.heap.size, 3, none⟩ = some (.int .i64 x.d) := by rw [hW1]; simp [go_sem]
        have l6 : wr.heap.size < W1.heap.size := by rw [hW1]; simp <;> omega
        rw [← hW1]
        clear hW1
        have vW1 := hu.trans uW1
        clear uW1 hu
        refine (HL2.out _).mono ?_
        rintro e w1 ⟨rfl, qw1⟩
        have l7 := nlt l6 qw1.size
        obtain ⟨c8, c9, a4, a5⟩ := mv4 qw1.cell c2 c3 c4 c5
        clear l6 c2 c3 c4 c5
        have uw1 := vW1.trans qw1
        clear qw1 vW1
        go_wp2_with fail
        go_ret2
        exact ⟨rfl, uw1⟩
    · obtain rfl : k = L.length := by omega
      have d1 : decide ((L.length : Int) < L.length) = false := by simp
      obtain ⟨rfl, rfl⟩ : n = acc ∧ E = 0 := by rw [HN.out, HE.out, HCN.out]; simp [cntP]
      go_wp2_with fail
      go_ret2
      exact ⟨rfl, hu⟩
def joinC : List (List UInt8) → List UInt8
 | [] => []
 | [x] => x
 | x :: y :: t => x ++ 44 :: joinC (y :: t)
theorem joinC_len : ∀ (L : List (List UInt8)) (n : Nat), (∀ x ∈ L, x.length ≤ n) → (joinC L).length ≤ L.length * (n + 1)
 | [], n, _ => by simp [joinC]
 | [x], n, h => by have := h x List.mem_cons_self; simp [joinC]; omega
 | x :: y :: t, n, h => by
   have h1 := h x List.mem_cons_self
   have h2 := joinC_len (y :: t) n (fun z hz => h z (List.mem_cons_of_mem _ hz))
   unfold joinC
   simp only [List.length_append, List.length_cons] at *
   have : (t.length + 1 + 1) * (n + 1) = (t.length + 1) * (n + 1) + (n + 1) := by rw [Nat.add_mul (t.length + 1) 1]; omega
   omega
set_option maxHeartbeats 4000000
set_option maxRecDepth 100000
theorem rnBT (a b c d : Int) (s t : ByteArray) (HA : Hid (∀ W, EnvR W → Calls Tryz.prog 142 #[.agg #[.int .i8 a, .int .i64 b]] W fun o w' => o = .returned (.tuple #[.string s, .int .i64 0]) ∧ Dn W w')) (HB : Hid (∀ W, EnvR W → Calls Tryz.prog 142 #[.agg #[.int .i8 c, .int .i64 d]] W fun o w' => o = .returned (.tuple #[.string t, .int .i64 0]) ∧ Dn W w')) (w : World) (hE : EnvR w) :
  Calls Tryz.prog 141 #[.agg #[.int .i8 a, .int .i64 b], .agg #[.int .i8 c, .int .i64 d], .func (.func 142) #[] #[]] w fun ro w' => ro = .returned (.tuple #[.agg #[.string s, .string t], .int .i64 0]) ∧ Dn w w' := by
 go_enter Tryz.func141, Tryz.ntmps141
 go_wp2_with fail
 obtain ⟨W1, hW1⟩ : ∃ W1, W1 = ((w.alloc (.cells #[.int .i8 a, .int .i64 b] 28)).alloc (.cells #[.int .i8 c, .int .i64 d] 28)).alloc (.cells #[.string ⟨#[]⟩, .string ⟨#[]⟩] 173) := ⟨_, rfl⟩
 have uW1 : Dn w W1 := by rw [hW1]; exact (((Dn.refl _).alloc _).alloc _).alloc _
 have n2 : w.heap.size ≠ w.heap.size + 1 + 1 := by omega
 have n3 : w.heap.size + 1 ≠ w.heap.size + 1 + 1 := by omega
 have c4 : W1.cell? ⟨w.heap.size, 0, none⟩ = some (.int .i8 a) := by rw [hW1]; simp [go_sem]
 have c5 : W1.cell? ⟨w.heap.size, 1, none⟩ = some (.int .i64 b) := by rw [hW1]; simp [go_sem]
 have l6 : w.heap.size < W1.heap.size := by rw [hW1]; simp <;> omega
 have c7 : W1.cell? ⟨w.heap.size + 1, 0, none⟩ = some (.int .i8 c) := by rw [hW1]; simp [go_sem]
 have c8 : W1.cell? ⟨w.heap.size + 1, 1, none⟩ = some (.int .i64 d) := by rw [hW1]; simp [go_sem]
 have l9 : w.heap.size + 1 < W1.heap.size := by rw [hW1]; simp <;> omega
 have a2 : W1.cell? ⟨w.heap.size + 1 + 1, 0, none⟩ = some (.string ⟨#[]⟩) := by rw [hW1]; simp [go_sem]
 have a3 : W1.cell? ⟨w.heap.size + 1 + 1, 1, none⟩ = some (.string ⟨#[]⟩) := by rw [hW1]; simp [go_sem]
 have a0 : w.heap.size + 1 + 1 < W1.heap.size := by rw [hW1]; simp <;> omega
 have f13 : W1.frozen? ⟨w.heap.size + 1 + 1, 0, none⟩ = false := by rw [hW1]; simp [go_sem]
 have f14 : W1.frozen? ⟨w.heap.size + 1 + 1, 1, none⟩ = false := by rw [hW1]; simp [go_sem]
 rw [← hW1]
 clear hW1
 refine (HA.out _ (hE.dn uW1)).mono ?_
 rintro e w1 ⟨rfl, qw1⟩
 have a4 := nlt l6 qw1.size
 have a7 := nlt l9 qw1.size
 obtain ⟨a5, a6, a8, a9⟩ := mv4 qw1.cell c4 c5 c7 c8
 have f21 := (qw1.frozen (a := ⟨w.heap.size + 1 + 1, 0, none⟩) a0).trans f13
 have f22 := (qw1.frozen (a := ⟨w.heap.size + 1 + 1, 1, none⟩) a0).trans f14
 have a1 := nlt a0 qw1.size
 have aA := qw1.cell a2
 have aB := qw1.cell a3
 clear l6 c4 c5 l9 c7 c8 f13 f14 a0 a2 a3
 have uw1 := uW1.trans qw1
 clear qw1 uW1
 go_wp2_with fail
 refine (HB.out _ (hE.dn uw1)).mono ?_
 rintro e w2 ⟨rfl, qw2⟩
 have aI := nlt a4 qw2.size
 have aJ := nlt a7 qw2.size
 obtain ⟨aC, aD, aE, aF⟩ := mv4 qw2.cell a5 a6 a8 a9
 have f32 := (qw2.frozen (a := ⟨w.heap.size + 1 + 1, 0, none⟩) a1).trans f21
 have f33 := (qw2.frozen (a := ⟨w.heap.size + 1 + 1, 1, none⟩) a1).trans f22
 have aK := nlt a1 qw2.size
 have aG := qw2.cell aA
 have aH := qw2.cell aB
 clear a4 a5 a6 a7 a8 a9 f21 f22 a1 aA aB
 have uw2 := uw1.trans qw2
 clear qw2 uw1
 go_wp2_with fail
 exact bodyPost_ret (v := .tuple #[.agg #[.string s, .string t], .int .i64 0]) (by simp [results, Tryz.results141, go_sem, aC, aD, aE, aF, aG, aH, f32, f33] <;> omega) rfl ⟨rfl, ((uw2.setCell (by simp <;> omega) _).setCell (by simp <;> omega) _)⟩
theorem preUn99x1 (w : World) (a b c d : Int) : ∃ W1, W1 = w.alloc (.cells #[.int .i8 a, .int .i64 b, .int .i8 c, .int .i64 d] 30) ∧ (Dn w W1) ∧ (W1.cell? ⟨w.heap.size, 0, none⟩ = some (.int .i8 a)) ∧ (W1.cell? ⟨w.heap.size, 1, none⟩ = some (.int .i64 b)) ∧ (W1.cell? ⟨w.heap.size, 2, none⟩ = some (.int .i8 c)) ∧ (W1.cell? ⟨w.heap.size, 3, none⟩ = some (.int .i64 d)) ∧ (w.heap.size < W1.heap.size) := by
  obtain ⟨W1, hW1⟩ : ∃ W1, W1 = w.alloc (.cells #[.int .i8 a, .int .i64 b, .int .i8 c, .int .i64 d] 30) := ⟨_, rfl⟩
  exact ⟨W1, hW1, (by rw [hW1]; exact (Dn.refl _).alloc _), (by rw [hW1]; simp [go_sem]), (by rw [hW1]; simp [go_sem]), (by rw [hW1]; simp [go_sem]), (by rw [hW1]; simp [go_sem]), (by rw [hW1]; simp <;> omega)⟩
theorem rnTx_ok (a b c d : Int) (s t : ByteArray) (hs : s.size ≤ 1000) (ht : t.size ≤ 1000) (HC : Hid (ChkIs a b c d 0)) (HB : Hid (∀ W, EnvR W → Calls Tryz.prog 141 #[.agg #[.int .i8 a, .int .i64 b], .agg #[.int .i8 c, .int .i64 d], .func (.func 142) #[] #[]] W fun o w' => o = .returned (.tuple #[.agg #[.string s, .string t], .int .i64 0]) ∧ Dn W w')) (w : World) (hE : EnvR w) :
  Calls Tryz.prog 103 #[.agg #[.int .i8 a, .int .i64 b, .int .i8 c, .int .i64 d]] w fun ro w' => ro = .returned (.tuple #[.string (s ++ ⟨#[46, 46]⟩ ++ t), .int .i64 0]) ∧ Dn w w' := by
 have z1 : ¬ (9223372036854775807 < s.size + 2) := by omega
 have z2 : ¬ (9223372036854775807 < s.size + 2 + t.size) := by omega
 go_enter Tryz.func103, Tryz.ntmps103
 go_wp2_with fail
 obtain ⟨W1, hW1, uW1, c2, c3, c4, c5, l6⟩ := preUn99x1 w a b c d
 rw [← hW1]
 clear hW1
 refine (HC.out _).mono ?_
 rintro e w1 ⟨rfl, qw1⟩
 have l7 := nlt l6 qw1.size
 obtain ⟨c8, c9, a0, a1⟩ := mv4 qw1.cell c2 c3 c4 c5
 clear l6 c2 c3 c4 c5
 have uw1 := uW1.trans qw1
 clear qw1 uW1
 go_wp2_with fail
 refine (HB.out _ (hE.dn uw1)).mono ?_
 rintro e w2 ⟨rfl, qw2⟩
 have a2 := nlt l7 qw2.size
 obtain ⟨a3, a4, a5, a6⟩ := mv4 qw2.cell c8 c9 a0 a1
 clear l7 c8 c9 a0 a1
 have uw2 := uw1.trans qw2
 clear qw2 uw1
 go_wp2_with fail
 go_ret2
 exact ⟨rfl, uw2.alloc _⟩
def rStr (a b c d : Int) : ByteArray := eStr a b ++ ⟨#[46, 46]⟩ ++ eStr c d
theorem eStr_sz (i d : Int) (hd : I64 d) : (eStr i d).size ≤ 1000 := by
 unfold eStr
 split
 · exact size_itoa d hd
 · split <;> decide
theorem rnText (a b c d : Int) (w : World) (hb : I64 b) (hd : I64 d) (h : RnOk a b c d) (hE : EnvR w) :
  Calls Tryz.prog 103 #[.agg #[.int .i8 a, .int .i64 b, .int .i8 c, .int .i64 d]] w fun ro w' => ro = .returned (.tuple #[.string (rStr a b c d), .int .i64 0]) ∧ Dn w w' := by
 have HC : Hid (ChkIs a b c d (rnErr a b c d)) := Lib.hid (rnChk a b c d)
 rw [(rnErr_ok hb hd).2 h] at HC
 have HA : Hid (∀ W, EnvR W → Calls Tryz.prog 142 #[.agg #[.int .i8 a, .int .i64 b]] W fun o w' => o = .returned (.tuple #[.string (eStr a b), .int .i64 0]) ∧ Dn W w') := Lib.hid (fun W hW => (eText_ok a b W h.1 hb hW.i).mono fun _ _ ⟨h1, h2⟩ => ⟨h1, h2.dn⟩)
 have HB : Hid (∀ W, EnvR W → Calls Tryz.prog 142 #[.agg #[.int .i8 c, .int .i64 d]] W fun o w' => o = .returned (.tuple #[.string (eStr c d), .int .i64 0]) ∧ Dn W w') := Lib.hid (fun W hW => (eText_ok c d W h.2.1 hd hW.i).mono fun _ _ ⟨h1, h2⟩ => ⟨h1, h2.dn⟩)
 exact rnTx_ok a b c d _ _ (eStr_sz a b hb) (eStr_sz c d hd) HC (Lib.hid fun W hW => rnBT a b c d _ _ HA HB W hW) w hE
set_option maxHeartbeats 4000000
set_option maxRecDepth 100000
def tx (x : Rq) : List UInt8 := (rStr x.a x.b x.c x.d).data.toList
def jnT (l : List Rq) : ByteArray := ⟨(joinC (l.map tx)).toArray⟩
def noneS : ByteArray := ⟨#[110, 111, 110, 101]⟩
def txtL (L : List Rq) : ByteArray := if L = [] then noneS else jnT L
theorem joinTail_is : ∀ (x : List UInt8) (r : List (List UInt8)), [44].intercalate (x :: r) = joinC (x :: r)
 | x, [] => by simp [List.intercalate, joinC]
 | x, y :: t => by
   have ih := joinTail_is y t
   unfold joinC
   rw [← ih]
   simp [List.intercalate]
theorem join_is (L : List (List UInt8)) : Lib.join L [44] = joinC L := by
 cases L with
 | nil => rfl
 | cons x r => exact joinTail_is x r
theorem tx_len {x : Rq} (hb : I64 x.b) (hd : I64 x.d) : (tx x).length ≤ 2002 := by
 have h1 := eStr_sz x.a x.b hb
 have h2 := eStr_sz x.c x.d hd
 unfold tx rStr
 simp [ByteArray.data_append]; omega
theorem jnT_len {l : List Rq} (h : I6 l) : (joinC (l.map tx)).length ≤ l.length * 2003 := by
 have := joinC_len (l.map tx) 2002 (fun t ht => by
  obtain ⟨x, hx, rfl⟩ := List.mem_map.1 ht
  exact tx_len (h x hx).1 (h x hx).2)
 simpa using this
theorem jnT_size {l : List Rq} (h : I6 l) : (jnT l).size ≤ l.length * 2003 := by
 rw [Lib.size_eq]; exact jnT_len h
structure LtH (w : World) (B : Nat) : Prop where
 lt : B < w.heap.size
theorem LtH.dn {w w2 : World} {B : Nat} (h : LtH w B) (q : Dn w w2) : LtH w2 B := ⟨Nat.lt_of_lt_of_le h.lt q.size⟩
def rS (x : Rq) : ByteArray := rStr x.a x.b x.c x.d
structure TxRel (B : Nat) (L : List Rq) (k : Nat) (wr : World) (O : List ByteArray) : Prop where
 own : wr.ownsRow 0 9 1 (.slice (some ⟨B, 0, none⟩) L.length L.length) L.length (O.map Value.string)
 len : O.length = L.length
 at_ : ∀ j x, j < k → L[j]? = some x → O[j]? = some (rS x)
theorem TxRel.dn {B : Nat} {L : List Rq} {k : Nat} {wr w' : World} {O : List ByteArray} (h : TxRel B L k wr O) (q : Dn wr w') : TxRel B L k w' O :=
 ⟨h.own.kept (grown_dn q none) (Or.inr (by simp [Value.ownBlock])), h.len, h.at_⟩
theorem TxRel.cell {B : Nat} {L : List Rq} {k : Nat} {wr : World} {O : List ByteArray} (h : TxRel B L k wr O) {j : Nat} (hj : j < L.length) : ∃ v, wr.cell? ⟨B, j, none⟩ = some (.string v) ∧ wr.frozen? ⟨B, j, none⟩ = false := by
 have hl := h.len
 refine ⟨O[j], ?_, h.own.frozenAt j⟩
 rw [h.own.cellAt j (by omega), List.getElem?_map, List.getElem?_eq_getElem (by omega)]
 rfl
theorem TxRel.set {B : Nat} {L : List Rq} {k : Nat} {wr : World} {O : List ByteArray} (h : TxRel B L k wr O) {x : Rq} (hx : L[k]? = some x) : TxRel B L (k + 1) (wr.setCell ⟨B, k, none⟩ (.string (rS x))) (O.set k (rS x)) := by
 have hl := (List.getElem?_eq_some_iff.1 hx).1
 refine ⟨?_, by rw [List.length_set]; exact h.len, fun j y hj hy => ?_⟩
 · have := (h.own.stored k (.string (rS x))).1
   rwa [← List.map_set] at this
 · by_cases e : j = k
   · subst e
     rw [hx] at hy; cases hy
     rw [List.getElem?_set_self (by rw [h.len]; exact hl)]
   · rw [List.getElem?_set_ne (fun e' => e e'.symm)]
     exact h.at_ j y (by omega) hy
theorem TxRel.all {B : Nat} {L : List Rq} {wr : World} {O : List ByteArray} (h : TxRel B L L.length wr O) : O = L.map rS := by
 apply List.ext_getElem?
 intro j
 rw [List.getElem?_map]
 by_cases hj : j < L.length
 · rw [h.at_ j L[j] hj (by simp [hj])]; simp [hj]
 · rw [List.getElem?_eq_none (by rw [h.len]; omega), List.getElem?_eq_none (by omega)]; rfl
theorem TxRel.new (w : World) (L : List Rq) (hl : L.length ≤ 100) : TxRel w.heap.size L 0 (w.alloc (.cells (madeCells #[.string ⟨#[]⟩] L.length) 9)) (List.replicate L.length ⟨#[]⟩) := by
 refine ⟨?_, by simp, fun j x hj => by omega⟩
 have h := World.ownsRow_lit (base := 0) (e := 9) (size := 1) w (madeCells #[.string ⟨#[]⟩] L.length) L.length (Nat.zero_le _) (by unfold maxLen; omega) (by rw [size_madeCells]; omega)
 rw [toList_madeCells_one] at h
 simpa using h
theorem infoStr : (Tryz.prog.info? 9).map (fun i => (i.zero, i.size, i.bytes)) = some (some (.string ⟨#[]⟩), 1, 16) := by kernel_rfl
theorem run_mkS (N : Nat) (hN : N ≤ 1000000) (w : World) : (Instr.makeSlice 142 (.int .i64 (N : Int)) (.int .i64 (N : Int))).run Tryz.prog w = .ok (.slice (some ⟨w.heap.size, 0, none⟩) N N) (w.alloc (.cells (madeCells #[.string ⟨#[]⟩] N) 9)) := by
 obtain ⟨i0, hi, hz0, hz1, hz2⟩ := info_parts infoStr
 have h := run_make (P := Tryz.prog) w 142 9 i0 (.string ⟨#[]⟩) Tryz.underlying142 hi hz0 .i64 .i64 N N (by omega) (by omega) (by rw [hz2]; omega) (by omega)
 rw [hz1] at h
 simpa [Value.cells] using h
theorem join_rS (L : List Rq) : (⟨(Lib.join ((L.map rS).map (·.data.toList)) [44]).toArray⟩ : ByteArray) = jnT L := by
 rw [join_is, List.map_map]; rfl
theorem rsTextS (p : Option Addr) (cap : Nat) (L : List Rq) (T : ByteArray) (w : World) (hT : T = if chkL L = 0 then txtL L else ⟨#[]⟩) (hE : EnvR w) (hl : L.length ≤ 100) (hI : I6 L) (hR : Row w p L) :
   Calls Tryz.prog 46 #[.slice p L.length cap] w fun ro w' => ro = .returned (.tuple #[.string T, .int .i64 (chkL L)]) ∧ Dn w w' := by
 have HB := Lib.hid (fun W (h : Dn w W) => rsCheck p cap L W (by omega) hI (hR.dn h))
 by_cases hc : chkL L = 0
 rotate_left
 · have d0 : (chkL L != 0) = true := by simpa using hc
   obtain rfl : T = ⟨#[]⟩ := by rw [hT, if_neg hc]
   clear hT hc hR hI
   generalize chkL L = c at *
   go_enter Tryz.func46, Tryz.ntmps46
   go_wp2_with fail
   refine (HB.out _ (Dn.refl _)).mono ?_
   rintro e w1 ⟨rfl, qw1⟩
   have uw1 := qw1
   clear qw1
   go_wp2_with fail
   go_ret2
   exact ⟨rfl, uw1⟩
 obtain rfl : T = txtL L := by rw [hT, if_pos hc]
 have hok := Sep.all (chk_ok hI hc)
 rw [hc] at HB ⊢
 have HOK := Lib.hid hok
 have HI := Lib.hid hI
 clear hT hc hok hI
 by_cases h0 : L = []
 · subst h0
   go_enter Tryz.func46, Tryz.ntmps46
   go_wp2_with fail
   refine (HB.out _ (Dn.refl _)).mono ?_
   rintro e w1 ⟨rfl, qw1⟩
   have uw1 := qw1
   clear qw1
   go_wp2_with fail
   go_ret2
   exact ⟨rfl, uw1⟩
 have hn := Lib.hid (show txtL L = jnT L by unfold txtL; rw [if_neg h0])
 have h1 : 0 < L.length := List.length_pos_iff.2 h0
 have d2 : ((L.length : Int) == 0) = false := by simp; omega
 have d4 : decide ((L.length : Int) = 0) = false := by simp; omega
 have d5 : decide (L.length = 0) = false := by simp; omega
 have hmk := run_mkS L.length (by omega)
 rw [hn.out]
 clear h0 hn
 generalize hZC : madeCells #[.string ⟨#[]⟩] L.length = ZC at *
 have HZC := Lib.hid hZC
 clear hZC
 go_enter Tryz.func46, Tryz.ntmps46
 go_wp2_with fail
 refine (HB.out _ (Dn.refl _)).mono ?_
 rintro e w1 ⟨rfl, qw1⟩
 have uw1 := qw1
 clear qw1
 go_wp2_with fail
 obtain ⟨W1, hW1⟩ : ∃ W1, W1 = w1.alloc (.cells ZC 9) := ⟨_, rfl⟩
 have htx : TxRel w1.heap.size L 0 W1 (List.replicate L.length ⟨#[]⟩) := by rw [hW1, ← HZC.out]; exact TxRel.new _ L hl
 have u2 : Dn w W1 := by rw [hW1]; exact uw1.alloc _
 have hBB : w.heap.size ≤ w1.heap.size := uw1.size
 have hBL : w1.heap.size < W1.heap.size := by rw [hW1]; simp
 rw [← hW1]
 generalize w1.heap.size = B at *
 have HTX := Lib.hid htx
 have HBB := Lib.hid hBB
 have HBL := Lib.hid hBL
 clear hW1 htx hBB hBL HZC hmk uw1
 go_loopw [22] (fun iv wr => ∃ (k : Nat) (O : List ByteArray), k ≤ L.length ∧ iv = .int .i64 k ∧ TxRel B L k wr O ∧ B < wr.heap.size ∧ Dn w wr) (fun iv _ => L.length - (intOf iv).toNat)
 case atStart => exact ⟨0, _, by omega, rfl, HTX.out, HBL.out, u2⟩
 case round =>
   obtain ⟨k, O, hk, rfl, htr, hBr, hu⟩ := hrel
   clear HTX HBL
   by_cases hlt : k < L.length
   · have d1 : decide ((k : Int) < L.length) = true := by simp; omega
     obtain ⟨x, hx⟩ : ∃ x, L[k]? = some x := ⟨L[k], by simp [hlt]⟩
     obtain ⟨g, o, rfl, hc⟩ := hR.cs (by omega)
     obtain ⟨a0, a1, a2, a3⟩ := (hc.dn hu).el _ _ hx
     have hxi := HI.out x (List.mem_of_getElem? hx)
     have hxo := (HOK.out x (List.mem_of_getElem? hx)).2.2
     have HT := Lib.hid (fun W (h : Dn w W) => rnText x.a x.b x.c x.d W hxi.1 hxi.2 hxo (hE.dn h))
     have HX := Lib.hid hx
     have hlh : LtH wr B := ⟨hBr⟩
     clear hx hc hR hxi hxo hBr
     go_wp2_with fail
     clear a0 a1 a2 a3
     obtain ⟨W1, hW1⟩ : ∃ W1, W1 = wr.alloc (.cells #[.int .i8 x.a, .int .i64 x.b, .int .i8 x.c, .int .i64 x.d] 30) := ⟨_, rfl⟩
     have uW1 : Dn wr W1 := by rw [hW1]; exact (Dn.refl _).alloc _
     replace htr := htr.dn uW1
     replace hlh := hlh.dn uW1
     have c2 : W1.cell? ⟨wr.heap.size, 0, none⟩ = some (.int .i8 x.a) := by rw [hW1]; simp [go_sem]
     have c3 : W1.cell? ⟨wr.heap.size, 1, none⟩ = some (.int .i64 x.b) := by rw [hW1]; simp [go_sem]
     have c4 : W1.cell? ⟨wr.heap.size, 2, none⟩ = some (.int .i8 x.c) := by rw [hW1]; simp [go_sem]
     have c5 : W1.cell? ⟨wr.heap.size, 3, none⟩ = some (.int .i64 x.d) := by rw [hW1]; simp [go_sem]
     have l6 : wr.heap.size < W1.heap.size := by rw [hW1]; simp <;> omega
     rw [← hW1]
     clear hW1
     have vW1 := hu.trans uW1
     clear uW1 hu
     refine (HT.out _ vW1).mono ?_
     rintro e w1 ⟨rfl, qw1⟩
     replace htr := htr.dn qw1
     replace hlh := hlh.dn qw1
     have l7 := nlt l6 qw1.size
     obtain ⟨c8, c9, c10, c11⟩ := mv4 qw1.cell c2 c3 c4 c5
     clear l6 c2 c3 c4 c5
     have uw1 := vW1.trans qw1
     clear qw1 vW1
     obtain ⟨v0, hcell, hfz⟩ := htr.cell hlt
     have hBr2 := hlh.lt
     clear hlh
     have HTR := Lib.hid htr
     clear htr
     go_wp2_with fail
     go_roundw
     case rel => exact ⟨k + 1, _, by omega, by simp, HTR.out.set HX.out, by simpa using hBr2, uw1.setCell HBB.out _⟩
     case measure => simp [intOf]; omega
   · obtain rfl : k = L.length := by omega
     have d1 : decide ((L.length : Int) < L.length) = false := by simp
     obtain rfl := htr.all
     have HJ := Lib.hid (fun W (q : Dn wr W) => Tryz.strings_Join B 0 L.length (L.map rS) ⟨#[44]⟩ W (fun j x hx => by
      have hj : j < L.length := by have := (List.getElem?_eq_some_iff.1 hx).1; simpa using this
      rw [Nat.zero_add]
      exact q.cell (by rw [htr.own.cellAt j (by omega), List.getElem?_map, hx]; rfl)) (Nat.lt_of_lt_of_le hBr q.size) (by simp; omega) (by simp) (by
       have h1 := jnT_size HI.out
       rw [← join_rS, Lib.size_eq] at h1
       have h2 : (⟨#[44]⟩ : ByteArray).data.toList = [44] := rfl
       rw [h2]
       exact Nat.le_trans h1 (by omega)))
     simp only [List.length_map] at HJ
     have hjz : (jnT L).size ≤ 200300 := Nat.le_trans (jnT_size HI.out) (by omega)
     have hlim : decide (((jnT L).size : Int) > 1048576) = false := by simp; omega
     have hlim2 : decide (1048576 < (jnT L).size) = false := by simp; omega
     have HJE := Lib.hid (join_rS L)
     clear htr hBr hjz hR
     go_wp2_with fail
     refine (HJ.out _ (Dn.refl _)).mono ?_
     rintro e w5 ⟨rfl, hb5⟩
     have u5' : Dn w w5 := hu.trans ⟨hb5⟩
     rw [HJE.out]
     clear hb5
     go_wp2_with fail
     go_ret2
     exact ⟨rfl, u5'⟩
end Go.Proofs.YteodjglbpfmikaaGreatDoor
namespace Go.Proofs.YteodjglbpfmikaaGreatDoor
set_option maxHeartbeats 4000000
set_option maxRecDepth 100000
open Go.RowKit
set_option linter.unusedVariables false
set_option linter.unusedSimpArgs false
namespace Fl
theorem small_exact {n : Int} (h0 : 0 ≤ n) (h1 : n < 9007199254740992) : MG (fdn n) = n * U := by
 have h2 : mg (nr n.natAbs) = n.natAbs * un 1074 := nr_exact (k := 0) (Nat.lt_of_lt_of_le (show n.natAbs < 2 ^ 53 by omega) (un_le (by decide))) (by simp [Nat.mod_one]) (by simp; omega)
 have h3 : fns n = (nr n.natAbs : Int) := by unfold fns; rw [if_neg (by omega)]
 have h4 : MG (fns n) = n * U := by
  rw [h3]
  unfold MG
  rw [if_neg (by omega), show ((nr n.natAbs : Int)).natAbs = nr n.natAbs by omega, h2]
  show ((n.natAbs * un 1074 : Nat) : Int) = n * U
  rw [Int.natCast_mul, show ((n.natAbs : Nat) : Int) = n by omega]
  rfl
 have h5 : fdn n = fns n := by
  unfold fdn
  rw [h4, if_neg]
  unfold c3
  rw [if_neg (by omega), if_neg (by omega)]
  decide
 rw [h5, h4]
end Fl
open Fl
theorem tDown (w : World) : Calls Tryz.prog 9 #[.int .i64 730544] w fun ro w' => (∃ y, ro = .returned (.float .f64 y) ∧ rg y < top ∧ flo y = 730544) ∧ Dn w w' := by
 obtain ⟨y, ⟨h2, h3⟩, hw⟩ := f_down 730544 (by decide)
 refine (hw w).mono fun e w' h => ?_
 obtain ⟨h1, rfl⟩ := h
 refine ⟨⟨y, h1, h2, ?_⟩, Dn.refl _⟩
 have hv : val y = 730544 * U := by rw [val_sr, h3]; exact small_exact (by decide) (by decide)
 exact flo_eq (by omega) (by have := U_pos; rw [hv, Int.add_mul]; omega)
theorem tFloor {y : Nat} (h : rg y < top) (hf : flo y = 730544) (w : World) : Calls Tryz.prog 11 #[.float .f64 y] w fun ro w' => ro = .returned (.tuple #[.int .i64 730544, .int .i64 0]) ∧ Dn w w' := by
 refine (f_floor h w).mono fun e w' q => ?_
 obtain ⟨q1, rfl⟩ := q
 refine ⟨?_, Dn.refl _⟩
 rw [hf] at q1
 rcases q1 with q1 | q1
 · exact q1.2
 · exact absurd (by decide) q1.1
theorem tI6 (x : Rq) (h : I64 x.b ∧ I64 x.d) : I6 [x] := fun y hy => by obtain rfl := List.mem_singleton.1 hy; exact h
theorem tCmn : cmn [⟨0, 730485, 0, 730850⟩] [⟨0, 730545, 0, 730636⟩] = [⟨0, 730545, 0, 730636⟩] := by
 unfold cmn
 rw [if_pos (by decide +kernel), if_neg (by decide +kernel)]
 unfold cmn
 decide +kernel
theorem tCommon (W : World) (p q : Option Addr) (r1 : Row W p [⟨0, 730485, 0, 730850⟩]) (r2 : Row W q [⟨0, 730545, 0, 730636⟩]) : Calls Tryz.prog 43 #[.slice p 1 1, .slice q 1 1] W fun ro w' => ∃ p', ro = .returned (.tuple #[.slice p' 1 1, .int .i64 0]) ∧ Row w' p' [⟨0, 730545, 0, 730636⟩] ∧ Dn W w' :=
 rsCommonS p 1 [⟨0, 730485, 0, 730850⟩] q 1 [⟨0, 730545, 0, 730636⟩] 0 [⟨0, 730545, 0, 730636⟩] W (by rw [tCmn]; decide +kernel) (by rw [tCmn]; decide +kernel) (by decide) (by decide) (by decide) (by decide) (by decide) (tI6 _ (by decide)) r1 (by decide) (tI6 _ (by decide)) r2
theorem tCount (W : World) (p : Option Addr) (r : Row W p [⟨0, 730545, 0, 730636⟩]) : Calls Tryz.prog 44 #[.slice p 1 1] W fun ro w' => ro = .returned (.tuple #[.int .i64 92, .int .i64 0]) ∧ Dn W w' :=
 rsCount p 1 [⟨0, 730545, 0, 730636⟩] 92 0 W (by decide +kernel) (by decide +kernel) (by decide) (tI6 _ (by decide)) r
theorem tText (W : World) (p : Option Addr) (r : Row W p [⟨0, 730545, 0, 730636⟩]) (hE : EnvP W) : Calls Tryz.prog 46 #[.slice p 1 1] W fun ro w' => ro = .returned (.tuple #[.string ⟨#[55, 51, 48, 53, 52, 53, 46, 46, 55, 51, 48, 54, 51, 54]⟩, .int .i64 0]) ∧ Dn W w' := by
 have h := rsTextS p 1 [⟨0, 730545, 0, 730636⟩] ⟨#[55, 51, 48, 53, 52, 53, 46, 46, 55, 51, 48, 54, 51, 54]⟩ W (by decide +kernel) hE.r (by decide) (tI6 _ (by decide)) r
 rw [show chkL [⟨0, 730545, 0, 730636⟩] = 0 by decide +kernel] at h
 exact h
theorem rq_new (w : World) (L : List Rq) (arr : Array Value) (h : arr = (L.flatMap qc).toArray) : Row (w.alloc (.cells arr 30)) (some ⟨w.heap.size, 0, none⟩) L := by
 refine ⟨.inr ⟨_, _, rfl, by simp, fun k x hx => ?_⟩⟩
 subst h
 have g := fun j hj => qc_get L k j x hx hj
 have g0 := g 0 (by decide); have g1 := g 1 (by decide); have g2 := g 2 (by decide); have g3 := g 3 (by decide)
 simp only [qc, Nat.add_zero] at g0 g1 g2 g3
 refine ⟨?_, ?_, ?_, ?_⟩
 · simp [go_sem]; exact g0
 · simp [go_sem]; exact g1
 · simp [go_sem]; exact g2
 · simp [go_sem]; exact g3
theorem preUn101x1 (w2 : World) : ∃ W1, W1 = w2.alloc (.cells #[.int .i8 0, .int .i64 730545, .int .i8 0, .int .i64 730636] 30) ∧ (Dn w2 W1) ∧ (W1.cell? ⟨w2.heap.size, 0, none⟩ = some (.int .i8 0)) ∧ (W1.cell? ⟨w2.heap.size, 1, none⟩ = some (.int .i64 730545)) ∧ (W1.cell? ⟨w2.heap.size, 2, none⟩ = some (.int .i8 0)) ∧ (W1.cell? ⟨w2.heap.size, 3, none⟩ = some (.int .i64 730636)) ∧ (w2.heap.size < W1.heap.size) := by
  obtain ⟨W1, hW1⟩ : ∃ W1, W1 = w2.alloc (.cells #[.int .i8 0, .int .i64 730545, .int .i8 0, .int .i64 730636] 30) := ⟨_, rfl⟩
  exact ⟨W1, hW1, (by rw [hW1]; exact (Dn.refl _).alloc _), (by rw [hW1]; simp [go_sem]), (by rw [hW1]; simp [go_sem]), (by rw [hW1]; simp [go_sem]), (by rw [hW1]; simp [go_sem]), (by rw [hW1]; simp <;> omega)⟩
theorem live11 (w : World) (hE : EnvP w) :
  Calls Tryz.prog 8 #[] w fun ro w' => ro = .returned (.bool true) ∧ Dn w w' := by
 go_enter Tryz.func8, Tryz.ntmps8
 go_wp2_with fail
 refine (tDay _ hE).mono ?_
 rintro e w1 ⟨rfl, qw1⟩
 have uw1 := qw1
 clear qw1
 go_wp2_with fail
 refine (tSeason _ (hE.dn uw1)).mono ?_
 rintro e w2 ⟨rfl, qw2⟩
 have uw2 := uw1.trans qw2
 clear qw2 uw1
 go_wp2_with fail
 obtain ⟨W1, hW1, uW1, c2, c3, c4, c5, l6⟩ := preUn101x1 w2 
 rw [← hW1]
 clear hW1
 have vW1 := uw2.trans uW1
 clear uW1 uw2
 go_wp2_with fail
 refine (tYear 2000 730485 730850 _ (by decide +kernel) (by decide +kernel) (by decide) (hE.dn vW1)).mono ?_
 rintro e w3 ⟨rfl, qw3⟩
 have l7 := nlt l6 qw3.size
 obtain ⟨c8, c9, a0, a1⟩ := mv4 qw3.cell c2 c3 c4 c5
 clear l6 c2 c3 c4 c5
 have uw3 := vW1.trans qw3
 clear qw3 vW1
 go_wp2_with fail
 obtain ⟨W12, hW12⟩ : ∃ W12, W12 = ((w3.alloc (.cells #[.int .i8 0, .int .i64 730485, .int .i8 0, .int .i64 730850] 30)).alloc (.cells #[.int .i8 0, .int .i64 730485, .int .i8 0, .int .i64 730850] 30)).alloc (.cells #[.int .i8 0, .int .i64 730545, .int .i8 0, .int .i64 730636] 30) := ⟨_, rfl⟩
 have uW12 : Dn w3 W12 := by rw [hW12]; exact (((Dn.refl _).alloc _).alloc _).alloc _
 have a2 := nlt l7 uW12.size
 obtain ⟨a3, a4, a5, a6⟩ := mv4 uW12.cell c8 c9 a0 a1
 clear l7 c8 c9 a0 a1
 have a7 : W12.cell? ⟨w3.heap.size, 0, none⟩ = some (.int .i8 0) := by rw [hW12]; simp [go_sem]
 have a8 : W12.cell? ⟨w3.heap.size, 1, none⟩ = some (.int .i64 730485) := by rw [hW12]; simp [go_sem]
 have a9 : W12.cell? ⟨w3.heap.size, 2, none⟩ = some (.int .i8 0) := by rw [hW12]; simp [go_sem]
 have aA : W12.cell? ⟨w3.heap.size, 3, none⟩ = some (.int .i64 730850) := by rw [hW12]; simp [go_sem]
 have aB : w3.heap.size < W12.heap.size := by rw [hW12]; simp <;> omega
 have r1 : Row W12 (some ⟨w3.heap.size + 1, 0, none⟩) [⟨0, 730485, 0, 730850⟩] := by
  rw [hW12]
  have h := (rq_new ((w3.alloc (.cells #[.int .i8 0, .int .i64 730485, .int .i8 0, .int .i64 730850] 30))) [⟨0, 730485, 0, 730850⟩] #[.int .i8 0, .int .i64 730485, .int .i8 0, .int .i64 730850] rfl).dn ((Dn.refl _).alloc (.cells #[.int .i8 0, .int .i64 730545, .int .i8 0, .int .i64 730636] 30))
  simpa using h
 have r2 : Row W12 (some ⟨w3.heap.size + 1 + 1, 0, none⟩) [⟨0, 730545, 0, 730636⟩] := by
  rw [hW12]
  have h := (rq_new (((w3.alloc (.cells #[.int .i8 0, .int .i64 730485, .int .i8 0, .int .i64 730850] 30)).alloc (.cells #[.int .i8 0, .int .i64 730485, .int .i8 0, .int .i64 730850] 30))) [⟨0, 730545, 0, 730636⟩] #[.int .i8 0, .int .i64 730545, .int .i8 0, .int .i64 730636] rfl).dn (Dn.refl _)
  simpa using h
 rw [← hW12]
 clear hW12
 have vW12 := uw3.trans uW12
 clear uW12 uw3
 go_wp2_with fail
 refine (tCommon _ _ _ r1 r2).mono ?_
 rintro e w4 ⟨p3, rfl, r3, qw4⟩
 replace r1 := r1.dn qw4
 replace r2 := r2.dn qw4
 have aC := nlt a2 qw4.size
 have aH := nlt aB qw4.size
 obtain ⟨aD, aE, aF, aG, aI, aJ, aK, aL⟩ := mv8 qw4.cell a3 a4 a5 a6 a7 a8 a9 aA
 clear a2 a3 a4 a5 a6 aB a7 a8 a9 aA
 have uw4 := vW12.trans qw4
 clear qw4 vW12
 clear r1 r2
 clear aD aE aF aG aC
 clear aI aJ aK aL aH
 go_wp2_with fail
 refine (tCount _ _ r3).mono ?_
 rintro e w5 ⟨rfl, qw5⟩
 replace r3 := r3.dn qw5
 have uw5 := uw4.trans qw5
 clear qw5 uw4
 go_wp2_with fail
 refine (mNext _).mono ?_
 rintro e w6 ⟨rfl, qw6⟩
 replace r3 := r3.dn qw6
 have uw6 := uw5.trans qw6
 clear qw6 uw5
 go_wp2_with fail
 refine (tText _ _ r3 (hE.dn uw6)).mono ?_
 rintro e w7 ⟨rfl, qw7⟩
 replace r3 := r3.dn qw7
 have uw7 := uw6.trans qw7
 clear qw7 uw6
 clear r3
 go_wp2_with fail
 refine (tDown _).mono ?_
 rintro e w8 ⟨⟨y, rfl, hy, hf⟩, qw8⟩
 have uw8 := uw7.trans qw8
 clear qw8 uw7
 go_wp2_with fail
 refine (tFloor hy hf _).mono ?_
 rintro e w9 ⟨rfl, qw9⟩
 have uw9 := uw8.trans qw9
 clear qw9 uw8
 go_wp2_with fail
 go_ret
 exact ⟨rfl, uw9⟩
end Go.Proofs.YteodjglbpfmikaaGreatDoor
namespace Go.Proofs.YteodjglbpfmikaaGreatDoor
open Go.ChangeShapes Go.WideShapes Go.ChangeAt Go.RowKit
theorem gTab : Tryz.prog.globalNamed "internal/strconv.uint64pow10" = some 4 := by kernel_rfl
theorem tTab : (Tryz.prog.globals[4]?).map (·.type) = some 253 := by kernel_rfl
theorem cU64 : Tryz.prog.cellsOf 146 = 1 := by kernel_rfl
theorem cTab : Tryz.prog.cellsOf 253 = 20 := by kernel_rfl
theorem handed_shaped {H : Type} {enc : TypeId × Value → H} {a : Assume} {C : Checked} {os : Os} {f : FuncId} {fn : Func} {s : ChangeSpec} {conds : List PathCond} {apart fresh handsOn again : Bool} {X : World → Array Value → Prop}
  (hX : ∀ (w w' : World) (args : Array Value), w.heap = w'.heap → X w args → X w' args)
  (own : ownKnob C.prog.godebug = none) (started : os.Started) (noInit : C.prog.inits.idxOf? f = none) (hfn : C.prog.funcs[f]? = some fn)
  (witness : ∃ (w : World) (tape : Tape) (i : Input), w.os = os ∧ (w.forCall tape i).Shaped C.prog ∧ i.vars = [] ∧ Input.okWide C.prog (w.forCall tape i) .any w.heap.size f i ∧
   ((s.pre enc C.prog fn conds apart (w.forCall tape i).memory i.args ∧ X (w.forCall tape i).memory i.args) ∧ sizedMet enc C.prog fn (OpenSpec.ofChange s) apart (w.forCall tape i).memory i.args) ∧ a.holds C.prog (lone (Frame.enter C.prog f i.args .normal) [] (w.forCall tape i)))
  (contract : ∀ (W : World) (base : Nat) (args : Array Value) (ds gs : List (DataW H)) (before : List MemPlace), W.ShapedOpen C.prog →
   (∀ (j : Nat) t v, fn.params[j]? = some t → args[j]? = some v → Value.okWide C.prog W .any base t v) →
   DataW.Whole enc C.prog fn.params.toList s.vars apart W args.toList ds gs before →
   conds.all (PathCond.test C.prog ⟨fn.params.toList, ds, s.plain.varTypes C.prog, gs⟩) = true →
   (DataW.weightsEach C.prog (fn.params.toList ++ s.plain.varTypes C.prog) (ds ++ gs)).all (· ≤ reachBytes) = true → X W args →
   a.holds C.prog (lone (Frame.enter C.prog f args .normal) [] W) →
   Calls C.prog f args W fun e W' => ∃ v, e = .returned v ∧ s.post enc C.prog fn apart fresh handsOn again W args v W') :
  ReturnsInHanded a C os f .any (fun w args => (s.pre enc C.prog fn conds apart w args ∧ X w args) ∧ sizedMet enc C.prog fn (OpenSpec.ofChange s) apart w args) (s.post enc C.prog fn apart fresh handsOn again) := by
 refine returnsInHanded_of_calls own started noInit witness fun w tape i _ hsh _ hok hpre hholds => ?_
 obtain ⟨_, _, _, fn', hfn', _, _, _, _, hval⟩ := hok
 obtain rfl : fn' = fn := Option.some.inj (hfn'.symm.trans hfn)
 obtain ⟨⟨⟨ds, gs, before, hw, hc⟩, hx⟩, hz⟩ := hpre
 refine (contract _ w.heap.size i.args ds gs before hsh hval (DataW.Whole.of_heap (w' := w.forCall tape i) (by rfl) hw) hc (hz.weights hw) (hX _ _ _ (by rfl) hx) hholds).mono fun e W' ⟨v, he, hp⟩ => ?_
 subst he
 exact ChangeSpec.post_blind hp
theorem gSteps : Tryz.prog.globalNamed "circa/years.steps" = some 3 := by kernel_rfl
theorem tSteps : (Tryz.prog.globals[3]?).map (·.type) = some 191 := by kernel_rfl
theorem cStep : Tryz.prog.cellsOf 192 = 2 := by kernel_rfl
theorem cInt64 : Tryz.prog.cellsOf 2 = 1 := by kernel_rfl
theorem two_cells {P : Program} {W : World} {t e : TypeId} {sp : Nat → Bool} {m : Nat} {n0 n1 : Int} {cs : List Value} {pl : List MemPlace}
   {f0 f1 : Field} (ht : P.underlying t = some (.struct #[f0, f1])) (h0 : f0.type = e) (h1 : f1.type = e) (ho0 : f0.offset = 0) (ho1 : f1.offset = 1) (he : P.underlying e = some (.int .i64)) (hce : P.cellsOf e = 1) (hct : P.cellsOf t = 2)
   (h : DataW.trod (fun _ => ()) P W 0 sp false m t cs = some (.agg [.lit (.int .i64 n0), .lit (.int .i64 n1)], pl)) : cs = [.int .i64 n0, .int .i64 n1] := by
 obtain ⟨y0, y1, n, hx, hl, hr0, hr1⟩ := trod_struct2 ht h
 rw [h0, ho0, hce] at hr0
 rw [h1, ho1, hce] at hr1
 obtain ⟨a, ha, ey0, _⟩ := DataW.trod_int he hr0
 obtain ⟨b, hb, ey1, _⟩ := DataW.trod_int he hr1
 subst ey0 ey1
 simp only [Prod.mk.injEq, DataW.agg.injEq, List.cons.injEq, DataW.lit.injEq, Lit.int.injEq, true_and, and_true] at hx
 obtain ⟨⟨rfl, rfl⟩, _⟩ := hx
 rw [hct] at hl
 match cs, hl with
 | [x, y], _ =>
   simp at ha hb
   rw [ha, hb]
theorem mapM_two {α : Type} {f : Nat → Option α} {x y : α} (h : (List.range 2).mapM f = some [x, y]) : f 0 = some x ∧ f 1 = some y := by
 have e : List.range 2 = [0, 1] := rfl
 rw [e] at h
 simp only [List.mapM_cons, List.mapM_nil, Option.bind_eq_bind, Option.bind_eq_some_iff, Option.pure_def, Option.some.injEq, List.cons.injEq] at h
 obtain ⟨a, ha, _, ⟨b, hb, _, rfl, rfl⟩, rfl, h3⟩ := h
 simp only [List.cons.injEq, and_true] at h3
 subst h3
 exact ⟨ha, hb⟩
theorem steps_of_vars {W : World} {rest : List (String × DataW Unit)} {ps : List MemPlace} (h : DataW.LaidVars Tryz.prog W (("circa/years.steps", Rows.laid_circa_years_steps) :: rest) ps) : Steps W := by
 obtain ⟨g, t, cs, fuel, p, q, hg, ht, hv, hd, _, _⟩ := h
 obtain rfl := Option.some.inj (gSteps.symm.trans hg)
 obtain rfl := Option.some.inj (tSteps.symm.trans ht)
 rcases Deep.open_slice Tryz.underlying191 hd with ⟨_, hx⟩ | ⟨a, len, cap, m, n, D, Pl, hcs, _, hlc, hcap, hm, hx, hel⟩
 · simp [Rows.laid_circa_years_steps] at hx
 · simp only [Rows.laid_circa_years_steps, Prod.mk.injEq, DataW.slice.injEq] at hx
   obtain ⟨⟨hx1, hx2⟩, _⟩ := hx
   have hlen : len = 3 := by have := congrArg List.length hx1; simpa using this.symm
   subst hlen
   have hmm : m = cap := by simpa using hm
   have hrange : List.range 3 = [0, 1, 2] := rfl
   rw [hrange] at hx1
   simp only [List.map_cons, List.map_nil, List.cons.injEq, and_true] at hx1
   obtain ⟨d0, d1, d2⟩ := hx1
   have cell : ∀ i n0 n1, i < m → D i = .agg [.lit (.int .i64 n0), .lit (.int .i64 n1)] → W.cell? (a.add (i * 2)) = some (.int .i64 n0) ∧ W.cell? ((a.add (i * 2)).add 1) = some (.int .i64 n1) := by
     intro i n0 n1 hi hD
     obtain ⟨cs', hc, ht'⟩ := hel i hi
     rw [cStep] at hc
     rw [hD] at ht'
     have e := two_cells Tryz.underlying192 rfl rfl rfl rfl Tryz.underlying2 cInt64 cStep ht'
     subst e
     simp only [World.cells?, Nat.zero_le, if_true] at hc
     have := mapM_two hc
     simpa [Addr.add] using this
   obtain ⟨c0, c1⟩ := cell 0 4 1 (by omega) d0.symm
   obtain ⟨c2, c3⟩ := cell 1 100 (-1) (by omega) d1.symm
   obtain ⟨c4, c5⟩ := cell 2 400 1 (by omega) d2.symm
   have hg0 := World.var?_cell gSteps hv 0
   have hsp : a.spot = none := by
     have e : a.add (0 * 2) = a := by simp [Addr.add]
     rw [e] at c0
     simp only [World.cell?] at c0
     split at c0
     · split at c0
       · cases c0
       · rename_i h; simpa using h
     · cases c0
   obtain ⟨b, off, s⟩ := a
   simp only at hsp
   subst hsp
   refine ⟨b, off, cap, ?_, ?_, ?_, ?_, ?_, ?_, ?_⟩
   · rw [hg0]
     have := congrArg (·[0]?) hcs
     simpa using this
   · simpa [Addr.add] using c0
   · simpa [Addr.add] using c1
   · simpa [Addr.add] using c2
   · simpa [Addr.add] using c3
   · simpa [Addr.add] using c4
   · simpa [Addr.add] using c5
theorem gLens : Tryz.prog.globalNamed "circa/months.lengths" = some 1 := by kernel_rfl
theorem tLens : (Tryz.prog.globals[1]?).map (·.type) = some 153 := by kernel_rfl
theorem cInt : Tryz.prog.cellsOf 3 = 1 := by kernel_rfl
theorem cLens : Tryz.prog.cellsOf 153 = 12 := by kernel_rfl
theorem lens_of_vars {W : World} {rest : List (String × DataW Unit)} {ps : List MemPlace} (h : DataW.LaidVars Tryz.prog W (("circa/months.lengths", Rows.laid_circa_months_lengths) :: rest) ps) :
  ∀ i : Nat, i < 12 → W.cell? ⟨1, i, none⟩ = some (.int .i64 (lensL.getD i 0)) := by
 obtain ⟨g, t, cs, fuel, p, q, hg, ht, hv, hd, _, _⟩ := h
 obtain rfl := Option.some.inj (gLens.symm.trans hg)
 obtain rfl := Option.some.inj (tLens.symm.trans ht)
 have hd' : DataW.trod (fun _ => ()) Tryz.prog W 0 (fun _ => true) false fuel 153 cs.toList = some (Lib.tabData .i64 lensL, p) := hd
 have e := Lib.cells_of_tab Tryz.underlying153 Tryz.underlying3 cInt cLens hd'
 intro i hi
 have hl : lensL.length = 12 := rfl
 rw [World.var?_cell gLens hv i, ← Array.getElem?_toList, e]
 simp [List.getD, hl, hi]
theorem gSpans : Tryz.prog.globalNamed "circa/seasons.spans" = some 2 := by kernel_rfl
theorem tSpans : (Tryz.prog.globals[2]?).map (·.type) = some 127 := by kernel_rfl
theorem cSpan : Tryz.prog.cellsOf 126 = 2 := by kernel_rfl
theorem pair_cells {P : Program} {W : World} {t s e : TypeId} {sp : Nat → Bool} {fuel n : Nat} {L : List (Int × Int)} {cs : List Value} {pl : List MemPlace}
  {f0 f1 : Field} (ht : P.underlying t = some (.array n s)) (hs : P.underlying s = some (.struct #[f0, f1])) (h0 : f0.type = e) (h1 : f1.type = e) (ho0 : f0.offset = 0) (ho1 : f1.offset = 1) (he : P.underlying e = some (.int .i64)) (hce : P.cellsOf e = 1) (hcs : P.cellsOf s = 2)
  (h : DataW.trod (fun _ => ()) P W 0 sp false fuel t cs = some (.agg (L.map fun x => .agg [.lit (.int .i64 x.1), .lit (.int .i64 x.2)]), pl)) :
  ∀ (j : Nat) (x : Int × Int), L[j]? = some x → cs[j * 2]? = some (.int .i64 x.1) ∧ cs[j * 2 + 1]? = some (.int .i64 x.2) := by
 intro j x hx
 obtain ⟨xs, m, _, hxs, _, hl, hel⟩ := DataW.trod_array ht h
 simp only [Prod.mk.injEq, DataW.agg.injEq] at hxs
 obtain ⟨hm, _⟩ := hxs
 have hj : j < n := by
  have h1 := congrArg List.length hm
  simp at h1
  have := (List.getElem?_eq_some_iff.1 hx).1
  omega
 have hq := hel j hj
 rw [hcs] at hq
 obtain ⟨y, hy⟩ : ∃ y, xs[j]? = some y := ⟨xs[j]'(by omega), by simp [hl, hj]⟩
 rw [hy] at hq
 have hy1 : y.1 = .agg [.lit (.int .i64 x.1), .lit (.int .i64 x.2)] := by
  have h2 := congrArg (·[j]?) hm
  simp [hy, hx] at h2
  exact h2.symm
 obtain ⟨y1, y2⟩ := y
 simp only at hy1
 subst hy1
 have e := two_cells hs h0 h1 ho0 ho1 he hce hcs hq
 have e0 := congrArg (·[0]?) e
 have e1 := congrArg (·[1]?) e
 simp at e0 e1
 exact ⟨e0, e1⟩
theorem spans_of_vars {W : World} {rest : List (String × DataW Unit)} {ps : List MemPlace} (h : DataW.LaidVars Tryz.prog W (("circa/seasons.spans", Rows.laid_circa_seasons_spans) :: rest) ps) :
   ∀ i : Nat, i < 42 → W.cell? ⟨2, i, none⟩ = some (.int .i64 (spansL.getD i 0)) := by
 obtain ⟨g, t, cs, fuel, p, q, hg, ht, hv, hd, _, _⟩ := h
 obtain rfl := Option.some.inj (gSpans.symm.trans hg)
 obtain rfl := Option.some.inj (tSpans.symm.trans ht)
 have hd' : DataW.trod (fun _ => ()) Tryz.prog W 0 (fun _ => true) false fuel 127 cs.toList = some (.agg (((List.range 21).map fun j => (spansL.getD (j * 2) 0, spansL.getD (j * 2 + 1) 0)).map fun x => .agg [.lit (.int .i64 x.1), .lit (.int .i64 x.2)]), p) := hd
 have e := pair_cells Tryz.underlying127 Tryz.underlying126 rfl rfl rfl rfl Tryz.underlying3 cInt cSpan hd'
 intro i hi
 rw [World.var?_cell gSpans hv i, ← Array.getElem?_toList]
 have h2 := e (i / 2) (spansL.getD (i / 2 * 2) 0, spansL.getD (i / 2 * 2 + 1) 0) (by simp [show i / 2 < 21 by omega])
 rcases Nat.mod_two_eq_zero_or_one i with hz | hz
 · have := h2.1
   rwa [show i / 2 * 2 = i by omega] at this
 · have := h2.2
   rwa [show i / 2 * 2 + 1 = i by omega] at this
theorem envP_of_laid {W : World} {rest : List (String × DataW Unit)} (hp : (("math/bits.deBruijn32tab", Rows.laid_math_bits_deBruijn32tab) :: ("math/bits.deBruijn64tab", Rows.laid_math_bits_deBruijn64tab) :: ("internal/strconv.uint64pow10", Rows.laid_internal_strconv_uint64pow10) :: ("circa/years.steps", Rows.laid_circa_years_steps) :: ("circa/months.lengths", Rows.laid_circa_months_lengths) :: ("circa/seasons.spans", Rows.laid_circa_seasons_spans) :: rest : List (String × DataW Unit)).all (fun x => x.2.handleName?.isNone) = true)
  (h : laidMetH Tryz.prog (("math/bits.deBruijn32tab", Rows.laid_math_bits_deBruijn32tab) :: ("math/bits.deBruijn64tab", Rows.laid_math_bits_deBruijn64tab) :: ("internal/strconv.uint64pow10", Rows.laid_internal_strconv_uint64pow10) :: ("circa/years.steps", Rows.laid_circa_years_steps) :: ("circa/months.lengths", Rows.laid_circa_months_lengths) :: ("circa/seasons.spans", Rows.laid_circa_seasons_spans) :: rest) W) (hs : W.ShapedOpen Tryz.prog) : EnvP W := by
 rw [MakeChecks.laidMetH_plain _ _ _ hp] at h
 obtain ⟨ps, hl, _⟩ := h
 obtain ⟨g, t, cs, fuel, p, q, _, _, _, _, h2, _⟩ := hl
 obtain ⟨g, t, cs, fuel, p, q, _, _, _, _, h3, _⟩ := h2
 obtain ⟨g, t, cs, fuel, p, q, hg, ht, hv, hd, h4, _⟩ := h3
 obtain rfl := Option.some.inj (gTab.symm.trans hg)
 obtain rfl := Option.some.inj (tTab.symm.trans ht)
 have hst := steps_of_vars h4
 obtain ⟨g4, t4, c4, f4, p4, q4, _, _, _, _, h5, _⟩ := h4
 have hln := lens_of_vars h5
 obtain ⟨g5, t5, c5, f5, p5, q5, _, _, _, _, h6, _⟩ := h5
 have hsp := spans_of_vars h6
 refine ⟨⟨?_⟩, ⟨⟨hst, hln⟩, hsp⟩, cell_of_shapedOpen_int (t := 3) (zero := #[.int .i64 0]) hs (by decide +kernel) (by kernel_rfl) rfl (by kernel_rfl) (by kernel_rfl) Tryz.underlying3⟩
 have hd' : DataW.trod (fun _ => ()) Tryz.prog W 0 (fun _ => true) false fuel 253 cs.toList = some (Lib.tabData .u64 Lib.pow10Tab, p) := hd
 have e := Lib.cells_of_tab Tryz.underlying253 Tryz.underlying146 cU64 cTab hd'
 unfold Lib.TabIs
 rw [hv, ← e]
set_option maxHeartbeats 4000000
set_option maxRecDepth 100000
open Go.RowKit
set_option linter.unusedVariables false
set_option linter.unusedSimpArgs false
theorem neqR (x y : Rq) (w : World) : (binOp .neq 30 (.agg #[.int .i8 x.a, .int .i64 x.b, .int .i8 x.c, .int .i64 x.d]) (.agg #[.int .i8 y.a, .int .i64 y.b, .int .i8 y.c, .int .i64 y.d])).run Tryz.prog w = .ok (.bool (decide (x ≠ y))) w := by
 have e : x = y ↔ x.a = y.a ∧ x.b = y.b ∧ x.c = y.c ∧ x.d = y.d := by
  cases x; cases y; simp
 by_cases h1 : x.a = y.a <;> by_cases h2 : x.b = y.b <;> by_cases h3 : x.c = y.c <;> by_cases h4 : x.d = y.d <;>
  simp [go_sem, e, h1, h2, h3, h4]
theorem pre_eq {a b : List Rq} (hl : a.length = b.length) (h : ∀ i x y, a[i]? = some x → b[i]? = some y → i < a.length → x = y) : a = b := by
 apply List.ext_getElem hl
 intro i h1 h2
 exact h i _ _ (by simp [h1]) (by simp [h2]) h1
theorem slEqual (p : Option Addr) (cap : Nat) (a : List Rq) (q : Option Addr) (cap' : Nat) (b : List Rq) (m : Bool) (w : World) (hm : m = decide (a = b)) (hl1 : a.length ≤ 1000000) (hl2 : b.length ≤ 1000000) (hR1 : Row w p a) (hR2 : Row w q b) :
   Calls Tryz.prog 73 #[.slice p a.length cap, .slice q b.length cap'] w fun ro w' => ro = .returned (.bool m) ∧ Dn w w' := by
 have HM := Lib.hid hm
 clear hm
 by_cases hlen : a.length = b.length
 rotate_left
 · have d0 : ((a.length : Int) != (b.length : Int)) = true := by simp; omega
   obtain rfl : m = false := by rw [HM.out, decide_eq_false_iff_not]; exact fun h => hlen (by rw [h])
   go_enter Tryz.func73, Tryz.ntmps73
   go_wp2_with fail
   go_ret
   exact ⟨rfl, Dn.refl _⟩
 · have d0 : ((a.length : Int) != (b.length : Int)) = false := by simp; omega
   have HL := Lib.hid hlen
   rw [hlen]
   go_enter Tryz.func73, Tryz.ntmps73
   go_wp2_with fail
   go_loopw [4, 13] (fun rv iv wr => rv = .bool false ∧ ∃ k : Nat, k ≤ b.length ∧ iv = .int .i64 k ∧ (∀ i x y, a[i]? = some x → b[i]? = some y → i < k → x = y) ∧ Dn w wr) (fun _ iv _ => b.length - (intOf iv).toNat)
   case atStart => exact ⟨rfl, 0, by omega, rfl, fun _ _ _ _ _ h => absurd h (by omega), Dn.refl _⟩
   case round =>
    obtain ⟨rfl, k, hk, rfl, hn, hu⟩ := hrel
    have HN := Lib.hid hn
    clear hn
    by_cases hlt : k < b.length
    · have d1 : decide ((k : Int) < b.length) = true := by simp; omega
      obtain ⟨x, hx⟩ : ∃ x, a[k]? = some x := ⟨a[k], by simp [show k < a.length by omega]⟩
      obtain ⟨y, hy⟩ : ∃ y, b[k]? = some y := ⟨b[k], by simp [hlt]⟩
      obtain ⟨g, o, rfl, hc⟩ := hR1.cs (by omega)
      obtain ⟨g2, o2, rfl, hc2⟩ := hR2.cs (by omega)
      have HX := Lib.hid hx
      have HY := Lib.hid hy
      obtain ⟨a0, a1, a2, a3⟩ := (hc.dn hu).el _ _ hx
      obtain ⟨b0, b1, b2, b3⟩ := (hc2.dn hu).el _ _ hy
      clear hx hy hc hc2 hR1 hR2
      by_cases hxy : x = y
      · have hNE := fun W => neqR x y W
        have HXY := Lib.hid hxy
        rw [decide_eq_false (fun h => h hxy)] at hNE
        clear hxy
        go_wp2_with fail
        go_quiet (fail)
        clear hNE
        go_wp2_with fail
        go_roundw
        case rel => exact ⟨rfl, k + 1, by omega, by simp, fun i x' y' h1 h2 h3 => (Nat.lt_or_ge i k).elim (HN.out i x' y' h1 h2) (fun h => by (obtain rfl : i = k := (by omega)); (rw [HX.out] at h1); (rw [HY.out] at h2); (cases h1); (cases h2); exact HXY.out), by first | exact hu.drewN _ | exact hu | trivial⟩
        case measure => simp [intOf]; omega
      · have hNE := fun W => neqR x y W
        rw [decide_eq_true hxy] at hNE
        obtain rfl : m = false := by
         rw [HM.out, decide_eq_false_iff_not]
         intro h
         have h1 := HX.out
         rw [h, HY.out] at h1
         exact hxy (Option.some.inj h1).symm
        clear hxy
        go_wp2_with fail
        go_quiet (fail)
        clear hNE
        go_wp2_with fail
        go_ret
        exact ⟨rfl, by first | exact hu.drewN _ | exact hu | trivial⟩
    · obtain rfl : k = b.length := by omega
      have d1 : decide ((b.length : Int) < b.length) = false := by simp
      obtain rfl : m = true := by
        rw [HM.out, decide_eq_true_iff]
        exact pre_eq HL.out (fun i x y h1 h2 h3 => HN.out i x y h1 h2 (by have := HL.out; omega))
      go_wp2_with fail
      go_ret
      exact ⟨rfl, hu⟩
theorem rsSame (p : Option Addr) (cap : Nat) (a : List Rq) (q : Option Addr) (cap' : Nat) (b : List Rq) (m : Bool) (w : World) (hm : m = decide (a = b)) (hl1 : a.length ≤ 1000000) (hl2 : b.length ≤ 1000000) (hR1 : Row w p a) (hR2 : Row w q b) :
  Calls Tryz.prog 28 #[.slice p a.length cap, .slice q b.length cap'] w fun ro w' => ro = .returned (.bool m) ∧ Dn w w' := by
 have HE := Lib.hid (slEqual p cap a q cap' b m w hm hl1 hl2 hR1 hR2)
 clear hm hR1 hR2
 go_enter Tryz.func28, Tryz.ntmps28
 go_wp2_with fail
 refine (HE.out).mono ?_
 rintro e w1 ⟨rfl, qw1⟩
 have uw1 := qw1
 clear qw1
 go_wp2_with fail
 go_ret
 exact ⟨rfl, uw1⟩
end Go.Proofs.YteodjglbpfmikaaGreatDoor
