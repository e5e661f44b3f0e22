/- Walks and laws that the claim's theorem leans on: part 8. -/
import Derived.Test.YteodjglbpfmikaaGreatDoorZUn1
import Derived.Test.YteodjglbpfmikaaGreatDoorZUn6
import Derived.Test.YteodjglbpfmikaaGreatDoorZUn7
namespace Go.Proofs.YteodjglbpfmikaaGreatDoor
set_option maxHeartbeats 4000000
set_option maxRecDepth 100000
open Go.RowKit
set_option linter.unusedVariables false
set_option linter.unusedSimpArgs false
def JnAt (L : List Rq) (k : Nat) (O : List Rq) : Prop := (k = 0 ∧ O = []) ∨ ∃ M p, O = M ++ [p] ∧ joinedL L = M ++ jn p (L.drop k) ∧ O.length ≤ k ∧ I6 O
theorem jnAt_first {L : List Rq} {k : Nat} {x : Rq} (h : L[k]? = some x) (hk : k = 0) (hI : I6 L) : JnAt L (k + 1) ([] ++ [x]) := by
 subst hk
 cases L with
 | nil => simp at h
 | cons y t =>
   simp at h; subst h
   refine .inr ⟨[], y, rfl, rfl, by simp, ?_⟩
   intro z hz
   simp at hz; subst hz
   exact hI _ List.mem_cons_self
theorem jnAt_step {L M : List Rq} {k : Nat} {p x : Rq} (h : L[k]? = some x) (hj : joinedL L = M ++ jn p (L.drop k)) : joinedL L = M ++ (if TchR p x then jn (jnR p x) (L.drop (k + 1)) else p :: jn x (L.drop (k + 1))) := by
 obtain ⟨hl, rfl⟩ := List.getElem?_eq_some_iff.1 h
 rw [hj, List.drop_eq_getElem_cons hl, jn]
theorem jnAt_touch {L O M : List Rq} {k : Nat} {p x : Rq} (h : L[k]? = some x) (hI : I6 L) (hO : O = M ++ [p]) (hj : joinedL L = M ++ jn p (L.drop k)) (hl : O.length ≤ k) (ho : I6 O) (ht : TchR p x) : JnAt L (k + 1) (M ++ [jnR p x]) := by
 subst hO
 have hs := jnAt_step h hj
 rw [if_pos ht] at hs
 refine .inr ⟨M, _, rfl, hs, by simp at hl ⊢; omega, ?_⟩
 have hp := ho p (by simp)
 have hx := hI.at h
 intro z hz
 rcases List.mem_append.1 hz with hz | hz
 · exact ho z (by simp [hz])
 · simp at hz; subst hz
   exact ⟨mn_i64 hp.1 hx.1, mx_i64 hp.2 hx.2⟩
theorem jnAt_no {L O M : List Rq} {k : Nat} {p x : Rq} (h : L[k]? = some x) (hI : I6 L) (hO : O = M ++ [p]) (hj : joinedL L = M ++ jn p (L.drop k)) (hl : O.length ≤ k) (ho : I6 O) (ht : ¬ TchR p x) : JnAt L (k + 1) (O ++ [x]) := by
 have hs := jnAt_step h hj
 rw [if_neg ht] at hs
 refine .inr ⟨O, x, rfl, by rw [hs, hO]; simp, by simp; omega, ?_⟩
 intro z hz
 rcases List.mem_append.1 hz with hz | hz
 · exact ho z hz
 · simp at hz; subst hz; exact hI.at h
theorem jnAt_end {L O : List Rq} (h : JnAt L L.length O) : O = joinedL L := by
 rcases h with ⟨h1, rfl⟩ | ⟨M, p, rfl, h, _, _⟩
 · rw [List.length_eq_zero_iff] at h1; subst h1; rfl
 · rw [h]; simp [jn]
theorem rsJoined (p : Option Addr) (cap : Nat) (L : List Rq) (w : World) (hl : L.length ≤ 1000000 - 1) (hI : I6 L) (hR : Row w p L) :
  Calls Tryz.prog 64 #[.slice p L.length cap] w fun ro w' => ∃ p', ro = .returned (.slice p' (joinedL L).length (joinedL L).length) ∧ Row w' p' (joinedL L) ∧ Dn w w' := by
 go_enter Tryz.func64, Tryz.ntmps64
 go_wp2_with fail
 go_loopw [3, 11] (fun ov iv wr => ∃ (k : Nat) (O : List Rq), k ≤ L.length ∧ iv = .int .i64 k ∧ JnAt L k O ∧ (k = 0 → ov = .slice none 0 0) ∧ OwnQ wr w.heap.size ov O ∧ Dn w wr) (fun _ i _ => L.length - (intOf i).toNat)
 case atStart => exact ⟨0, [], by omega, rfl, .inl ⟨rfl, rfl⟩, fun _ => rfl, OwnQ.nil _ _, Dn.refl _⟩
 case round =>
  obtain ⟨k, O, hk, rfl, hj, hnil, hown, hu⟩ := hrel
  have HJ := Lib.hid hj
  by_cases hlt : k < L.length
  · have c1 : decide ((k : Int) < L.length) = true := by simp; omega
    obtain ⟨x, hx⟩ : ∃ x, L[k]? = some x := ⟨L[k], by simp [hlt]⟩
    obtain ⟨g0, o0, rfl, hc0⟩ := hR.cs (by omega)
    have hc := hc0.dn hu
    have HX := Lib.hid hx
    obtain ⟨a0, a1, a2, a3⟩ := hc.el _ _ hx
    have HC := Lib.hid hc0
    clear hx hc hc0 hR
    rcases hj with ⟨hk0', rfl⟩ | ⟨M, p, hO, hjn, hlO, hIO⟩
    · have hk0 := Lib.hid hk0'
      obtain rfl := hnil hk0'
      clear hk0' hnil
      go_upto_region 10 with fail
      clear a0 a1 a2 a3
      obtain ⟨W1, hW1⟩ : ∃ W1, W1 = wr.alloc (.cells #[.int .i8 x.a, .int .i64 x.b, .int .i8 x.c, .int .i64 x.d] 30) := ⟨_, rfl⟩
      have uW1 : Dn wr W1 := by rw [hW1]; exact (Dn.refl _).alloc _
      replace hown := hown.dn uW1
      have c2 : W1.cell? ⟨wr.heap.size, 0, none⟩ = some (.int .i8 x.a) := by rw [hW1]; simp [go_sem]
      have c3 : W1.cell? ⟨wr.heap.size, 1, none⟩ = some (.int .i64 x.b) := by rw [hW1]; simp [go_sem]
      have c4 : W1.cell? ⟨wr.heap.size, 2, none⟩ = some (.int .i8 x.c) := by rw [hW1]; simp [go_sem]
      have c5 : W1.cell? ⟨wr.heap.size, 3, none⟩ = some (.int .i64 x.d) := by rw [hW1]; simp [go_sem]
      have l6 : wr.heap.size < W1.heap.size := by rw [hW1]; simp <;> omega
      rw [← hW1]
      clear hW1
      have vW1 := hu.trans uW1
      clear uW1 hu
      generalize hov : Value.slice none 0 0 = ov
      rw [hov] at hown
      have HOV := Lib.hid hov
      clear hov
      go_wp2_with (at_builtin; go_loud (refine list_run rfl _ _ rfl W1 w.heap.size (ov) ([]) x.a x.b x.c x.d rfl hown rfl (by simp) vW1.size ?_))
      intro v' w' hown' hold hdn
      replace hdn := hdn w vW1 rfl
      clear hold  hown
      have hov := HOV.out
      subst hov
      go_wp2_with fail
      go_roundw
      case rel => exact ⟨k + 1, [] ++ [x], by omega, by simp, jnAt_first HX.out hk0.out hI, fun h => absurd h (by omega), hown', hdn⟩
      case measure => simp [intOf]; omega
    · clear hnil
      have hp := hIO p (by rw [hO]; simp)
      have hx6 := hI.at HX.out
      obtain ⟨m, hm⟩ : ∃ m, m = M.length := ⟨_, rfl⟩
      have hO2 : O.length = m + 1 := by rw [hO, hm]; simp
      have hpm : O[m]? = some p := by rw [hO, hm]; simp
      rcases hown.form with ⟨rfl, e⟩ | ⟨g, cap, rfl, hbg, hcap, hmx, hcs⟩
      · rw [e] at hO2; simp at hO2
      rw [hO2] at hown hcap ⊢
      have HO := Lib.hid hO
      have HJN := Lib.hid hjn
      have HIO := Lib.hid hIO
      have HLO := Lib.hid hlO
      have HPM := Lib.hid hpm
      have HHM := Lib.hid hm
      have hti := tch_iff hp hx6
      have HT := Lib.hid (fun i1 d1 i2 d2 is W k => rnJoin p.a p.b p.c p.d x.a x.b x.c x.d i1 d1 i2 d2 is W hp.1 hp.2 hx6.1 hx6.2 k)
      have HX6 := Lib.hid hx6
      have HP6 := Lib.hid hp
      have hlm : m + 1 ≤ 1000000 := by omega
      have hmm : (m : Int) + 1 > 0 := by omega
      have hmt : (m : Int) < (m : Int) + 1 := by omega
      have hwm : IntKind.i64.wrap (m : Int) = m := IntWalk.i64_in _ (by omega)
      clear hO hjn hIO hlO hpm hm hx6 hp
      by_cases ht : TchR p x
      ·
        have HTI := Lib.hid (hti.2 ht)
        have HTT := Lib.hid ht
        clear ht hti
        go_wp2_with fail
        clear a0 a1 a2 a3
        obtain ⟨W1, hW1⟩ : ∃ W1, W1 = wr.alloc (.cells #[.int .i8 x.a, .int .i64 x.b, .int .i8 x.c, .int .i64 x.d] 30) := ⟨_, rfl⟩
        have uW1 : Dn wr W1 := by rw [hW1]; exact (Dn.refl _).alloc _
        replace hown := hown.dn uW1
        replace hcs := hcs.dn uW1
        have c2 : W1.cell? ⟨wr.heap.size, 0, none⟩ = some (.int .i8 x.a) := by rw [hW1]; simp [go_sem]
        have c3 : W1.cell? ⟨wr.heap.size, 1, none⟩ = some (.int .i64 x.b) := by rw [hW1]; simp [go_sem]
        have c4 : W1.cell? ⟨wr.heap.size, 2, none⟩ = some (.int .i8 x.c) := by rw [hW1]; simp [go_sem]
        have c5 : W1.cell? ⟨wr.heap.size, 3, none⟩ = some (.int .i64 x.d) := by rw [hW1]; simp [go_sem]
        have l6 : wr.heap.size < W1.heap.size := by rw [hW1]; simp <;> omega
        rw [← hW1]
        clear hW1
        have vW1 := hu.trans uW1
        clear uW1 hu
        obtain ⟨qp0, qp1, qp2, qp3⟩ := hcs.el _ _ HPM.out
        simp only [Nat.zero_add] at qp0 qp1 qp2 qp3
        have qpl := hcs.lt
        go_upto_region 7 with fail
        refine region_inv (fun A l a' w' => ∃ (b0 b1 b2 b3 b4 b5 b6 b7 b8 b9 b10 b11 b12 : Bool) (x20 x21 x22 x23 x24 x25 x26 x19 x27 x28 x7 x8 : Value), l = #[b0, b1, b2, b3, b4, b5, b6, b7, b8, b9, b10, b11, b12] ∧ a' = ((((((((((((A.put (some 20) x20).put (some 21) x21).put (some 22) x22).put (some 23) x23).put (some 24) x24).put (some 25) x25).put (some 26) x26).put (some 19) x19).put (some 27) x27).put (some 28) x28).put (some 7) x7).put (some 8) x8) ∧ Dn W1 w' ∧ (b0 = true → x20 = .slice (some ⟨g, 0, none⟩) (m + 1) cap) ∧ (b1 = true → x21 = .int .i64 ((m : Int) + 1)) ∧ (b2 = true → x22 = .int .i64 (m : Int)) ∧ (b3 = true → x23 = .pointer (some ⟨g, m * 4, none⟩)) ∧ (b4 = true → x24 = .agg #[.int .i8 p.a, .int .i64 p.b, .int .i8 p.c, .int .i64 p.d]) ∧ (b5 = true → x25 = .agg #[.int .i8 x.a, .int .i64 x.b, .int .i8 x.c, .int .i64 x.d]) ∧ (b6 = true → x26 = .tuple #[.agg #[.int .i8 (mnI p.a p.b x.a x.b), .int .i64 (mnD p.a p.b x.a x.b), .int .i8 (mxI p.c p.d x.c x.d), .int .i64 (mxD p.c p.d x.c x.d)], .bool true]) ∧ (b7 = true → x19 = .tuple #[.agg #[.int .i8 (mnI p.a p.b x.a x.b), .int .i64 (mnD p.a p.b x.a x.b), .int .i8 (mxI p.c p.d x.c x.d), .int .i64 (mxD p.c p.d x.c x.d)], .bool true]) ∧ (b8 = true → x27 = .agg #[.int .i8 (mnI p.a p.b x.a x.b), .int .i64 (mnD p.a p.b x.a x.b), .int .i8 (mxI p.c p.d x.c x.d), .int .i64 (mxD p.c p.d x.c x.d)]) ∧ (b9 = true → x28 = .bool true) ∧ (b12 = true → x8 = .bool true) ∧ (b11 = true → b10 = true) ∧ Bl W1.heap.size w' b10 b11 x7 (.int .i8 (mnI p.a p.b x.a x.b)) (.int .i64 (mnD p.a p.b x.a x.b)) (.int .i8 (mxI p.c p.d x.c x.d)) (.int .i64 (mxD p.c p.d x.c x.d))) (by kernel_rfl) ?_ ?_ ?_
        · exact ⟨false, false, false, false, false, false, false, false, false, false, false, false, false, u20, u21, u22, u23, u24, u25, u26, u19, u27, u28, u7, u8, rfl, by simp only [Act.put, pL], (Dn.refl _).drew, (fun h => by cases h), (fun h => by cases h), (fun h => by cases h), (fun h => by cases h), (fun h => by cases h), (fun h => by cases h), (fun h => by cases h), (fun h => by cases h), (fun h => by cases h), (fun h => by cases h), (fun h => by cases h), (fun h => by cases h), Bl.no⟩
        · rintro l a' w' i ⟨b0, b1, b2, b3, b4, b5, b6, b7, b8, b9, b10, b11, b12, x20, x21, x22, x23, x24, x25, x26, x19, x27, x28, x7, x8, rfl, rfl, q, hv0, hv1, hv2, hv3, hv4, hv5, hv6, hv7, hv8, hv9, hv12, hs10, hk10⟩ hun hdep hi
          simp only [Act.put, pL]
          have hi' : i < 13 := hi
          rcases (show i = 0 ∨ i = 1 ∨ i = 2 ∨ i = 3 ∨ i = 4 ∨ i = 5 ∨ i = 6 ∨ i = 7 ∨ i = 8 ∨ i = 9 ∨ i = 10 ∨ i = 11 ∨ i = 12 by omega) with rfl | rfl | rfl | rfl | rfl | rfl | rfl | rfl | rfl | rfl | rfl | rfl | rfl
          ·
           have f0 : b0 = false := by simpa using hun
           subst f0
           refine wpOp_step rfl (fun K hK => ?_)
           replace hK := Lib.hid hK
           go_simp
           exact hK.out _ _ ⟨true, b1, b2, b3, b4, b5, b6, b7, b8, b9, b10, b11, b12, .slice (some ⟨g, 0, none⟩) (m + 1) cap, x21, x22, x23, x24, x25, x26, x19, x27, x28, x7, x8, rfl, by first | (simp only [Act.put, pL]; done) | rfl, q, fun _ => rfl, hv1, hv2, hv3, hv4, hv5, hv6, hv7, hv8, hv9, hv12, hs10, hk10⟩
          ·
           have f1 : b1 = false := by simpa using hun
           subst f1
           refine wpOp_step rfl (fun K hK => ?_)
           replace hK := Lib.hid hK
           go_simp
           exact hK.out _ _ ⟨b0, true, b2, b3, b4, b5, b6, b7, b8, b9, b10, b11, b12, x20, .int .i64 ((m : Int) + 1), x22, x23, x24, x25, x26, x19, x27, x28, x7, x8, rfl, by first | (simp only [Act.put, pL]; done) | rfl, q, hv0, fun _ => rfl, hv2, hv3, hv4, hv5, hv6, hv7, hv8, hv9, hv12, hs10, hk10⟩
          ·
           have e1 : b1 = true := hdep _ rfl ⟨1, .data⟩ (by simp) rfl
           have f2 : b2 = false := by simpa using hun
           subst f2 e1
           obtain rfl := hv1 rfl
           refine wpOp_step rfl (fun K hK => ?_)
           replace hK := Lib.hid hK
           go_simp
           exact hK.out _ _ ⟨b0, true, true, b3, b4, b5, b6, b7, b8, b9, b10, b11, b12, x20, .int .i64 ((m : Int) + 1), .int .i64 (m : Int), x23, x24, x25, x26, x19, x27, x28, x7, x8, rfl, by first | (simp only [Act.put, pL]; done) | rfl, q, hv0, fun _ => rfl, fun _ => rfl, hv3, hv4, hv5, hv6, hv7, hv8, hv9, hv12, hs10, hk10⟩
          ·
           have e0 : b0 = true := hdep _ rfl ⟨0, .data⟩ (by simp) rfl
           have e2 : b2 = true := hdep _ rfl ⟨2, .data⟩ (by simp) rfl
           have f3 : b3 = false := by simpa using hun
           subst f3 e0 e2
           obtain rfl := hv0 rfl
           obtain rfl := hv2 rfl
           refine wpOp_step rfl (fun K hK => ?_)
           replace hK := Lib.hid hK
           go_simp
           exact hK.out _ _ ⟨true, b1, true, true, b4, b5, b6, b7, b8, b9, b10, b11, b12, .slice (some ⟨g, 0, none⟩) (m + 1) cap, x21, .int .i64 (m : Int), .pointer (some ⟨g, m * 4, none⟩), x24, x25, x26, x19, x27, x28, x7, x8, rfl, by first | (simp only [Act.put, pL]; done) | rfl, q, fun _ => rfl, hv1, fun _ => rfl, fun _ => rfl, hv4, hv5, hv6, hv7, hv8, hv9, hv12, hs10, hk10⟩
          ·
           have e3 : b3 = true := hdep _ rfl ⟨3, .data⟩ (by simp) rfl
           have f4 : b4 = false := by simpa using hun
           subst f4 e3
           obtain rfl := hv3 rfl
           obtain ⟨g8, g9, g10, g11⟩ := mv4 q.cell qp0 qp1 qp2 qp3
           refine wpOp_step rfl (fun K hK => ?_)
           replace hK := Lib.hid hK
           go_simp
           exact hK.out _ _ ⟨b0, b1, b2, true, true, b5, b6, b7, b8, b9, b10, b11, b12, x20, x21, x22, .pointer (some ⟨g, m * 4, none⟩), .agg #[.int .i8 p.a, .int .i64 p.b, .int .i8 p.c, .int .i64 p.d], x25, x26, x19, x27, x28, x7, x8, rfl, by first | (simp only [Act.put, pL]; done) | rfl, q, hv0, hv1, hv2, fun _ => rfl, fun _ => rfl, hv5, hv6, hv7, hv8, hv9, hv12, hs10, hk10⟩
          ·
           have f5 : b5 = false := by simpa using hun
           subst f5
           obtain ⟨g12, g13, g14, g15⟩ := mv4 q.cell c2 c3 c4 c5
           refine wpOp_step rfl (fun K hK => ?_)
           replace hK := Lib.hid hK
           go_simp
           exact hK.out _ _ ⟨b0, b1, b2, b3, b4, true, b6, b7, b8, b9, b10, b11, b12, x20, x21, x22, x23, x24, .agg #[.int .i8 x.a, .int .i64 x.b, .int .i8 x.c, .int .i64 x.d], x26, x19, x27, x28, x7, x8, rfl, by first | (simp only [Act.put, pL]; done) | rfl, q, hv0, hv1, hv2, hv3, hv4, fun _ => rfl, hv6, hv7, hv8, hv9, hv12, hs10, hk10⟩
          ·
           have e4 : b4 = true := hdep _ rfl ⟨4, .data⟩ (by simp) rfl
           have e5 : b5 = true := hdep _ rfl ⟨5, .data⟩ (by simp) rfl
           have f6 : b6 = false := by simpa using hun
           subst f6 e4 e5
           obtain rfl := hv4 rfl
           obtain rfl := hv5 rfl
           refine wpOp_step rfl (fun K hK => ?_)
           replace hK := Lib.hid hK
           go_simp
           go_at_call 117
           refine (HT.out _ _ _ _ _ _ (Or.inl ⟨HTI.out, rfl, rfl, rfl, rfl, rfl⟩)).mono ?_
           rintro e wa ⟨rfl, qa⟩
           try go_wp2_with fail
           exact hK.out _ _ ⟨b0, b1, b2, b3, true, true, true, b7, b8, b9, b10, b11, b12, x20, x21, x22, x23, .agg #[.int .i8 p.a, .int .i64 p.b, .int .i8 p.c, .int .i64 p.d], .agg #[.int .i8 x.a, .int .i64 x.b, .int .i8 x.c, .int .i64 x.d], .tuple #[.agg #[.int .i8 (mnI p.a p.b x.a x.b), .int .i64 (mnD p.a p.b x.a x.b), .int .i8 (mxI p.c p.d x.c x.d), .int .i64 (mxD p.c p.d x.c x.d)], .bool true], x19, x27, x28, x7, x8, rfl, by first | (simp only [Act.put, pL]; done) | rfl, q.trans qa, hv0, hv1, hv2, hv3, fun _ => rfl, fun _ => rfl, fun _ => rfl, hv7, hv8, hv9, hv12, hs10, hk10.dn qa⟩
          ·
           have e6 : b6 = true := hdep _ rfl ⟨6, .data⟩ (by simp) rfl
           have f7 : b7 = false := by simpa using hun
           subst f7 e6
           obtain rfl := hv6 rfl
           refine wpOp_step rfl (fun K hK => ?_)
           replace hK := Lib.hid hK
           go_simp
           exact hK.out _ _ ⟨b0, b1, b2, b3, b4, b5, true, true, b8, b9, b10, b11, b12, x20, x21, x22, x23, x24, x25, .tuple #[.agg #[.int .i8 (mnI p.a p.b x.a x.b), .int .i64 (mnD p.a p.b x.a x.b), .int .i8 (mxI p.c p.d x.c x.d), .int .i64 (mxD p.c p.d x.c x.d)], .bool true], .tuple #[.agg #[.int .i8 (mnI p.a p.b x.a x.b), .int .i64 (mnD p.a p.b x.a x.b), .int .i8 (mxI p.c p.d x.c x.d), .int .i64 (mxD p.c p.d x.c x.d)], .bool true], x27, x28, x7, x8, rfl, by first | (simp only [Act.put, pL]; done) | rfl, q, hv0, hv1, hv2, hv3, hv4, hv5, fun _ => rfl, fun _ => rfl, hv8, hv9, hv12, hs10, hk10⟩
          ·
           have e7 : b7 = true := hdep _ rfl ⟨7, .data⟩ (by simp) rfl
           have f8 : b8 = false := by simpa using hun
           subst f8 e7
           obtain rfl := hv7 rfl
           refine wpOp_step rfl (fun K hK => ?_)
           replace hK := Lib.hid hK
           go_simp
           exact hK.out _ _ ⟨b0, b1, b2, b3, b4, b5, b6, true, true, b9, b10, b11, b12, x20, x21, x22, x23, x24, x25, x26, .tuple #[.agg #[.int .i8 (mnI p.a p.b x.a x.b), .int .i64 (mnD p.a p.b x.a x.b), .int .i8 (mxI p.c p.d x.c x.d), .int .i64 (mxD p.c p.d x.c x.d)], .bool true], .agg #[.int .i8 (mnI p.a p.b x.a x.b), .int .i64 (mnD p.a p.b x.a x.b), .int .i8 (mxI p.c p.d x.c x.d), .int .i64 (mxD p.c p.d x.c x.d)], x28, x7, x8, rfl, by first | (simp only [Act.put, pL]; done) | rfl, q, hv0, hv1, hv2, hv3, hv4, hv5, hv6, fun _ => rfl, fun _ => rfl, hv9, hv12, hs10, hk10⟩
          ·
           have e7 : b7 = true := hdep _ rfl ⟨7, .data⟩ (by simp) rfl
           have f9 : b9 = false := by simpa using hun
           subst f9 e7
           obtain rfl := hv7 rfl
           refine wpOp_step rfl (fun K hK => ?_)
           replace hK := Lib.hid hK
           go_simp
           exact hK.out _ _ ⟨b0, b1, b2, b3, b4, b5, b6, true, b8, true, b10, b11, b12, x20, x21, x22, x23, x24, x25, x26, .tuple #[.agg #[.int .i8 (mnI p.a p.b x.a x.b), .int .i64 (mnD p.a p.b x.a x.b), .int .i8 (mxI p.c p.d x.c x.d), .int .i64 (mxD p.c p.d x.c x.d)], .bool true], x27, .bool true, x7, x8, rfl, by first | (simp only [Act.put, pL]; done) | rfl, q, hv0, hv1, hv2, hv3, hv4, hv5, hv6, fun _ => rfl, hv8, fun _ => rfl, hv12, hs10, hk10⟩
          ·
           have f10 : b10 = false := by simpa using hun
           subst f10
           obtain rfl : b11 = false := by
             cases b11 with
             | false => rfl
             | true => exact absurd (hs10 rfl) (by simp)
           refine wpOp_step rfl (fun K hK => ?_)
           replace hK := Lib.hid hK
           go_simp
           exact hK.out _ _ ⟨b0, b1, b2, b3, b4, b5, b6, b7, b8, b9, true, false, b12, x20, x21, x22, x23, x24, x25, x26, x19, x27, x28, .pointer (some ⟨w'.heap.size, 0, none⟩), x8, rfl, by first | (simp only [Act.put, pL]; done) | rfl, q.alloc _, hv0, hv1, hv2, hv3, hv4, hv5, hv6, hv7, hv8, hv9, hv12, fun _ => rfl, Bl.new q.size _⟩
          ·
           have e10 : b10 = true := hdep _ rfl ⟨10, .data⟩ (by simp) rfl
           have e8 : b8 = true := hdep _ rfl ⟨8, .data⟩ (by simp) rfl
           have f11 : b11 = false := by simpa using hun
           subst f11 e10 e8
           obtain rfl := hv8 rfl
           obtain ⟨B, rfl, hL, hz, _⟩ := hk10 rfl
           have hB := hz rfl
           have z0 := hB.c0
           have y0 := hB.f0
           have z1 := hB.c1
           have y1 := hB.f1
           have z2 := hB.c2
           have y2 := hB.f2
           have z3 := hB.c3
           have y3 := hB.f3
           have zl := hB.lt
           refine wpOp_step rfl (fun K hK => ?_)
           replace hK := Lib.hid hK
           go_simp
           exact hK.out _ _ ⟨b0, b1, b2, b3, b4, b5, b6, b7, true, b9, true, true, b12, x20, x21, x22, x23, x24, x25, x26, x19, .agg #[.int .i8 (mnI p.a p.b x.a x.b), .int .i64 (mnD p.a p.b x.a x.b), .int .i8 (mxI p.c p.d x.c x.d), .int .i64 (mxD p.c p.d x.c x.d)], x28, .pointer (some ⟨B, 0, none⟩), x8, rfl, by first | (simp only [Act.put, pL]; done) | rfl, (Dn.setCell (Dn.setCell (Dn.setCell (Dn.setCell q (by simpa using hL) _) (by simpa using hL) _) (by simpa using hL) _) (by simpa using hL) _), hv0, hv1, hv2, hv3, hv4, hv5, hv6, hv7, fun _ => rfl, hv9, hv12, fun _ => rfl, fun _ => ⟨B, rfl, hL, (fun k => by cases k), fun _ => hB.fill _ _ _ _⟩⟩
          ·
           have e9 : b9 = true := hdep _ rfl ⟨9, .data⟩ (by simp) rfl
           have f12 : b12 = false := by simpa using hun
           subst f12 e9
           obtain rfl := hv9 rfl
           refine wpOp_step rfl (fun K hK => ?_)
           replace hK := Lib.hid hK
           go_simp
           exact hK.out _ _ ⟨b0, b1, b2, b3, b4, b5, b6, b7, b8, true, b10, b11, true, x20, x21, x22, x23, x24, x25, x26, x19, x27, .bool true, x7, .bool true, rfl, by first | (simp only [Act.put, pL]; done) | rfl, q, hv0, hv1, hv2, hv3, hv4, hv5, hv6, hv7, hv8, fun _ => rfl, fun _ => rfl, hs10, hk10⟩
        · rintro l a' W16 ⟨b0, b1, b2, b3, b4, b5, b6, b7, b8, b9, b10, b11, b12, x20, x21, x22, x23, x24, x25, x26, x19, x27, x28, x7, x8, rfl, rfl, qW16, hv0, hv1, hv2, hv3, hv4, hv5, hv6, hv7, hv8, hv9, hv12, hs10, hk10⟩ hall
          obtain rfl : b0 = true := by
           cases b0 with
           | true => rfl
           | false => exact absurd (by intro e he hb; simp at he <;> (repeat' (rcases he with rfl | he)) <;> first | rfl | exact absurd hb (by decide)) (hall 0 _ rfl rfl)
          obtain rfl : b1 = true := by
           cases b1 with
           | true => rfl
           | false => exact absurd (by intro e he hb; simp at he <;> (repeat' (rcases he with rfl | he)) <;> first | rfl | exact absurd hb (by decide)) (hall 1 _ rfl rfl)
          obtain rfl : b2 = true := by
           cases b2 with
           | true => rfl
           | false => exact absurd (by intro e he hb; simp at he <;> (repeat' (rcases he with rfl | he)) <;> first | rfl | exact absurd hb (by decide)) (hall 2 _ rfl rfl)
          obtain rfl : b3 = true := by
           cases b3 with
           | true => rfl
           | false => exact absurd (by intro e he hb; simp at he <;> (repeat' (rcases he with rfl | he)) <;> first | rfl | exact absurd hb (by decide)) (hall 3 _ rfl rfl)
          obtain rfl : b4 = true := by
           cases b4 with
           | true => rfl
           | false => exact absurd (by intro e he hb; simp at he <;> (repeat' (rcases he with rfl | he)) <;> first | rfl | exact absurd hb (by decide)) (hall 4 _ rfl rfl)
          obtain rfl : b5 = true := by
           cases b5 with
           | true => rfl
           | false => exact absurd (by intro e he hb; simp at he <;> (repeat' (rcases he with rfl | he)) <;> first | rfl | exact absurd hb (by decide)) (hall 5 _ rfl rfl)
          obtain rfl : b6 = true := by
           cases b6 with
           | true => rfl
           | false => exact absurd (by intro e he hb; simp at he <;> (repeat' (rcases he with rfl | he)) <;> first | rfl | exact absurd hb (by decide)) (hall 6 _ rfl rfl)
          obtain rfl : b7 = true := by
           cases b7 with
           | true => rfl
           | false => exact absurd (by intro e he hb; simp at he <;> (repeat' (rcases he with rfl | he)) <;> first | rfl | exact absurd hb (by decide)) (hall 7 _ rfl rfl)
          obtain rfl : b8 = true := by
           cases b8 with
           | true => rfl
           | false => exact absurd (by intro e he hb; simp at he <;> (repeat' (rcases he with rfl | he)) <;> first | rfl | exact absurd hb (by decide)) (hall 8 _ rfl rfl)
          obtain rfl : b9 = true := by
           cases b9 with
           | true => rfl
           | false => exact absurd (by intro e he hb; simp at he <;> (repeat' (rcases he with rfl | he)) <;> first | rfl | exact absurd hb (by decide)) (hall 9 _ rfl rfl)
          obtain rfl : b10 = true := by
           cases b10 with
           | true => rfl
           | false => exact absurd (by intro e he hb; simp at he <;> (repeat' (rcases he with rfl | he)) <;> first | rfl | exact absurd hb (by decide)) (hall 10 _ rfl rfl)
          obtain rfl : b11 = true := by
           cases b11 with
           | true => rfl
           | false => exact absurd (by intro e he hb; simp at he <;> (repeat' (rcases he with rfl | he)) <;> first | rfl | exact absurd hb (by decide)) (hall 11 _ rfl rfl)
          obtain rfl : b12 = true := by
           cases b12 with
           | true => rfl
           | false => exact absurd (by intro e he hb; simp at he <;> (repeat' (rcases he with rfl | he)) <;> first | rfl | exact absurd hb (by decide)) (hall 12 _ rfl rfl)
          obtain rfl := hv0 rfl
          obtain rfl := hv1 rfl
          obtain rfl := hv2 rfl
          obtain rfl := hv3 rfl
          obtain rfl := hv4 rfl
          obtain rfl := hv5 rfl
          obtain rfl := hv6 rfl
          obtain rfl := hv7 rfl
          obtain rfl := hv8 rfl
          obtain rfl := hv9 rfl
          obtain rfl := hv12 rfl
          obtain ⟨Bt7, rfl, ot7, _, gt7⟩ := hk10 rfl
          obtain ⟨t7c0, t7c1, t7c2, t7c3, t7f0, t7f1, t7f2, t7f3, lt7⟩ := gt7 rfl
          clear gt7
          replace hown := hown.dn qW16
          replace hcs := hcs.dn qW16
          have a4 := nlt l6 qW16.size
          have a9 := nlt qpl qW16.size
          obtain ⟨a5, a6, a7, a8, aA, aB, aC, aD⟩ := mv8 qW16.cell c2 c3 c4 c5 qp0 qp1 qp2 qp3
          clear l6 c2 c3 c4 c5 qpl qp0 qp1 qp2 qp3
          clear t7f0 t7f1 t7f2 t7f3
          have vW16 := vW1.trans qW16
          clear hv0 hv1 hv2 hv3 hv4 hv5 hv6 hv7 hv8 hv9 hv12 hs10 hk10 ot7 hall
          simp only [Act.put, pL]
          have z0 := hown.frozen hO2.symm (m * 4)
          have z1 := hown.frozen hO2.symm (m * 4 + 1)
          have z2 := hown.frozen hO2.symm (m * 4 + 2)
          have z3 := hown.frozen hO2.symm (m * 4 + 3)
          go_wp2_with fail
          have hput := hown.put hO2.symm (k := m) (by omega) (jnR p x)
          rw [show O.set m (jnR p x) = M ++ [jnR p x] by rw [HO.out, HHM.out]; simp] at hput
          go_roundw
          case rel => exact ⟨k + 1, M ++ [jnR p x], by omega, by simp, jnAt_touch HX.out hI HO.out HJN.out HLO.out HIO.out HTT.out, fun h => absurd h (by omega), hput, ((((vW16.setCell (by simpa using hbg) _).setCell (by simpa using hbg) _).setCell (by simpa using hbg) _).setCell (by simpa using hbg) _)⟩
          case measure => simp [intOf]; omega
      ·
        have HTI := Lib.hid (fun h => ht (hti.1 h))
        have HTT := Lib.hid ht
        clear ht hti
        go_wp2_with fail
        clear a0 a1 a2 a3
        obtain ⟨W1, hW1⟩ : ∃ W1, W1 = wr.alloc (.cells #[.int .i8 x.a, .int .i64 x.b, .int .i8 x.c, .int .i64 x.d] 30) := ⟨_, rfl⟩
        have uW1 : Dn wr W1 := by rw [hW1]; exact (Dn.refl _).alloc _
        replace hown := hown.dn uW1
        replace hcs := hcs.dn uW1
        have c2 : W1.cell? ⟨wr.heap.size, 0, none⟩ = some (.int .i8 x.a) := by rw [hW1]; simp [go_sem]
        have c3 : W1.cell? ⟨wr.heap.size, 1, none⟩ = some (.int .i64 x.b) := by rw [hW1]; simp [go_sem]
        have c4 : W1.cell? ⟨wr.heap.size, 2, none⟩ = some (.int .i8 x.c) := by rw [hW1]; simp [go_sem]
        have c5 : W1.cell? ⟨wr.heap.size, 3, none⟩ = some (.int .i64 x.d) := by rw [hW1]; simp [go_sem]
        have l6 : wr.heap.size < W1.heap.size := by rw [hW1]; simp <;> omega
        rw [← hW1]
        clear hW1
        have vW1 := hu.trans uW1
        clear uW1 hu
        obtain ⟨qp0, qp1, qp2, qp3⟩ := hcs.el _ _ HPM.out
        simp only [Nat.zero_add] at qp0 qp1 qp2 qp3
        have qpl := hcs.lt
        go_upto_region 7 with fail
        refine region_inv (fun A l a' w' => ∃ (b0 b1 b2 b3 b4 b5 b6 b7 b8 b9 b10 b11 b12 : Bool) (x20 x21 x22 x23 x24 x25 x26 x19 x27 x28 x7 x8 : Value), l = #[b0, b1, b2, b3, b4, b5, b6, b7, b8, b9, b10, b11, b12] ∧ a' = ((((((((((((A.put (some 20) x20).put (some 21) x21).put (some 22) x22).put (some 23) x23).put (some 24) x24).put (some 25) x25).put (some 26) x26).put (some 19) x19).put (some 27) x27).put (some 28) x28).put (some 7) x7).put (some 8) x8) ∧ Dn W1 w' ∧ (b0 = true → x20 = .slice (some ⟨g, 0, none⟩) (m + 1) cap) ∧ (b1 = true → x21 = .int .i64 ((m : Int) + 1)) ∧ (b2 = true → x22 = .int .i64 (m : Int)) ∧ (b3 = true → x23 = .pointer (some ⟨g, m * 4, none⟩)) ∧ (b4 = true → x24 = .agg #[.int .i8 p.a, .int .i64 p.b, .int .i8 p.c, .int .i64 p.d]) ∧ (b5 = true → x25 = .agg #[.int .i8 x.a, .int .i64 x.b, .int .i8 x.c, .int .i64 x.d]) ∧ (b6 = true → x26 = .tuple #[.agg #[.int .i8 0, .int .i64 0, .int .i8 0, .int .i64 0], .bool false]) ∧ (b7 = true → x19 = .tuple #[.agg #[.int .i8 0, .int .i64 0, .int .i8 0, .int .i64 0], .bool false]) ∧ (b8 = true → x27 = .agg #[.int .i8 0, .int .i64 0, .int .i8 0, .int .i64 0]) ∧ (b9 = true → x28 = .bool false) ∧ (b12 = true → x8 = .bool false) ∧ (b11 = true → b10 = true) ∧ Bl W1.heap.size w' b10 b11 x7 (.int .i8 0) (.int .i64 0) (.int .i8 0) (.int .i64 0)) (by kernel_rfl) ?_ ?_ ?_
        · exact ⟨false, false, false, false, false, false, false, false, false, false, false, false, false, u20, u21, u22, u23, u24, u25, u26, u19, u27, u28, u7, u8, rfl, by simp only [Act.put, pL], (Dn.refl _).drew, (fun h => by cases h), (fun h => by cases h), (fun h => by cases h), (fun h => by cases h), (fun h => by cases h), (fun h => by cases h), (fun h => by cases h), (fun h => by cases h), (fun h => by cases h), (fun h => by cases h), (fun h => by cases h), (fun h => by cases h), Bl.no⟩
        · rintro l a' w' i ⟨b0, b1, b2, b3, b4, b5, b6, b7, b8, b9, b10, b11, b12, x20, x21, x22, x23, x24, x25, x26, x19, x27, x28, x7, x8, rfl, rfl, q, hv0, hv1, hv2, hv3, hv4, hv5, hv6, hv7, hv8, hv9, hv12, hs10, hk10⟩ hun hdep hi
          simp only [Act.put, pL]
          have hi' : i < 13 := hi
          rcases (show i = 0 ∨ i = 1 ∨ i = 2 ∨ i = 3 ∨ i = 4 ∨ i = 5 ∨ i = 6 ∨ i = 7 ∨ i = 8 ∨ i = 9 ∨ i = 10 ∨ i = 11 ∨ i = 12 by omega) with rfl | rfl | rfl | rfl | rfl | rfl | rfl | rfl | rfl | rfl | rfl | rfl | rfl
          ·
           have f0 : b0 = false := by simpa using hun
           subst f0
           refine wpOp_step rfl (fun K hK => ?_)
           replace hK := Lib.hid hK
           go_simp
           exact hK.out _ _ ⟨true, b1, b2, b3, b4, b5, b6, b7, b8, b9, b10, b11, b12, .slice (some ⟨g, 0, none⟩) (m + 1) cap, x21, x22, x23, x24, x25, x26, x19, x27, x28, x7, x8, rfl, by first | (simp only [Act.put, pL]; done) | rfl, q, fun _ => rfl, hv1, hv2, hv3, hv4, hv5, hv6, hv7, hv8, hv9, hv12, hs10, hk10⟩
          ·
           have f1 : b1 = false := by simpa using hun
           subst f1
           refine wpOp_step rfl (fun K hK => ?_)
           replace hK := Lib.hid hK
           go_simp
           exact hK.out _ _ ⟨b0, true, b2, b3, b4, b5, b6, b7, b8, b9, b10, b11, b12, x20, .int .i64 ((m : Int) + 1), x22, x23, x24, x25, x26, x19, x27, x28, x7, x8, rfl, by first | (simp only [Act.put, pL]; done) | rfl, q, hv0, fun _ => rfl, hv2, hv3, hv4, hv5, hv6, hv7, hv8, hv9, hv12, hs10, hk10⟩
          ·
           have e1 : b1 = true := hdep _ rfl ⟨1, .data⟩ (by simp) rfl
           have f2 : b2 = false := by simpa using hun
           subst f2 e1
           obtain rfl := hv1 rfl
           refine wpOp_step rfl (fun K hK => ?_)
           replace hK := Lib.hid hK
           go_simp
           exact hK.out _ _ ⟨b0, true, true, b3, b4, b5, b6, b7, b8, b9, b10, b11, b12, x20, .int .i64 ((m : Int) + 1), .int .i64 (m : Int), x23, x24, x25, x26, x19, x27, x28, x7, x8, rfl, by first | (simp only [Act.put, pL]; done) | rfl, q, hv0, fun _ => rfl, fun _ => rfl, hv3, hv4, hv5, hv6, hv7, hv8, hv9, hv12, hs10, hk10⟩
          ·
           have e0 : b0 = true := hdep _ rfl ⟨0, .data⟩ (by simp) rfl
           have e2 : b2 = true := hdep _ rfl ⟨2, .data⟩ (by simp) rfl
           have f3 : b3 = false := by simpa using hun
           subst f3 e0 e2
           obtain rfl := hv0 rfl
           obtain rfl := hv2 rfl
           refine wpOp_step rfl (fun K hK => ?_)
           replace hK := Lib.hid hK
           go_simp
           exact hK.out _ _ ⟨true, b1, true, true, b4, b5, b6, b7, b8, b9, b10, b11, b12, .slice (some ⟨g, 0, none⟩) (m + 1) cap, x21, .int .i64 (m : Int), .pointer (some ⟨g, m * 4, none⟩), x24, x25, x26, x19, x27, x28, x7, x8, rfl, by first | (simp only [Act.put, pL]; done) | rfl, q, fun _ => rfl, hv1, fun _ => rfl, fun _ => rfl, hv4, hv5, hv6, hv7, hv8, hv9, hv12, hs10, hk10⟩
          ·
           have e3 : b3 = true := hdep _ rfl ⟨3, .data⟩ (by simp) rfl
           have f4 : b4 = false := by simpa using hun
           subst f4 e3
           obtain rfl := hv3 rfl
           obtain ⟨g8, g9, g10, g11⟩ := mv4 q.cell qp0 qp1 qp2 qp3
           refine wpOp_step rfl (fun K hK => ?_)
           replace hK := Lib.hid hK
           go_simp
           exact hK.out _ _ ⟨b0, b1, b2, true, true, b5, b6, b7, b8, b9, b10, b11, b12, x20, x21, x22, .pointer (some ⟨g, m * 4, none⟩), .agg #[.int .i8 p.a, .int .i64 p.b, .int .i8 p.c, .int .i64 p.d], x25, x26, x19, x27, x28, x7, x8, rfl, by first | (simp only [Act.put, pL]; done) | rfl, q, hv0, hv1, hv2, fun _ => rfl, fun _ => rfl, hv5, hv6, hv7, hv8, hv9, hv12, hs10, hk10⟩
          ·
           have f5 : b5 = false := by simpa using hun
           subst f5
           obtain ⟨g12, g13, g14, g15⟩ := mv4 q.cell c2 c3 c4 c5
           refine wpOp_step rfl (fun K hK => ?_)
           replace hK := Lib.hid hK
           go_simp
           exact hK.out _ _ ⟨b0, b1, b2, b3, b4, true, b6, b7, b8, b9, b10, b11, b12, x20, x21, x22, x23, x24, .agg #[.int .i8 x.a, .int .i64 x.b, .int .i8 x.c, .int .i64 x.d], x26, x19, x27, x28, x7, x8, rfl, by first | (simp only [Act.put, pL]; done) | rfl, q, hv0, hv1, hv2, hv3, hv4, fun _ => rfl, hv6, hv7, hv8, hv9, hv12, hs10, hk10⟩
          ·
           have e4 : b4 = true := hdep _ rfl ⟨4, .data⟩ (by simp) rfl
           have e5 : b5 = true := hdep _ rfl ⟨5, .data⟩ (by simp) rfl
           have f6 : b6 = false := by simpa using hun
           subst f6 e4 e5
           obtain rfl := hv4 rfl
           obtain rfl := hv5 rfl
           refine wpOp_step rfl (fun K hK => ?_)
           replace hK := Lib.hid hK
           go_simp
           go_at_call 117
           refine (HT.out _ _ _ _ _ _ (Or.inr ⟨HTI.out, rfl, rfl, rfl, rfl, rfl⟩)).mono ?_
           rintro e wa ⟨rfl, qa⟩
           try go_wp2_with fail
           exact hK.out _ _ ⟨b0, b1, b2, b3, true, true, true, b7, b8, b9, b10, b11, b12, x20, x21, x22, x23, .agg #[.int .i8 p.a, .int .i64 p.b, .int .i8 p.c, .int .i64 p.d], .agg #[.int .i8 x.a, .int .i64 x.b, .int .i8 x.c, .int .i64 x.d], .tuple #[.agg #[.int .i8 0, .int .i64 0, .int .i8 0, .int .i64 0], .bool false], x19, x27, x28, x7, x8, rfl, by first | (simp only [Act.put, pL]; done) | rfl, q.trans qa, hv0, hv1, hv2, hv3, fun _ => rfl, fun _ => rfl, fun _ => rfl, hv7, hv8, hv9, hv12, hs10, hk10.dn qa⟩
          ·
           have e6 : b6 = true := hdep _ rfl ⟨6, .data⟩ (by simp) rfl
           have f7 : b7 = false := by simpa using hun
           subst f7 e6
           obtain rfl := hv6 rfl
           refine wpOp_step rfl (fun K hK => ?_)
           replace hK := Lib.hid hK
           go_simp
           exact hK.out _ _ ⟨b0, b1, b2, b3, b4, b5, true, true, b8, b9, b10, b11, b12, x20, x21, x22, x23, x24, x25, .tuple #[.agg #[.int .i8 0, .int .i64 0, .int .i8 0, .int .i64 0], .bool false], .tuple #[.agg #[.int .i8 0, .int .i64 0, .int .i8 0, .int .i64 0], .bool false], x27, x28, x7, x8, rfl, by first | (simp only [Act.put, pL]; done) | rfl, q, hv0, hv1, hv2, hv3, hv4, hv5, fun _ => rfl, fun _ => rfl, hv8, hv9, hv12, hs10, hk10⟩
          ·
           have e7 : b7 = true := hdep _ rfl ⟨7, .data⟩ (by simp) rfl
           have f8 : b8 = false := by simpa using hun
           subst f8 e7
           obtain rfl := hv7 rfl
           refine wpOp_step rfl (fun K hK => ?_)
           replace hK := Lib.hid hK
           go_simp
           exact hK.out _ _ ⟨b0, b1, b2, b3, b4, b5, b6, true, true, b9, b10, b11, b12, x20, x21, x22, x23, x24, x25, x26, .tuple #[.agg #[.int .i8 0, .int .i64 0, .int .i8 0, .int .i64 0], .bool false], .agg #[.int .i8 0, .int .i64 0, .int .i8 0, .int .i64 0], x28, x7, x8, rfl, by first | (simp only [Act.put, pL]; done) | rfl, q, hv0, hv1, hv2, hv3, hv4, hv5, hv6, fun _ => rfl, fun _ => rfl, hv9, hv12, hs10, hk10⟩
          ·
           have e7 : b7 = true := hdep _ rfl ⟨7, .data⟩ (by simp) rfl
           have f9 : b9 = false := by simpa using hun
           subst f9 e7
           obtain rfl := hv7 rfl
           refine wpOp_step rfl (fun K hK => ?_)
           replace hK := Lib.hid hK
           go_simp
           exact hK.out _ _ ⟨b0, b1, b2, b3, b4, b5, b6, true, b8, true, b10, b11, b12, x20, x21, x22, x23, x24, x25, x26, .tuple #[.agg #[.int .i8 0, .int .i64 0, .int .i8 0, .int .i64 0], .bool false], x27, .bool false, x7, x8, rfl, by first | (simp only [Act.put, pL]; done) | rfl, q, hv0, hv1, hv2, hv3, hv4, hv5, hv6, fun _ => rfl, hv8, fun _ => rfl, hv12, hs10, hk10⟩
          ·
           have f10 : b10 = false := by simpa using hun
           subst f10
           obtain rfl : b11 = false := by
             cases b11 with
             | false => rfl
             | true => exact absurd (hs10 rfl) (by simp)
           refine wpOp_step rfl (fun K hK => ?_)
           replace hK := Lib.hid hK
           go_simp
           exact hK.out _ _ ⟨b0, b1, b2, b3, b4, b5, b6, b7, b8, b9, true, false, b12, x20, x21, x22, x23, x24, x25, x26, x19, x27, x28, .pointer (some ⟨w'.heap.size, 0, none⟩), x8, rfl, by first | (simp only [Act.put, pL]; done) | rfl, q.alloc _, hv0, hv1, hv2, hv3, hv4, hv5, hv6, hv7, hv8, hv9, hv12, fun _ => rfl, Bl.new q.size _⟩
          ·
           have e10 : b10 = true := hdep _ rfl ⟨10, .data⟩ (by simp) rfl
           have e8 : b8 = true := hdep _ rfl ⟨8, .data⟩ (by simp) rfl
           have f11 : b11 = false := by simpa using hun
           subst f11 e10 e8
           obtain rfl := hv8 rfl
           obtain ⟨B, rfl, hL, hz, _⟩ := hk10 rfl
           have hB := hz rfl
           have z0 := hB.c0
           have y0 := hB.f0
           have z1 := hB.c1
           have y1 := hB.f1
           have z2 := hB.c2
           have y2 := hB.f2
           have z3 := hB.c3
           have y3 := hB.f3
           have zl := hB.lt
           refine wpOp_step rfl (fun K hK => ?_)
           replace hK := Lib.hid hK
           go_simp
           exact hK.out _ _ ⟨b0, b1, b2, b3, b4, b5, b6, b7, true, b9, true, true, b12, x20, x21, x22, x23, x24, x25, x26, x19, .agg #[.int .i8 0, .int .i64 0, .int .i8 0, .int .i64 0], x28, .pointer (some ⟨B, 0, none⟩), x8, rfl, by first | (simp only [Act.put, pL]; done) | rfl, (Dn.setCell (Dn.setCell (Dn.setCell (Dn.setCell q (by simpa using hL) _) (by simpa using hL) _) (by simpa using hL) _) (by simpa using hL) _), hv0, hv1, hv2, hv3, hv4, hv5, hv6, hv7, fun _ => rfl, hv9, hv12, fun _ => rfl, fun _ => ⟨B, rfl, hL, (fun k => by cases k), fun _ => hB.fill _ _ _ _⟩⟩
          ·
           have e9 : b9 = true := hdep _ rfl ⟨9, .data⟩ (by simp) rfl
           have f12 : b12 = false := by simpa using hun
           subst f12 e9
           obtain rfl := hv9 rfl
           refine wpOp_step rfl (fun K hK => ?_)
           replace hK := Lib.hid hK
           go_simp
           exact hK.out _ _ ⟨b0, b1, b2, b3, b4, b5, b6, b7, b8, true, b10, b11, true, x20, x21, x22, x23, x24, x25, x26, x19, x27, .bool false, x7, .bool false, rfl, by first | (simp only [Act.put, pL]; done) | rfl, q, hv0, hv1, hv2, hv3, hv4, hv5, hv6, hv7, hv8, fun _ => rfl, fun _ => rfl, hs10, hk10⟩
        · rintro l a' W16 ⟨b0, b1, b2, b3, b4, b5, b6, b7, b8, b9, b10, b11, b12, x20, x21, x22, x23, x24, x25, x26, x19, x27, x28, x7, x8, rfl, rfl, qW16, hv0, hv1, hv2, hv3, hv4, hv5, hv6, hv7, hv8, hv9, hv12, hs10, hk10⟩ hall
          obtain rfl : b0 = true := by
           cases b0 with
           | true => rfl
           | false => exact absurd (by intro e he hb; simp at he <;> (repeat' (rcases he with rfl | he)) <;> first | rfl | exact absurd hb (by decide)) (hall 0 _ rfl rfl)
          obtain rfl : b1 = true := by
           cases b1 with
           | true => rfl
           | false => exact absurd (by intro e he hb; simp at he <;> (repeat' (rcases he with rfl | he)) <;> first | rfl | exact absurd hb (by decide)) (hall 1 _ rfl rfl)
          obtain rfl : b2 = true := by
           cases b2 with
           | true => rfl
           | false => exact absurd (by intro e he hb; simp at he <;> (repeat' (rcases he with rfl | he)) <;> first | rfl | exact absurd hb (by decide)) (hall 2 _ rfl rfl)
          obtain rfl : b3 = true := by
           cases b3 with
           | true => rfl
           | false => exact absurd (by intro e he hb; simp at he <;> (repeat' (rcases he with rfl | he)) <;> first | rfl | exact absurd hb (by decide)) (hall 3 _ rfl rfl)
          obtain rfl : b4 = true := by
           cases b4 with
           | true => rfl
           | false => exact absurd (by intro e he hb; simp at he <;> (repeat' (rcases he with rfl | he)) <;> first | rfl | exact absurd hb (by decide)) (hall 4 _ rfl rfl)
          obtain rfl : b5 = true := by
           cases b5 with
           | true => rfl
           | false => exact absurd (by intro e he hb; simp at he <;> (repeat' (rcases he with rfl | he)) <;> first | rfl | exact absurd hb (by decide)) (hall 5 _ rfl rfl)
          obtain rfl : b6 = true := by
           cases b6 with
           | true => rfl
           | false => exact absurd (by intro e he hb; simp at he <;> (repeat' (rcases he with rfl | he)) <;> first | rfl | exact absurd hb (by decide)) (hall 6 _ rfl rfl)
          obtain rfl : b7 = true := by
           cases b7 with
           | true => rfl
           | false => exact absurd (by intro e he hb; simp at he <;> (repeat' (rcases he with rfl | he)) <;> first | rfl | exact absurd hb (by decide)) (hall 7 _ rfl rfl)
          obtain rfl : b8 = true := by
           cases b8 with
           | true => rfl
           | false => exact absurd (by intro e he hb; simp at he <;> (repeat' (rcases he with rfl | he)) <;> first | rfl | exact absurd hb (by decide)) (hall 8 _ rfl rfl)
          obtain rfl : b9 = true := by
           cases b9 with
           | true => rfl
           | false => exact absurd (by intro e he hb; simp at he <;> (repeat' (rcases he with rfl | he)) <;> first | rfl | exact absurd hb (by decide)) (hall 9 _ rfl rfl)
          obtain rfl : b10 = true := by
           cases b10 with
           | true => rfl
           | false => exact absurd (by intro e he hb; simp at he <;> (repeat' (rcases he with rfl | he)) <;> first | rfl | exact absurd hb (by decide)) (hall 10 _ rfl rfl)
          obtain rfl : b11 = true := by
           cases b11 with
           | true => rfl
           | false => exact absurd (by intro e he hb; simp at he <;> (repeat' (rcases he with rfl | he)) <;> first | rfl | exact absurd hb (by decide)) (hall 11 _ rfl rfl)
          obtain rfl : b12 = true := by
           cases b12 with
           | true => rfl
           | false => exact absurd (by intro e he hb; simp at he <;> (repeat' (rcases he with rfl | he)) <;> first | rfl | exact absurd hb (by decide)) (hall 12 _ rfl rfl)
          obtain rfl := hv0 rfl
          obtain rfl := hv1 rfl
          obtain rfl := hv2 rfl
          obtain rfl := hv3 rfl
          obtain rfl := hv4 rfl
          obtain rfl := hv5 rfl
          obtain rfl := hv6 rfl
          obtain rfl := hv7 rfl
          obtain rfl := hv8 rfl
          obtain rfl := hv9 rfl
          obtain rfl := hv12 rfl
          obtain ⟨Bt7, rfl, ot7, _, gt7⟩ := hk10 rfl
          obtain ⟨t7c0, t7c1, t7c2, t7c3, t7f0, t7f1, t7f2, t7f3, lt7⟩ := gt7 rfl
          clear gt7
          replace hown := hown.dn qW16
          replace hcs := hcs.dn qW16
          have a4 := nlt l6 qW16.size
          have a9 := nlt qpl qW16.size
          obtain ⟨a5, a6, a7, a8, aA, aB, aC, aD⟩ := mv8 qW16.cell c2 c3 c4 c5 qp0 qp1 qp2 qp3
          clear l6 c2 c3 c4 c5 qpl qp0 qp1 qp2 qp3
          clear t7f0 t7f1 t7f2 t7f3
          have vW16 := vW1.trans qW16
          clear hv0 hv1 hv2 hv3 hv4 hv5 hv6 hv7 hv8 hv9 hv12 hs10 hk10 ot7 hall
          simp only [Act.put, pL]
          go_wp2_with (at_builtin; go_loud (refine list_run rfl _ _ rfl W16 w.heap.size (.slice (some ⟨g, 0, none⟩) (m + 1) cap) (O) x.a x.b x.c x.d rfl hown rfl (by omega) vW16.size ?_))
          intro v' w' hown' hold hdn
          replace hdn := hdn w vW16 rfl
          clear hold hcs hown
          go_wp2_with fail
          go_roundw
          case rel => exact ⟨k + 1, O ++ [x], by omega, by simp, jnAt_no HX.out hI HO.out HJN.out HLO.out HIO.out HTT.out, fun h => absurd h (by omega), hown', hdn⟩
          case measure => simp [intOf]; omega
  · obtain rfl : k = L.length := by omega
    have c1 : decide ((L.length : Int) < L.length) = false := by simp
    have hend := jnAt_end hj
    subst hend
    rcases hown.form with ⟨rfl, e⟩ | ⟨g, cap, rfl, hbg, hcap, hmx, hcs⟩
    · have HEE := Lib.hid e
      clear e
      go_wp2_with fail
      go_ret
      exact ⟨none, by rw [HEE.out]; rfl, by rw [HEE.out]; exact Row.nil _ _, hu⟩
    · have hcI : ((joinedL L).length : Int) ≤ cap := by omega
      go_wp2_with fail
      go_ret
      exact ⟨_, rfl, hcs.row, hu⟩
theorem both_zero {a b : List Rq} (h : bothL a b = 0) : chkL a = 0 ∧ chkL b = 0 := by
 unfold bothL at h; split at h
 · next h0 => exact ⟨h0, h⟩
 · next h0 => exact absurd h h0
theorem chk_len {a : List Rq} (h : chkL a = 0) : a.length ≤ 4096 := by
 unfold chkL at h; split at h
 · cases h
 · omega
instance decWtP (a b : List Rq) : Decidable (WtP a b) := by unfold WtP; infer_instance
instance decHasL (l : List Rq) (k : Int) : Decidable (HasL l k) := by unfold HasL; infer_instance
set_option maxHeartbeats 4000000
set_option maxRecDepth 100000
theorem Cs.tail {w : World} {g o : Nat} {y : Rq} {t : List Rq} (h : Cs w g o (y :: t)) : Cs w g (o + 4) t := ⟨h.lt, fun k x hx => by
 obtain ⟨h0, h1, h2, h3⟩ := h.el (k + 1) x (by simpa using hx)
 have e : o + (k + 1) * 4 = o + 4 + k * 4 := by omega
 rw [e] at h0 h1 h2 h3
 exact ⟨h0, h1, h2, h3⟩⟩
theorem Cs.head {w : World} {g o : Nat} {y : Rq} {t : List Rq} (h : Cs w g o (y :: t)) : w.cell? ⟨g, o, none⟩ = some (.int .i8 y.a) ∧ w.cell? ⟨g, o + 1, none⟩ = some (.int .i64 y.b) ∧ w.cell? ⟨g, o + 2, none⟩ = some (.int .i8 y.c) ∧ w.cell? ⟨g, o + 3, none⟩ = some (.int .i64 y.d) := by
 have := h.el 0 y rfl
 simpa [El] using this
def infB (x : Rq) : Bool := decide (x.a ≠ 0 ∨ x.c ≠ 0)
theorem rsCount1 (x : Rq) (w : World) :
   Calls Tryz.prog 98 #[.agg #[.int .i8 x.a, .int .i64 x.b, .int .i8 x.c, .int .i64 x.d]] w fun ro w' => ro = .returned (.bool (infB x)) ∧ Dn w w' := by
 by_cases ha : x.a = 0
 · by_cases hc : x.c = 0
   ·
    have e0 : infB x = false := by unfold infB; simp [ha, hc]
    have d0 : (x.a != 0) = false := by simp [ha]
    have d1 : (x.c != 0) = false := by simp [hc]
    rw [e0]
    clear e0 ha hc
    go_enter Tryz.func98, Tryz.ntmps98
    go_wp2_with fail
    go_ret
    exact ⟨rfl, (Dn.refl _).alloc _⟩
   ·
    have e0 : infB x = true := by unfold infB; simp [hc]
    have d0 : (x.a != 0) = false := by simp [ha]
    have d1 : (x.c != 0) = true := by simpa using hc
    rw [e0]
    clear e0 ha hc
    go_enter Tryz.func98, Tryz.ntmps98
    go_wp2_with fail
    go_ret
    exact ⟨rfl, (Dn.refl _).alloc _⟩
 ·
   have e0 : infB x = true := by unfold infB; simp [ha]
   have d0 : (x.a != 0) = true := by simpa using ha
   rw [e0]
   clear e0 ha
   go_enter Tryz.func98, Tryz.ntmps98
   go_wp2_with fail
   go_ret
   exact ⟨rfl, (Dn.refl _).alloc _⟩
theorem slIdxC (p : Option Addr) (cap : Nat) (L : List Rq) (w : World) (hl : L.length ≤ 1000000) (hR : Row w p L) :
  Calls Tryz.prog 136 #[.slice p L.length cap, .func (.func 98) #[] #[]] w fun ro w' => ∃ i : Int, ro = .returned (.int .i64 i) ∧ (0 ≤ i ↔ L.any (infB) = true) ∧ Dn w w' := by
 go_enter Tryz.func136, Tryz.ntmps136
 go_wp2_with fail
 go_loopw [4, 8] (fun rv iv wr => rv = .int .i64 0 ∧ ∃ k : Nat, k ≤ L.length ∧ iv = .int .i64 k ∧ (L.take k).any (infB) = false ∧ Dn w wr) (fun _ iv _ => L.length - (intOf iv).toNat)
 case atStart => exact ⟨rfl, 0, by omega, rfl, rfl, Dn.refl _⟩
 case round =>
  obtain ⟨rfl, k, hk, rfl, hn, hu⟩ := hrel
  have HN := Lib.hid hn
  clear hn
  by_cases hlt : k < L.length
  · have d1 : decide ((k : Int) < L.length) = true := by simp; omega
    obtain ⟨x, hx⟩ : ∃ x, L[k]? = some x := ⟨L[k], by simp [hlt]⟩
    obtain ⟨g, o, rfl, hc⟩ := hR.cs (by omega)
    have HX := Lib.hid hx
    obtain ⟨a0, a1, a2, a3⟩ := (hc.dn hu).el _ _ hx
    have HP := Lib.hid (fun W (h : Dn w W) => rsCount1 x W)
    have hat : (L.take (k + 1)).any (infB) = ((L.take k).any (infB) || (infB) x) := by rw [take_at hx, List.any_append]; simp
    rw [HN.out, Bool.false_or] at hat
    have HAT := Lib.hid hat
    have hall : L.any (infB) = true ∨ (infB) x = false := by
      cases h : (infB) x with
      | false => exact .inr rfl
      | true => left; rw [List.any_eq_true]; exact ⟨x, List.mem_of_getElem? hx, h⟩
    have HALL := Lib.hid hall
    clear hx hc hR hat hall
    generalize (infB) x = m at *
    cases m
    · go_wp2_with fail
      refine (HP.out _ hu).mono ?_
      rintro e w1 ⟨rfl, q1⟩
      go_wp2_with fail
      go_roundw
      case rel => exact ⟨rfl, k + 1, by omega, by simp, HAT.out, hu.trans q1⟩
      case measure => simp [intOf]; omega
    · go_wp2_with fail
      refine (HP.out _ hu).mono ?_
      rintro e w1 ⟨rfl, q1⟩
      go_wp2_with fail
      go_ret
      exact ⟨k, rfl, by have := HALL.out; simp at this; simp [this], hu.trans q1⟩
  · obtain rfl : k = L.length := by omega
    have d1 : decide ((L.length : Int) < L.length) = false := by simp
    go_wp2_with fail
    go_ret
    exact ⟨-1, rfl, by have := HN.out; rw [List.take_length] at this; rw [this]; simp, hu⟩
theorem slContC (p : Option Addr) (cap : Nat) (L : List Rq) (w : World) (hl : L.length ≤ 1000000) (hR : Row w p L) :
  Calls Tryz.prog 97 #[.slice p L.length cap, .func (.func 98) #[] #[]] w fun ro w' => ro = .returned (.bool (L.any (infB))) ∧ Dn w w' := by
 have HS := Lib.hid (slIdxC p cap L  w hl hR )
 go_enter Tryz.func97, Tryz.ntmps97
 go_wp2_with fail
 refine HS.out.mono ?_
 rintro e w1 ⟨i, rfl, hi, q1⟩
 have HI2 := Lib.hid hi
 clear hi
 go_wp2_with fail
 go_ret
 exact ⟨retb (by rw [Bool.eq_iff_iff, decide_eq_true_iff]; exact HI2.out), q1⟩
end Go.Proofs.YteodjglbpfmikaaGreatDoor
