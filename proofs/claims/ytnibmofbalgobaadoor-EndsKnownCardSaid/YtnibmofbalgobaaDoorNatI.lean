/-
  WALKS OF circaref01: Mul. (Printed by wip/gen/natI.py.)
-/
import Derived.Test.YtnibmofbalgobaaDoorNatH
import Derived.Laws.MakeOwn
import Derived.IntWalk
namespace Go.Proofs.YtnibmofbalgobaaDoor
open Go.RowKit
/-- What holds at the head of Mul's loops: the row at g, the variable 'out' at Bo. -/
structure MulRel (w : World) (ba bb nb : Bool) (sa sb : Value) (g Bo N : Nat) (wr : World) (O : List Int) : Prop where
  own : wr.ownsRow 0 5 1 (.slice (some ⟨g, 0, none⟩) N N) N (O.map (Value.int .u8))
  a : NBlk wr w.heap.size ba sa
  b : NBlk wr (w.heap.size + 1) bb sb
  r : NBlk wr (w.heap.size + 1 + 1) false (.slice none 0 0)
  o : NBlk wr Bo nb (.slice (some ⟨g, 0, none⟩) N N)
  dn : Dn w wr
  hg : w.heap.size + 1 + 1 < g
  hne : g ≠ Bo
  ho : w.heap.size + 1 + 1 < Bo
  len : O.length = N
theorem MulRel.set {w : World} {ba bb nb : Bool} {sa sb : Value} {g Bo N : Nat} {wr : World} {O : List Int} (h : MulRel w ba bb nb sa sb g Bo N wr O) (j : Nat) (d : Int) :
    MulRel w ba bb nb sa sb g Bo N (wr.setCell ⟨g, j, none⟩ (.int .u8 d)) (O.set j d) := by
  have h1 := h.hg
  have h2 := h.hne
  refine ⟨?_, h.a.far (by simp; omega) _, h.b.far (by simp; omega) _, h.r.far (by simp; omega) _, h.o.far (by simpa using h2) _, h.dn.setCell (by simp; omega) _, h.hg, h.hne, h.ho, by rw [List.length_set]; exact h.len⟩
  have := (h.own.stored j (.int .u8 d)).1
  rwa [← List.map_set] at this
theorem MulRel.drewN {w : World} {ba bb nb : Bool} {sa sb : Value} {g Bo N : Nat} {wr : World} {O : List Int} (h : MulRel w ba bb nb sa sb g Bo N wr O) (n : Nat) : MulRel w ba bb nb sa sb g Bo N (wr.drewN n) O :=
  ⟨h.own, h.a.drewN n, h.b.drewN n, h.r.drewN n, h.o.drewN n, h.dn.drewN n, h.hg, h.hne, h.ho, h.len⟩
theorem MulRel.cell {w : World} {ba bb nb : Bool} {sa sb : Value} {g Bo N : Nat} {wr : World} {O : List Int} (h : MulRel w ba bb nb sa sb g Bo N wr O) (j : Nat) (hj : j < N) :
    wr.cell? ⟨g, j, none⟩ = some (.int .u8 (Dg.dig O j)) ∧ wr.frozen? ⟨g, j, none⟩ = false := by
  refine ⟨?_, h.own.frozenAt j⟩
  rw [h.own.cellAt j (by omega), List.getElem?_map, Dg.dig_some (by rw [h.len]; exact hj)]
  rfl
theorem MulRel.sl {w : World} {ba bb nb : Bool} {sa sb : Value} {g Bo N : Nat} {wr : World} {O : List Int} (h : MulRel w ba bb nb sa sb g Bo N wr O) : SlD wr (.slice (some ⟨g, 0, none⟩) N N) O :=
  SlD.of_own h.own h.len.symm
theorem val_zeros (n : Nat) : Dg.val (List.replicate n 0) = 0 ∧ Dg.Digs (List.replicate n 0) ∧ ∀ j, Dg.dig (List.replicate n 0) j = 0 := by
  refine ⟨?_, ?_, ?_⟩
  · induction n with
    | zero => rfl
    | succ n ih => rw [List.replicate_succ, Dg.val, ih]; rfl
  · intro d hd
    have := List.eq_of_mem_replicate hd
    omega
  · intro j
    unfold Dg.dig
    simp only [List.getD, List.getElem?_replicate]
    split <;> rfl
theorem run_mk (N : Nat) (hN : N ≤ 1000000) (w : World) : (Instr.makeSlice 22 (.int .i64 (N : Int)) (.int .i64 (N : Int))).run Tryd.prog w = .ok (.slice (some ⟨w.heap.size, 0, none⟩) N N) (w.alloc (.cells (madeCells #[.int .u8 0] N) 5)) := by
  obtain ⟨i0, hi, hz0, hz1, hz2⟩ := info_parts infoU8
  have h := run_make (P := Tryd.prog) w 22 5 i0 (.int .u8 0) Tryd.underlying22 hi hz0 .i64 .i64 N N (by omega) (by omega) (by rw [hz2]; omega) (by omega)
  rw [hz1] at h
  simpa [Value.cells] using h
theorem own_made (w : World) (N : Nat) (hN : N ≤ 1000000) : (w.alloc (.cells (madeCells #[.int .u8 0] N) 5)).ownsRow 0 5 1 (.slice (some ⟨w.heap.size, 0, none⟩) N N) N ((List.replicate N (0 : Int)).map (Value.int .u8)) := by
  have h := World.ownsRow_lit (base := 0) (e := 5) (size := 1) w (madeCells #[.int .u8 0] N) N (Nat.zero_le _) (by unfold maxLen; omega) (by rw [size_madeCells]; omega)
  rw [toList_madeCells_one] at h
  simpa using h
/-- What Mul's loop over the first number's digits knows. -/
structure OutRel (la lb : List Int) (i : Nat) (O : List Int) : Prop where
  dg : Dg.Digs O
  val : Dg.val O = Dg.val (la.take i) * Dg.val lb
  z : ∀ j, i + lb.length ≤ j → Dg.dig O j = 0
  len : O.length = la.length + lb.length + 1
theorem OutRel.start (la lb : List Int) : OutRel la lb 0 (List.replicate (la.length + lb.length + 1) 0) :=
  ⟨(val_zeros _).2.1, by rw [(val_zeros _).1]; simp [Dg.val], fun j _ => (val_zeros _).2.2 j, by simp⟩
theorem OutRel.next {la lb : List Int} {i k : Nat} {O : List Int} (h : OutRel la lb i O) (ha : Dg.Digs la) (hb : Dg.Digs lb) (hi : i < la.length) (h1 : lb.length ≤ k) (h2 : k ≤ lb.length + 1) (hc : (Dg.rowS O (Dg.dig la i) lb i k).2 = 0) : OutRel la lb (i + 1) (Dg.rowS O (Dg.dig la i) lb i k).1 := by
  obtain ⟨g1, g2, _⟩ := Dg.rowS_inv h.dg (Dg.dig_bd ha i) hb i k (by rw [h.len]; omega)
  obtain ⟨f1, f2⟩ := Dg.rowS_fin h.dg ha hb i k hi h.len h.z h.val h1 h2 hc
  exact ⟨g2, f2, f1, by rw [g1]; exact h.len⟩
theorem sg_mul (x y : Int) : sg (decide (x < 0) != decide (y < 0)) (Dg.val (Dg.dl x.natAbs) * Dg.val (Dg.dl y.natAbs)) = x * y := by
  rw [Dg.dl_val, Dg.dl_val]
  have e : ∀ z : Int, z = (if z < 0 then -(z.natAbs : Int) else (z.natAbs : Int)) := fun z => by split <;> omega
  unfold sg
  by_cases h1 : x < 0 <;> by_cases h2 : y < 0
  all_goals
    have ex := e x
    have ey := e y
    simp only [h1, h2, if_true, if_false] at ex ey
    simp [h1, h2]
    rw [ex, ey]
    simp [Int.neg_mul, Int.mul_neg]
theorem MulRel.start1 {w W : World} {ba bb nb : Bool} {sa sb : Value} {N : Nat} (n0 : NBlk W w.heap.size ba sa) (n1 : NBlk W (w.heap.size + 1) bb sb) (n2 : NBlk W (w.heap.size + 1 + 1) false (.slice none 0 0)) (hz : W.heap.size = w.heap.size + 1 + 1 + 1) (u : Dn w W) (hN : N ≤ 1000000) :
    MulRel w ba bb nb sa sb W.heap.size (W.heap.size + 1) N (((W.alloc (.cells (madeCells #[.int .u8 0] N) 5)).alloc (.cells #[.bool nb, .slice (some ⟨W.heap.size, 0, none⟩) N N] 24)).drew) (List.replicate N 0) :=
  ⟨((own_made W N hN).alloc _), (((n0.alloc _).alloc _).drewN 1), (((n1.alloc _).alloc _).drewN 1), (((n2.alloc _).alloc _).drewN 1), ((NBlk.new1 _ _ _ _ _).drewN 1), (((u.alloc _).alloc _).drewN 1), by omega, by omega, by omega, by simp⟩
theorem MulRel.start2 {w W : World} {ba bb nb : Bool} {sa sb : Value} {N : Nat} (n0 : NBlk W w.heap.size ba sa) (n1 : NBlk W (w.heap.size + 1) bb sb) (n2 : NBlk W (w.heap.size + 1 + 1) false (.slice none 0 0)) (hz : W.heap.size = w.heap.size + 1 + 1 + 1) (u : Dn w W) (hN : N ≤ 1000000) :
    MulRel w ba bb nb sa sb (W.heap.size + 1) W.heap.size N (((W.alloc (.cells #[.bool nb, .slice (some ⟨W.heap.size + 1, 0, none⟩) N N] 24)).alloc (.cells (madeCells #[.int .u8 0] N) 5)).drew) (List.replicate N 0) := by
  have h := own_made (W.alloc (.cells #[.bool nb, .slice (some ⟨W.heap.size + 1, 0, none⟩) N N] 24)) N hN
  rw [show (W.alloc (.cells #[.bool nb, .slice (some ⟨W.heap.size + 1, 0, none⟩) N N] 24)).heap.size = W.heap.size + 1 by simp] at h
  exact ⟨h, (((n0.alloc _).alloc _).drewN 1), (((n1.alloc _).alloc _).drewN 1), (((n2.alloc _).alloc _).drewN 1), (((NBlk.new _ _ _ _).alloc _).drewN 1), (((u.alloc _).alloc _).drewN 1), by omega, by omega, by omega, by simp⟩
set_option maxHeartbeats 16000000 in
set_option maxRecDepth 10000 in
theorem rMul (va vb : Value) (x y : Int) (w : World) (hva : IsN w va x) (hvb : IsN w vb y) (hx : (Dg.dl x.natAbs).length ≤ 1000) (hy : (Dg.dl y.natAbs).length ≤ 1000) :
    Calls Tryd.prog 26 #[va, vb] w (NewN w (x * y)) := by
  obtain ⟨p, n, cap, rfl, hsa⟩ := hva.form
  obtain ⟨q, n', cap', rfl, hsb⟩ := hvb.form
  have hda := Dg.dl_digs x.natAbs
  have hdb := Dg.dl_digs y.natAbs
  rw [← sg_mul x y]
  clear hva hvb
  generalize decide (x < 0) = ba at *
  generalize decide (y < 0) = bb at *
  generalize Dg.dl x.natAbs = la at *
  generalize Dg.dl y.natAbs = lb at *
  generalize hnb : (ba != bb) = nb at *
  obtain ⟨rfl, l1⟩ := hsa.len
  obtain ⟨rfl, l2⟩ := hsb.len
  have HSA := Lib.hid hsa
  have HSB := Lib.hid hsb
  have HDA := Lib.hid hda
  have HDB := Lib.hid hdb
  obtain ⟨N, hN⟩ : ∃ N, N = la.length + lb.length + 1 := ⟨_, rfl⟩
  have hmk : ∀ w : World, (Instr.makeSlice 22 (.int .i64 ((la.length : Int) + lb.length + 1)) (.int .i64 ((la.length : Int) + lb.length + 1))).run Tryd.prog w = .ok (.slice (some ⟨w.heap.size, 0, none⟩) N N) (w.alloc (.cells (madeCells #[.int .u8 0] N) 5)) := by
    intro w
    have h := run_mk N (by omega) w
    rw [show ((N : Nat) : Int) = (la.length : Int) + lb.length + 1 by omega] at h
    exact h
  generalize hZC : madeCells #[.int .u8 0] N = ZC at *
  have HZC := Lib.hid hZC
  obtain ⟨W, hW⟩ : ∃ W, W = ((w.alloc (.cells #[.bool ba, .slice p la.length cap] 24)).alloc (.cells #[.bool bb, .slice q lb.length cap'] 24)).alloc (.cells #[.bool false, .slice none 0 0] 24) := ⟨_, rfl⟩
  have n0 : NBlk W w.heap.size ba (.slice p la.length cap) := by rw [hW]; exact ((NBlk.new _ _ _ _).alloc _).alloc _
  have n1 : NBlk W (w.heap.size + 1) bb (.slice q lb.length cap') := by rw [hW]; exact (NBlk.new1 _ _ _ _ _).alloc _
  have n2 : NBlk W (w.heap.size + 1 + 1) false (.slice none 0 0) := by rw [hW]; exact NBlk.new2 _ _ _ _ _ _
  have u : Dn w W := by rw [hW]; exact (((Dn.refl _).alloc _).alloc _).alloc _
  have HZ := Lib.hid (show W.heap.size = w.heap.size + 1 + 1 + 1 by rw [hW]; simp)
  have HW := Lib.hid hW
  have U := Lib.hid u
  have N0 := Lib.hid n0
  have N1 := Lib.hid n1
  have N2 := Lib.hid n2
  have HN := Lib.hid hN
  have HNB := Lib.hid hnb
  obtain ⟨a0, a1, _, _, al⟩ := n0
  obtain ⟨b0, b1, _, _, bl⟩ := n1
  clear hW hsa hsb hda hdb u n2 hN hZC
  go_enter Tryd.func26, Tryd.ntmps26
  go_wp2_with fail
  rw [← HW.out]
  clear HW
  have hw1 : IntKind.i64.wrap ((la.length : Int) + lb.length) = (la.length : Int) + lb.length := IntWalk.i64_in _ (by omega)
  have hw2 : IntKind.i64.wrap ((la.length : Int) + lb.length + 1) = (la.length : Int) + lb.length + 1 := IntWalk.i64_in _ (by omega)
  have hb1 : (!ba == bb) = nb := by rw [← HNB.out]; cases ba <;> cases bb <;> rfl
  have hS : Dn W W ∧ W.cell? ⟨w.heap.size, 0, none⟩ = some (.bool ba) ∧ W.cell? ⟨w.heap.size, 1, none⟩ = some (.slice p la.length cap) ∧ W.cell? ⟨w.heap.size + 1, 0, none⟩ = some (.bool bb) ∧ W.cell? ⟨w.heap.size + 1, 1, none⟩ = some (.slice q lb.length cap') := ⟨Dn.refl _, a0, a1, b0, b1⟩
  go_region_held3 (fun w' => Dn W w' ∧ w'.cell? ⟨w.heap.size, 0, none⟩ = some (.bool ba) ∧ w'.cell? ⟨w.heap.size, 1, none⟩ = some (.slice p la.length cap) ∧ w'.cell? ⟨w.heap.size + 1, 0, none⟩ = some (.bool bb) ∧ w'.cell? ⟨w.heap.size + 1, 1, none⟩ = some (.slice q lb.length cap'))
    (first | exact kd4 hS ((Dn.refl _).drew) | exact kd4 hS (((Dn.refl _).alloc _).drew) | exact kd4 hS ((((Dn.refl _).alloc _).alloc _).drew) | exact kd4 hS ((Dn.refl _).alloc _) | exact kd4 hS (((Dn.refl _).alloc _).alloc _) | exact kd4 hS (((Dn.refl _).drew).alloc _) | exact kd4 hS ((((Dn.refl _).drew).alloc _).alloc _))
    (fail)
  · clear hw1 hw2 hb1 hS a0 a1 b0 b1 al bl hmk
    go_wp2_with fail
    go_loopw [6] (fun iv wr => ∃ (i : Nat) (O : List Int), i ≤ la.length ∧ iv = .int .i64 i ∧ OutRel la lb i O ∧ MulRel w ba bb nb (.slice p la.length cap) (.slice q lb.length cap') (W.heap.size) (W.heap.size + 1) N wr O) (fun iv _ => la.length - (intOf iv).toNat)
    case atStart => exact ⟨0, _, by omega, rfl, by have h := OutRel.start la lb; rw [← HN.out] at h; exact h, by rw [← HZC.out]; exact MulRel.start1 N0.out N1.out N2.out HZ.out U.out (by have := HN.out; omega)⟩
    case round =>
      obtain ⟨i, O, hi, rfl, hO, hM⟩ := hrel
      obtain ⟨wo, rfl⟩ : ∃ wo : World, wo = wr := ⟨_, rfl⟩
      have HO := Lib.hid hO
      have HM := Lib.hid hM
      obtain ⟨_, ⟨a0, a1, _, _, al⟩, ⟨b0, b1, _, _, bl⟩, ⟨r0, r1, rf0, rf1, rl⟩, ⟨o0, o1, of0, of1, ol⟩, hu, _, _, _, _⟩ := hM
      clear hO
      by_cases hgo : i < la.length
      · have q1 : decide ((i : Int) < la.length) = true := by simp; omega
        go_wp2_with fail
        clear a0 a1 b0 b1 r0 r1 o0 o1 of0 of1 hu q1
        go_loopw [7, 8] (fun cv kv wr => ∃ (k : Nat) (c : Int), k ≤ lb.length + 1 ∧ kv = .int .i64 k ∧ cv = .int .i64 c ∧ c = (Dg.rowS O (Dg.dig la i) lb i k).2 ∧ MulRel w ba bb nb (.slice p la.length cap) (.slice q lb.length cap') (W.heap.size) (W.heap.size + 1) N wr (Dg.rowS O (Dg.dig la i) lb i k).1) (fun _ kv _ => lb.length + 1 - (intOf kv).toNat)
        case atStart => exact ⟨0, 0, by omega, rfl, rfl, rfl, HM.out⟩
        case round =>
          obtain ⟨k, c, hk, rfl, rfl, hc, hR⟩ := hrel
          have HR := Lib.hid hR
          have HC := Lib.hid hc
          obtain ⟨ri1, ri2, k1, k2, _, _⟩ := Dg.rowS_inv HO.out.dg (Dg.dig_bd HDA.out i) HDB.out i k (by rw [HO.out.len]; omega)
          rw [← hc] at k1 k2
          have HRD := Lib.hid ri2
          obtain ⟨_, ⟨a0, a1, _, _, al⟩, ⟨b0, b1, _, _, bl⟩, _, ⟨o0, o1, of0, of1, ol⟩, hu, _, _, _, _⟩ := hR
          clear hc ri1 ri2
          by_cases hgo2 : k < lb.length ∨ 0 < c
          · have hk2 : k ≤ lb.length := by
              by_cases hc : k ≤ lb.length
              · exact hc
              · have h0 := Dg.rowS_end HO.out.dg (Dg.dig_bd HDA.out i) HDB.out i (by rw [HO.out.len]; omega) (HO.out.z _ (Nat.le_refl _))
                have hkk : k = lb.length + 1 := by omega
                rw [← hkk, ← HC.out] at h0
                omega
            have hkN : i + k < N := by have := HN.out; omega
            obtain ⟨qc, qf⟩ := HR.out.cell (i + k) hkN
            obtain ⟨z1, z2⟩ := Dg.dig_bd HRD.out (i + k)
            have m1 := Dg.mul_bd (Dg.dig_bd HDA.out i) (Dg.dig_bd HDB.out k)
            obtain ⟨ga, hga, qa⟩ : ∃ ga, p = some ⟨ga, 0, none⟩ ∧ wr.cell? ⟨ga, i, none⟩ = some (.int .u8 (Dg.dig la i)) := by
              obtain ⟨p1, c1, he, _, _, h3⟩ := HSA.out.dn hu
              injection he with e1 e2 e3
              subst e1
              exact h3 i _ (Dg.dig_some hgo)
            have CB := Lib.hid (fun n => rDigit _ lb k (wr.drewN n) ((HSB.out.dn hu).drewN n) HDB.out)
            obtain ⟨d1, d2⟩ := Dg.dig_bd HDA.out i
            obtain ⟨d3, d4⟩ := Dg.dig_bd HDB.out k
            subst hga
            generalize hz : Dg.dig (Dg.rowS O (Dg.dig la i) lb i k).1 (i + k) = z at *
            generalize hai : Dg.dig la i = ai at *
            generalize hbk : Dg.dig lb k = bk at *
            obtain ⟨m1, m2⟩ := m1
            have HZ1 := Lib.hid hz
            have HBK := Lib.hid hbk
            have hv0 : IntKind.i64.wrap ((i : Int) + k) = (i : Int) + k := IntWalk.i64_in _ (by omega)
            have hv1 : IntKind.i64.wrap (ai * bk) = ai * bk := IntWalk.i64_in _ (by omega)
            have hv2 : IntKind.i64.wrap (z + ai * bk) = z + ai * bk := IntWalk.i64_in _ (by omega)
            have hv3 : IntKind.i64.wrap (z + ai * bk + c) = z + ai * bk + c := IntWalk.i64_in _ (by omega)
            have hv4 : ((i : Int) + k).toNat = i + k := by omega
            have x1 : 0 ≤ (i : Int) + k := by omega
            have x2 : (i : Int) + k < N := by omega
            have s1 : 0 ≤ (z + ai * bk + c) % 10 := by omega
            have s2 : (z + ai * bk + c) % 10 ≤ 9 := by omega
            have s3 : 0 ≤ z + ai * bk + c := by omega
            have s4 : z + ai * bk + c ≤ 1000 := by omega
            clear hz hai hbk
            by_cases t1 : k < lb.length
            · have q1 : decide ((k : Int) < lb.length) = true := by simp; omega
              go_wp2_with fail
              go_quiet ((go_at_call 90; exact Calls.qs (CB.out _)))
              clear hv0 hv1 hv2 hv3 hv4
              go_wp2_with fail
              go_roundw
              case rel => exact ⟨k + 1, (z + ai * bk + c) / 10, by omega, by go_num, rfl, by simp only [Dg.rowS]; rw [HZ1.out, HBK.out, ← HC.out], by simp only [Dg.rowS]; rw [HZ1.out, HBK.out, ← HC.out]; exact (HR.out.drewN _).set (i + k) _⟩
              case measure => simp [intOf]; omega
            · have q1 : decide ((k : Int) < lb.length) = false := by simp; omega
              have q3 : decide (0 < c) = true := by simp; omega
              go_wp2_with fail
              go_quiet ((go_at_call 90; exact Calls.qs (CB.out _)))
              clear hv0 hv1 hv2 hv3 hv4
              go_wp2_with fail
              go_roundw
              case rel => exact ⟨k + 1, (z + ai * bk + c) / 10, by omega, by go_num, rfl, by simp only [Dg.rowS]; rw [HZ1.out, HBK.out, ← HC.out], by simp only [Dg.rowS]; rw [HZ1.out, HBK.out, ← HC.out]; exact (HR.out.drewN _).set (i + k) _⟩
              case measure => simp [intOf]; omega
          · have t1 : ¬ k < lb.length := by omega
            have q1 : decide ((k : Int) < lb.length) = false := by simp; omega
            have q3 : decide (0 < c) = false := by simp; omega
            have HX := Lib.hid (HO.out.next HDA.out HDB.out hgo (by omega) hk (by rw [← HC.out]; omega))
            clear hgo2 k1 k2
            go_wp2_with fail
            go_roundw
            case rel => exact ⟨i + 1, _, by omega, by go_num, HX.out, HR.out⟩
            case measure => simp [intOf]; omega
      · obtain rfl : i = la.length := by omega
        have t1 : ¬ la.length < la.length := by omega
        have q1 : decide ((la.length : Int) < la.length) = false := by simp
        have hV : Dg.val O = Dg.val la * Dg.val lb := by have := HO.out.val; rwa [List.take_of_length_le (Nat.le_refl _)] at this
        have HV := Lib.hid hV
        clear hV hgo hi
        go_wp2_with fail
        refine (rTrim nb _ _ _ O wo _ (Dn.refl _) HM.out.sl HO.out.dg).mono ?_
        rintro e w4 ⟨b', k', rfl, hI, q4⟩
        rw [HV.out] at hI
        have HI := Lib.hid (hI.dn q4)
        have N4 := Lib.hid (HM.out.r.dn q4)
        have U4 := Lib.hid (hu.trans q4)
        have hgz := HZ.out
        have HGZ := Lib.hid hgz
        clear a0 a1 b0 b1 o0 o1 of0 of1 r0 r1 rf0 rf1 hu hI q4 hgz t1 q1
        obtain ⟨r0, r1, rf0, rf1, rl⟩ := N4.out
        go_wp2_with fail
        obtain ⟨z0, z1, _, _, _⟩ := N4.out.put b' (.slice (some ⟨W.heap.size, 0, none⟩) k' N)
        exact bodyPost_ret (w := setN w4 (w.heap.size + 1 + 1) b' (.slice (some ⟨W.heap.size, 0, none⟩) k' N)) (v := .agg #[.bool b', .slice (some ⟨W.heap.size, 0, none⟩) k' N]) (by simp [results, Tryd.results26, go_sem, z0, z1]) rfl
          ⟨_, _, _, _, rfl, HI.out.farN (fun g hg => by have := HGZ.out; simp at hg; omega) _ _, setN_dn U4.out (by omega) _ _, fun g hg => by have := HGZ.out; simp at hg; omega⟩
  · clear hw1 hw2 hb1 hS a0 a1 b0 b1 al bl hmk
    go_wp2_with fail
    go_loopw [6] (fun iv wr => ∃ (i : Nat) (O : List Int), i ≤ la.length ∧ iv = .int .i64 i ∧ OutRel la lb i O ∧ MulRel w ba bb nb (.slice p la.length cap) (.slice q lb.length cap') (W.heap.size + 1) (W.heap.size) N wr O) (fun iv _ => la.length - (intOf iv).toNat)
    case atStart => exact ⟨0, _, by omega, rfl, by have h := OutRel.start la lb; rw [← HN.out] at h; exact h, by rw [← HZC.out]; exact MulRel.start2 N0.out N1.out N2.out HZ.out U.out (by have := HN.out; omega)⟩
    case round =>
      obtain ⟨i, O, hi, rfl, hO, hM⟩ := hrel
      obtain ⟨wo, rfl⟩ : ∃ wo : World, wo = wr := ⟨_, rfl⟩
      have HO := Lib.hid hO
      have HM := Lib.hid hM
      obtain ⟨_, ⟨a0, a1, _, _, al⟩, ⟨b0, b1, _, _, bl⟩, ⟨r0, r1, rf0, rf1, rl⟩, ⟨o0, o1, of0, of1, ol⟩, hu, _, _, _, _⟩ := hM
      clear hO
      by_cases hgo : i < la.length
      · have q1 : decide ((i : Int) < la.length) = true := by simp; omega
        go_wp2_with fail
        clear a0 a1 b0 b1 r0 r1 o0 o1 of0 of1 hu q1
        go_loopw [7, 8] (fun cv kv wr => ∃ (k : Nat) (c : Int), k ≤ lb.length + 1 ∧ kv = .int .i64 k ∧ cv = .int .i64 c ∧ c = (Dg.rowS O (Dg.dig la i) lb i k).2 ∧ MulRel w ba bb nb (.slice p la.length cap) (.slice q lb.length cap') (W.heap.size + 1) (W.heap.size) N wr (Dg.rowS O (Dg.dig la i) lb i k).1) (fun _ kv _ => lb.length + 1 - (intOf kv).toNat)
        case atStart => exact ⟨0, 0, by omega, rfl, rfl, rfl, HM.out⟩
        case round =>
          obtain ⟨k, c, hk, rfl, rfl, hc, hR⟩ := hrel
          have HR := Lib.hid hR
          have HC := Lib.hid hc
          obtain ⟨ri1, ri2, k1, k2, _, _⟩ := Dg.rowS_inv HO.out.dg (Dg.dig_bd HDA.out i) HDB.out i k (by rw [HO.out.len]; omega)
          rw [← hc] at k1 k2
          have HRD := Lib.hid ri2
          obtain ⟨_, ⟨a0, a1, _, _, al⟩, ⟨b0, b1, _, _, bl⟩, _, ⟨o0, o1, of0, of1, ol⟩, hu, _, _, _, _⟩ := hR
          clear hc ri1 ri2
          by_cases hgo2 : k < lb.length ∨ 0 < c
          · have hk2 : k ≤ lb.length := by
              by_cases hc : k ≤ lb.length
              · exact hc
              · have h0 := Dg.rowS_end HO.out.dg (Dg.dig_bd HDA.out i) HDB.out i (by rw [HO.out.len]; omega) (HO.out.z _ (Nat.le_refl _))
                have hkk : k = lb.length + 1 := by omega
                rw [← hkk, ← HC.out] at h0
                omega
            have hkN : i + k < N := by have := HN.out; omega
            obtain ⟨qc, qf⟩ := HR.out.cell (i + k) hkN
            obtain ⟨z1, z2⟩ := Dg.dig_bd HRD.out (i + k)
            have m1 := Dg.mul_bd (Dg.dig_bd HDA.out i) (Dg.dig_bd HDB.out k)
            obtain ⟨ga, hga, qa⟩ : ∃ ga, p = some ⟨ga, 0, none⟩ ∧ wr.cell? ⟨ga, i, none⟩ = some (.int .u8 (Dg.dig la i)) := by
              obtain ⟨p1, c1, he, _, _, h3⟩ := HSA.out.dn hu
              injection he with e1 e2 e3
              subst e1
              exact h3 i _ (Dg.dig_some hgo)
            have CB := Lib.hid (fun n => rDigit _ lb k (wr.drewN n) ((HSB.out.dn hu).drewN n) HDB.out)
            obtain ⟨d1, d2⟩ := Dg.dig_bd HDA.out i
            obtain ⟨d3, d4⟩ := Dg.dig_bd HDB.out k
            subst hga
            generalize hz : Dg.dig (Dg.rowS O (Dg.dig la i) lb i k).1 (i + k) = z at *
            generalize hai : Dg.dig la i = ai at *
            generalize hbk : Dg.dig lb k = bk at *
            obtain ⟨m1, m2⟩ := m1
            have HZ1 := Lib.hid hz
            have HBK := Lib.hid hbk
            have hv0 : IntKind.i64.wrap ((i : Int) + k) = (i : Int) + k := IntWalk.i64_in _ (by omega)
            have hv1 : IntKind.i64.wrap (ai * bk) = ai * bk := IntWalk.i64_in _ (by omega)
            have hv2 : IntKind.i64.wrap (z + ai * bk) = z + ai * bk := IntWalk.i64_in _ (by omega)
            have hv3 : IntKind.i64.wrap (z + ai * bk + c) = z + ai * bk + c := IntWalk.i64_in _ (by omega)
            have hv4 : ((i : Int) + k).toNat = i + k := by omega
            have x1 : 0 ≤ (i : Int) + k := by omega
            have x2 : (i : Int) + k < N := by omega
            have s1 : 0 ≤ (z + ai * bk + c) % 10 := by omega
            have s2 : (z + ai * bk + c) % 10 ≤ 9 := by omega
            have s3 : 0 ≤ z + ai * bk + c := by omega
            have s4 : z + ai * bk + c ≤ 1000 := by omega
            clear hz hai hbk
            by_cases t1 : k < lb.length
            · have q1 : decide ((k : Int) < lb.length) = true := by simp; omega
              go_wp2_with fail
              go_quiet ((go_at_call 90; exact Calls.qs (CB.out _)))
              clear hv0 hv1 hv2 hv3 hv4
              go_wp2_with fail
              go_roundw
              case rel => exact ⟨k + 1, (z + ai * bk + c) / 10, by omega, by go_num, rfl, by simp only [Dg.rowS]; rw [HZ1.out, HBK.out, ← HC.out], by simp only [Dg.rowS]; rw [HZ1.out, HBK.out, ← HC.out]; exact (HR.out.drewN _).set (i + k) _⟩
              case measure => simp [intOf]; omega
            · have q1 : decide ((k : Int) < lb.length) = false := by simp; omega
              have q3 : decide (0 < c) = true := by simp; omega
              go_wp2_with fail
              go_quiet ((go_at_call 90; exact Calls.qs (CB.out _)))
              clear hv0 hv1 hv2 hv3 hv4
              go_wp2_with fail
              go_roundw
              case rel => exact ⟨k + 1, (z + ai * bk + c) / 10, by omega, by go_num, rfl, by simp only [Dg.rowS]; rw [HZ1.out, HBK.out, ← HC.out], by simp only [Dg.rowS]; rw [HZ1.out, HBK.out, ← HC.out]; exact (HR.out.drewN _).set (i + k) _⟩
              case measure => simp [intOf]; omega
          · have t1 : ¬ k < lb.length := by omega
            have q1 : decide ((k : Int) < lb.length) = false := by simp; omega
            have q3 : decide (0 < c) = false := by simp; omega
            have HX := Lib.hid (HO.out.next HDA.out HDB.out hgo (by omega) hk (by rw [← HC.out]; omega))
            clear hgo2 k1 k2
            go_wp2_with fail
            go_roundw
            case rel => exact ⟨i + 1, _, by omega, by go_num, HX.out, HR.out⟩
            case measure => simp [intOf]; omega
      · obtain rfl : i = la.length := by omega
        have t1 : ¬ la.length < la.length := by omega
        have q1 : decide ((la.length : Int) < la.length) = false := by simp
        have hV : Dg.val O = Dg.val la * Dg.val lb := by have := HO.out.val; rwa [List.take_of_length_le (Nat.le_refl _)] at this
        have HV := Lib.hid hV
        clear hV hgo hi
        go_wp2_with fail
        refine (rTrim nb _ _ _ O wo _ (Dn.refl _) HM.out.sl HO.out.dg).mono ?_
        rintro e w4 ⟨b', k', rfl, hI, q4⟩
        rw [HV.out] at hI
        have HI := Lib.hid (hI.dn q4)
        have N4 := Lib.hid (HM.out.r.dn q4)
        have U4 := Lib.hid (hu.trans q4)
        have hgz := HZ.out
        have HGZ := Lib.hid hgz
        clear a0 a1 b0 b1 o0 o1 of0 of1 r0 r1 rf0 rf1 hu hI q4 hgz t1 q1
        obtain ⟨r0, r1, rf0, rf1, rl⟩ := N4.out
        go_wp2_with fail
        obtain ⟨z0, z1, _, _, _⟩ := N4.out.put b' (.slice (some ⟨W.heap.size + 1, 0, none⟩) k' N)
        exact bodyPost_ret (w := setN w4 (w.heap.size + 1 + 1) b' (.slice (some ⟨W.heap.size + 1, 0, none⟩) k' N)) (v := .agg #[.bool b', .slice (some ⟨W.heap.size + 1, 0, none⟩) k' N]) (by simp [results, Tryd.results26, go_sem, z0, z1]) rfl
          ⟨_, _, _, _, rfl, HI.out.farN (fun g hg => by have := HGZ.out; simp at hg; omega) _ _, setN_dn U4.out (by omega) _ _, fun g hg => by have := HGZ.out; simp at hg; omega⟩
end Go.Proofs.YtnibmofbalgobaaDoor
