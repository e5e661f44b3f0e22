/-
  WALKS OF circalaw07: SeasonsOf returns true. (Printed by wip/gen/law7e.py.)
-/
import Derived.Test.YtnaoadmffnbalaaDoorLawSevenD
namespace Go.Proofs.YtnaoadmffnbalaaDoor
open Go.RowKit
theorem of_in (d c : Int) (h : IsC c) (ho : IsOf d c) : sLo (ofY d c) c ≤ d ∧ d ≤ sHi (ofY d c) c := by
  by_cases hl : mo d < fromS c
  · have := (in_last d c h).2 ⟨hl, ho⟩
    have e : ofY d c = Cal.yr d - 1 := if_pos hl
    rw [e]
    exact this.2
  · have := (in_this d c h).2 ⟨hl, ho⟩
    have e : ofY d c = Cal.yr d := if_neg hl
    rw [e]
    exact this.2
theorem ListC.dn {w w' : World} {v : Value} {l : List Int} (h : ListC w v l) (k : Dn w w') : ListC w' v l := by
  rcases h with h | ⟨g, h1, h2⟩
  · exact Or.inl h
  · exact Or.inr ⟨g, h1, fun j x hx => k.cell (h2 j x hx)⟩
theorem ListW.of_own {w : World} {base E n : Nat} {v : Value} {l : List Int} (h : w.ownsRow base E 1 v n (l.map (Value.int .i64))) (hn : n = l.length) : ListW w v l := by
  subst hn
  rcases h.2 with ⟨rfl, hn⟩ | ⟨g, cap, cur, rfl, _, hg, h1, h2, h3, h4⟩
  · exact Or.inl ⟨rfl, List.length_eq_zero_iff.1 hn⟩
  · have hcs := h.cells (g := g) rfl
    refine Or.inr ⟨g, cap, rfl, fun j x hx => ?_⟩
    have := hcs j (.int .i64 x) (by simp [hx])
    have hadd : (⟨g, 0, none⟩ : Addr).add j = ⟨g, j, none⟩ := by unfold Addr.add; split <;> simp_all
    rwa [hadd] at this
set_option maxHeartbeats 4000000 in
set_option maxRecDepth 100000 in
theorem seasonsOf_no1 (d c : Int) (w : World) (hd : I64 d) (h : ¬ IsC c) (hE : EnvS w) :
    Calls Tryd.prog 13 #[.int .i64 d, .int .i64 c] w fun e w' => e = .returned (.bool true) ∧ Dn w w' := by
  by_cases hy : IsY (Cal.yr d)
  · have HY := Lib.hid hy
    clear hy
    go_enter Tryd.func13, Tryd.ntmps13
    go_wp2_with fail
    refine (sof_no1 _ _ _ h).mono ?_
    rintro e w1 ⟨rfl, rfl⟩
    go_wp2_with fail
    refine (scodes_yes _ _ hd HY.out hE).mono ?_
    rintro e w2 ⟨v, rfl, _, hb2⟩
    have u2 : Dn w w2 := ⟨hb2⟩
    clear hb2
    go_wp2_with fail
    refine (rOf_yes _ _ hd HY.out).mono ?_
    rintro e w3 ⟨rfl, rfl⟩
    go_wp2_with fail
    refine (rMonths7_no _ _ h).mono ?_
    rintro e w4 ⟨rfl, rfl⟩
    go_wp2_with fail
    refine (lives7 _ (hE.below u2.below)).mono ?_
    rintro e w5 ⟨rfl, q5⟩
    go_wp2_with fail
    go_ret
    exact ⟨rfl, u2.trans q5⟩
  · have HY := Lib.hid hy
    clear hy
    go_enter Tryd.func13, Tryd.ntmps13
    go_wp2_with fail
    refine (sof_no1 _ _ _ h).mono ?_
    rintro e w1 ⟨rfl, rfl⟩
    go_wp2_with fail
    refine (scodes_no _ _ hd HY.out hE).mono ?_
    rintro e w2 ⟨rfl, q2⟩
    have u2 : Dn w w2 := q2.dn
    clear q2
    go_wp2_with fail
    refine (rOf_no _ _ hd HY.out).mono ?_
    rintro e w3 ⟨rfl, rfl⟩
    go_wp2_with fail
    refine (rMonths7_no _ _ h).mono ?_
    rintro e w4 ⟨rfl, rfl⟩
    go_wp2_with fail
    refine (lives7 _ (hE.below u2.below)).mono ?_
    rintro e w5 ⟨rfl, q5⟩
    go_wp2_with fail
    go_ret
    exact ⟨rfl, u2.trans q5⟩
set_option maxHeartbeats 4000000 in
set_option maxRecDepth 100000 in
theorem seasonsOf_no2 (d c : Int) (w : World) (hd : I64 d) (h : IsC c) (hy : ¬ IsY (Cal.yr d)) (hE : EnvS w) :
    Calls Tryd.prog 13 #[.int .i64 d, .int .i64 c] w fun e w' => e = .returned (.bool true) ∧ Dn w w' := by
  obtain ⟨b1, b2, b3, b4⟩ := code_bd c h
  have c0 : decide (manyS c = 0) = false := by simp; omega
  have c0' : ((manyS c : Int) == 0) = false := by simp; omega
  have HY := Lib.hid hy
  clear hy
  go_enter Tryd.func13, Tryd.ntmps13
  go_wp2_with fail
  refine (sof_no2 _ _ _ hd h HY.out hE).mono ?_
  rintro e w1 ⟨rfl, u1⟩
  go_wp2_with fail
  refine (scodes_no _ _ hd HY.out (hE.up u1)).mono ?_
  rintro e w2 ⟨rfl, q2⟩
  have u2 := u1.trans q2
  clear u1 q2
  go_wp2_with fail
  refine (rOf_no _ _ hd HY.out).mono ?_
  rintro e w3 ⟨rfl, rfl⟩
  go_wp2_with fail
  refine (rMonths7_yes _ _ h).mono ?_
  rintro e w4 ⟨rfl, rfl⟩
  go_wp2_with fail
  refine (lives7 _ (hE.up u2)).mono ?_
  rintro e w5 ⟨rfl, q5⟩
  go_wp2_with fail
  go_ret
  exact ⟨rfl, u2.dn.trans q5⟩
set_option maxHeartbeats 4000000 in
set_option maxRecDepth 100000 in
theorem seasonsOf_no (d c : Int) (w : World) (hd : I64 d) (h : IsC c) (hy : IsY (Cal.yr d)) (ho : ¬ IsOf d c) (hE : EnvS w) :
    Calls Tryd.prog 13 #[.int .i64 d, .int .i64 c] w fun e w' => e = .returned (.bool true) ∧ Dn w w' := by
  obtain ⟨b1, b2, b3, b4⟩ := code_bd c h
  have c0 : decide (manyS c = 0) = false := by simp; omega
  have c0' : ((manyS c : Int) == 0) = false := by simp; omega
  have HY := Lib.hid hy
  clear hy
  have HO := Lib.hid ho
  clear ho
  obtain ⟨i0, hi, hz0, hz1, hz2⟩ := info_parts info3
  go_enter Tryd.func13, Tryd.ntmps13
  go_wp2_with fail
  refine (sof_no3 _ _ _ hd h HY.out HO.out hE).mono ?_
  rintro e w1 ⟨rfl, u1⟩
  go_wp2_with fail
  refine (scodes_yes _ _ hd HY.out (hE.up u1)).mono ?_
  rintro e w2 ⟨v, rfl, hL, hB⟩
  have hD : Dn w w2 := Dn.of_up u1 hB
  clear hB u1
  go_wp2_with fail
  refine (rOf_yes _ _ hd HY.out).mono ?_
  rintro e w3 ⟨rfl, rfl⟩
  go_wp2_with fail
  refine (rMonths7_yes _ _ h).mono ?_
  rintro e w4 ⟨rfl, rfl⟩
  go_wp2_with fail
  refine (rOf7_no _ _ _ hd h HY.out HO.out).mono ?_
  rintro e w5 ⟨rfl, q5⟩
  have hD5 := hD.up q5
  have hL5 := hL.up q5
  clear hD hL q5
  go_wp2_with fail
  go_loopw [16, 17] (fun x i wr => ∃ k : Nat, k ≤ 21 ∧ i = .int .i64 (21 + (k : Int)) ∧ wr.ownsRow w5.heap.size 3 1 x (codesL d k).length ((codesL d k).map (Value.int .i64)) ∧ Dn w5 wr) (fun _ i _ => 42 - (intOf i).toNat)
  case atStart => exact ⟨0, by omega, rfl, World.ownsRow_nil _ _ _ _, Dn.refl _⟩
  case round =>
    obtain ⟨k, hk, rfl, hown, hb⟩ := hrel
    by_cases hlt : k < 21
    · have c1 : decide (21 + (k : Int) < 42) = true := by simp; omega
      have HC : IsC (21 + (k : Int)) := ⟨by omega, by omega⟩
      by_cases hk2 : IsOf d (21 + (k : Int))
      · have hle := codesL_le d k
        have hs : codesL d (k + 1) = codesL d k ++ [21 + (k : Int)] := by rw [codesL, if_pos hk2]
        have HS := Lib.hid hs
        clear hs
        go_wp2_with fail
        refine (rOf7_yes _ _ _ hd HC HY.out hk2).mono ?_
        rintro e w6 ⟨rfl, q6⟩
        have hb2 : Dn w5 w6 := hb.up q6
        have hown2 := hown.kept (w' := w6) (row := none) ⟨q6.below.os, q6.below.tape, q6.below.output, q6.size, fun i hi _ => q6.below.block i hi⟩ (by cases hv : Value.ownBlock _ <;> simp)
        clear hown hb q6
        go_wp2_with (at_builtin; refine wpList_append_own _ rfl _ _ 76 rfl w5.heap.size 3 i0 (.int .i64 0) 1 8 Tryd.underlying76 hi hz0 hz1 hz2 rfl (by decide) _ _ _ rfl (hown2.alloc _) ⟨w6.heap.size, 0, none⟩ 1 1 [.int .i64 (21 + (k : Int))] rfl rfl ?c1 ?c2 ?c3 ?c4 ?c5 ?_)
        case c1 =>
          intro j u hj
          match j, hj with
          | 0, hj => simp at hj; subst hj; simp [Addr.add]
        case c2 => intro u hu; simp at hu; subst hu; rfl
        case c3 => unfold maxLen; omega
        case c4 => omega
        case c5 => have := hb2.size; simp; omega
        · intro v' w7 hown' hgrow _
          have hb3 : Dn w5 w7 := ⟨below_grown (hb2.below.alloc hb2.size _) (by have := hb2.size; simp; omega) hgrow (fun g hg => (hown2.lt g hg).1)⟩
          clear hown2 hb2 hgrow
          go_wp2_with fail
          go_roundw
          case rel => exact ⟨k + 1, by omega, by first | (congr 1; omega) | (simp; omega), by rw [HS.out]; simpa using hown', by first | exact hb3 | trivial⟩
          case measure => simp [intOf]; omega
      · have hs : codesL d (k + 1) = codesL d k := by rw [codesL, if_neg hk2]
        have HS := Lib.hid hs
        clear hs
        go_wp2_with fail
        refine (rOf7_no _ _ _ hd HC HY.out hk2).mono ?_
        rintro e w6 ⟨rfl, q6⟩
        have hb2 : Dn w5 w6 := hb.up q6
        have hown2 := hown.kept (w' := w6) (row := none) ⟨q6.below.os, q6.below.tape, q6.below.output, q6.size, fun i hi _ => q6.below.block i hi⟩ (by cases hv : Value.ownBlock _ <;> simp)
        clear hown hb q6
        go_wp2_with fail
        go_roundw
        case rel => exact ⟨k + 1, by omega, by first | (congr 1; omega) | (simp; omega), by rw [HS.out]; exact hown2, by first | exact hb2 | trivial⟩
        case measure => simp [intOf]; omega
    · obtain rfl : k = 21 := by omega
      have hle := codesL_le d 21
      have hLW := ListW.of_own hown rfl
      have hLC := hL5.dn hb
      have hDr := hD5.trans hb
      clear hown hL5 hb hD5
      go_wp2_with fail
      refine (llist _ _ _ _ (by omega) hLC hLW).mono ?_
      rintro e w8 ⟨rfl, q8⟩
      have u8 := hDr.up q8
      clear hLC hLW hDr q8 hle
      go_wp2_with fail
      refine (lives7 _ (hE.below u8.below)).mono ?_
      rintro e w9 ⟨rfl, q9⟩
      go_wp2_with fail
      go_ret
      exact ⟨rfl, u8.trans q9⟩
set_option maxHeartbeats 4000000 in
set_option maxRecDepth 100000 in
theorem seasonsOf_yes (d c : Int) (w : World) (hd : I64 d) (h : IsC c) (hy : IsY (Cal.yr d)) (ho : IsOf d c) (hE : EnvS w) :
    Calls Tryd.prog 13 #[.int .i64 d, .int .i64 c] w fun e w' => e = .returned (.bool true) ∧ Dn w w' := by
  obtain ⟨b1, b2, b3, b4⟩ := code_bd c h
  have c0 : decide (manyS c = 0) = false := by simp; omega
  have c0' : ((manyS c : Int) == 0) = false := by simp; omega
  have HY := Lib.hid hy
  clear hy
  have HO := Lib.hid ho
  clear ho
  obtain ⟨i0, hi, hz0, hz1, hz2⟩ := info_parts info3
  go_enter Tryd.func13, Tryd.ntmps13
  go_wp2_with fail
  refine (sof_yes _ _ _ hd h HY.out HO.out hE).mono ?_
  rintro e w1 ⟨rfl, u1⟩
  go_wp2_with fail
  refine (scodes_yes _ _ hd HY.out (hE.up u1)).mono ?_
  rintro e w2 ⟨v, rfl, hL, hB⟩
  have hD : Dn w w2 := Dn.of_up u1 hB
  clear hB u1
  go_wp2_with fail
  refine (rOf_yes _ _ hd HY.out).mono ?_
  rintro e w3 ⟨rfl, rfl⟩
  go_wp2_with fail
  refine (rMonths7_yes _ _ h).mono ?_
  rintro e w4 ⟨rfl, rfl⟩
  go_wp2_with fail
  refine (rOf7_yes _ _ _ hd h HY.out HO.out).mono ?_
  rintro e w5 ⟨rfl, q5⟩
  have hD5 := hD.up q5
  have hL5 := hL.up q5
  clear hD hL q5
  go_wp2_with fail
  go_loopw [16, 17] (fun x i wr => ∃ k : Nat, k ≤ 21 ∧ i = .int .i64 (21 + (k : Int)) ∧ wr.ownsRow w5.heap.size 3 1 x (codesL d k).length ((codesL d k).map (Value.int .i64)) ∧ Dn w5 wr) (fun _ i _ => 42 - (intOf i).toNat)
  case atStart => exact ⟨0, by omega, rfl, World.ownsRow_nil _ _ _ _, Dn.refl _⟩
  case round =>
    obtain ⟨k, hk, rfl, hown, hb⟩ := hrel
    by_cases hlt : k < 21
    · have c1 : decide (21 + (k : Int) < 42) = true := by simp; omega
      have HC : IsC (21 + (k : Int)) := ⟨by omega, by omega⟩
      by_cases hk2 : IsOf d (21 + (k : Int))
      · have hle := codesL_le d k
        have hs : codesL d (k + 1) = codesL d k ++ [21 + (k : Int)] := by rw [codesL, if_pos hk2]
        have HS := Lib.hid hs
        clear hs
        go_wp2_with fail
        refine (rOf7_yes _ _ _ hd HC HY.out hk2).mono ?_
        rintro e w6 ⟨rfl, q6⟩
        have hb2 : Dn w5 w6 := hb.up q6
        have hown2 := hown.kept (w' := w6) (row := none) ⟨q6.below.os, q6.below.tape, q6.below.output, q6.size, fun i hi _ => q6.below.block i hi⟩ (by cases hv : Value.ownBlock _ <;> simp)
        clear hown hb q6
        go_wp2_with (at_builtin; refine wpList_append_own _ rfl _ _ 76 rfl w5.heap.size 3 i0 (.int .i64 0) 1 8 Tryd.underlying76 hi hz0 hz1 hz2 rfl (by decide) _ _ _ rfl (hown2.alloc _) ⟨w6.heap.size, 0, none⟩ 1 1 [.int .i64 (21 + (k : Int))] rfl rfl ?c1 ?c2 ?c3 ?c4 ?c5 ?_)
        case c1 =>
          intro j u hj
          match j, hj with
          | 0, hj => simp at hj; subst hj; simp [Addr.add]
        case c2 => intro u hu; simp at hu; subst hu; rfl
        case c3 => unfold maxLen; omega
        case c4 => omega
        case c5 => have := hb2.size; simp; omega
        · intro v' w7 hown' hgrow _
          have hb3 : Dn w5 w7 := ⟨below_grown (hb2.below.alloc hb2.size _) (by have := hb2.size; simp; omega) hgrow (fun g hg => (hown2.lt g hg).1)⟩
          clear hown2 hb2 hgrow
          go_wp2_with fail
          go_roundw
          case rel => exact ⟨k + 1, by omega, by first | (congr 1; omega) | (simp; omega), by rw [HS.out]; simpa using hown', by first | exact hb3 | trivial⟩
          case measure => simp [intOf]; omega
      · have hs : codesL d (k + 1) = codesL d k := by rw [codesL, if_neg hk2]
        have HS := Lib.hid hs
        clear hs
        go_wp2_with fail
        refine (rOf7_no _ _ _ hd HC HY.out hk2).mono ?_
        rintro e w6 ⟨rfl, q6⟩
        have hb2 : Dn w5 w6 := hb.up q6
        have hown2 := hown.kept (w' := w6) (row := none) ⟨q6.below.os, q6.below.tape, q6.below.output, q6.size, fun i hi _ => q6.below.block i hi⟩ (by cases hv : Value.ownBlock _ <;> simp)
        clear hown hb q6
        go_wp2_with fail
        go_roundw
        case rel => exact ⟨k + 1, by omega, by first | (congr 1; omega) | (simp; omega), by rw [HS.out]; exact hown2, by first | exact hb2 | trivial⟩
        case measure => simp [intOf]; omega
    · obtain rfl : k = 21 := by omega
      have hle := codesL_le d 21
      have hLW := ListW.of_own hown rfl
      have hLC := hL5.dn hb
      have hDr := hD5.trans hb
      clear hown hL5 hb hD5
      go_wp2_with fail
      refine (llist _ _ _ _ (by omega) hLC hLW).mono ?_
      rintro e w8 ⟨rfl, q8⟩
      have u8 := hDr.up q8
      clear hLC hLW hDr q8 hle
      obtain ⟨k1, k2⟩ := of_in d c h HO.out
      have t1 : decide (d < sLo (ofY d c) c) = false := by simp; omega
      have t2 : decide (sHi (ofY d c) c < d) = false := by simp; omega
      go_wp2_with fail
      refine (srun_yes _ _ _ h HO.out.2 (hE.below u8.below)).mono ?_
      rintro e w9 ⟨rfl, q9⟩
      have u9 := u8.up q9
      clear u8 q9
      unfold runV
      go_wp2_with fail
      refine (lives7 _ (hE.below (u9.up ((Up.refl _).alloc _)).below)).mono ?_
      rintro e w10 ⟨rfl, q10⟩
      go_wp2_with fail
      go_ret
      exact ⟨rfl, (u9.up ((Up.refl _).alloc _)).trans q10⟩
theorem seasonsOf_true (d c : Int) (w : World) (hd : I64 d) (_hc : I64 c) (hE : EnvS w) :
    Calls Tryd.prog 13 #[.int .i64 d, .int .i64 c] w fun e w' => e = .returned (.bool true) ∧ Dn w w' := by
  by_cases h : IsC c
  · by_cases hy : IsY (Cal.yr d)
    · by_cases ho : IsOf d c
      · exact seasonsOf_yes d c w hd h hy ho hE
      · exact seasonsOf_no d c w hd h hy ho hE
    · exact seasonsOf_no2 d c w hd h hy hE
  · exact seasonsOf_no1 d c w hd h hE
end Go.Proofs.YtnaoadmffnbalaaDoor
