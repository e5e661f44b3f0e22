/-
  WALKS OF circaref01: Of.
-/
import Derived.Test.YtopbbcbpanfigaaGreatDoorOwn
namespace Go.Proofs.YtopbbcbpanfigaaGreatDoor
open Go.RowKit
theorem dl_i64 (n : Nat) (h : n ≤ 9223372036854775808) : (Dg.dl n).length ≤ 19 := by
  refine Dg.dl_len ?_
  have : Dg.p10 19 = 10000000000000000000 := by decide
  omega
theorem pos_parts (m : Int) (h : 0 < m) : Dg.dl m.natAbs = m % 10 :: Dg.dl (m / 10).natAbs := by
  rw [Dg.dl_pos (by omega)]
  congr 1
  · omega
  · congr 1; omega
theorem neg_parts (m : Int) (h : m < 0) : Dg.dl m.natAbs = -(m.tmod 10) :: Dg.dl (m.tdiv 10).natAbs ∧ (m.tdiv 10 ≠ 0 → m.tdiv 10 < 0) ∧ -9 ≤ m.tmod 10 ∧ m.tmod 10 ≤ 0 ∧ m ≤ m.tdiv 10 ∧ m.tdiv 10 ≤ 0 ∧ (m.tdiv 10).natAbs < m.natAbs := by
  have e1 : m.tdiv 10 = -((-m) / 10) := by
    have := Int.neg_tdiv (a := -m) (b := 10)
    rw [Int.neg_neg] at this
    rw [this, Int.tdiv_eq_ediv_of_nonneg (by omega)]
  have e2 : m.tmod 10 = -((-m) % 10) := by
    have := Int.neg_tmod (a := -m) (b := 10)
    rw [Int.neg_neg] at this
    rw [this, Int.tmod_eq_emod_of_nonneg (by omega)]
  rw [e1, e2]
  refine ⟨?_, by omega, by omega, by omega, by omega, by omega, by omega⟩
  rw [Dg.dl_pos (by omega)]
  congr 1
  · omega
  · congr 1; omega
/-- What holds at the head of Of's loop. -/
structure OfRel (w : World) (n0 : Int) (mv : Value) (wr : World) (m : Int) (L : List Int) (v : Value) : Prop where
  mv : mv = .int .i64 m
  lo : -9223372036854775808 ≤ m
  hi : m ≤ 9223372036854775807
  dg : Dg.dl n0.natAbs = L ++ Dg.dl m.natAbs
  sgn : m ≠ 0 → decide (m < 0) = decide (n0 < 0)
  own : OwnD wr (w.heap.size + 1 + 1) v L
  x : NBlk wr (w.heap.size + 1) (decide (n0 < 0)) v
  r : NBlk wr w.heap.size false (.slice none 0 0)
  dn : Dn w wr
theorem OfRel.len {w : World} {n0 m : Int} {mv v : Value} {wr : World} {L : List Int} (h : OfRel w n0 mv wr m L v) (hn : n0.natAbs ≤ 9223372036854775808) : L.length ≤ 19 := by
  have e := congrArg List.length h.dg
  have := dl_i64 _ hn
  rw [List.length_append] at e
  omega
theorem OfRel.next {w : World} {n0 m m' d : Int} {mv v v' : Value} {wr w' : World} {L : List Int} (h : OfRel w n0 mv wr m L v) (hlo : -9223372036854775808 ≤ m') (hhi : m' ≤ 9223372036854775807) (hs : m' ≠ 0 → decide (m' < 0) = decide (n0 < 0))
    (hd : Dg.dl m.natAbs = d :: Dg.dl m'.natAbs) (hown : OwnD w' (w.heap.size + 1 + 1) v' (L ++ [d])) (hg : wr.grownBy w' v.ownBlock) : OfRel w n0 (.int .i64 m') (w'.setCell ⟨w.heap.size + 1, 1, none⟩ v') m' (L ++ [d]) v' := by
  have hb := h.own.row
  refine ⟨rfl, hlo, hhi, by rw [h.dg, hd]; simp, hs, hown.far (by simp) _, (h.x.kept hg ?_).set1 _, (h.r.kept hg ?_).far (by simp) _, (h.dn.grown hg ?_).setCell (by simp) _⟩
  · intro e; have := hb _ e; omega
  · intro e; have := hb _ e; omega
  · intro k e; have := hb _ e; omega
set_option maxHeartbeats 2000000 in
set_option maxRecDepth 10000 in
theorem rOf1 (n : Int) (w : World) (hn : I64 n) :
    Calls Tryz.prog 49 #[.int .i64 n] w fun e w' => ∃ v, e = .returned v ∧ IsN w' v n ∧ Dn w w' := by
  have hm := max_len
  have hab : n.natAbs ≤ 9223372036854775808 := by have := hn.1; have := hn.2; omega
  obtain ⟨W1, hW1⟩ : ∃ W1, W1 = (w.alloc (.cells #[.bool false, .slice none 0 0] 80)).alloc (.cells #[.bool (decide (n < 0)), .slice none 0 0] 80) := ⟨_, rfl⟩
  have n1 : NBlk W1 w.heap.size false (.slice none 0 0) := by rw [hW1]; exact (NBlk.new _ _ _ _).dn ((Dn.refl _).alloc _)
  have n2 : NBlk W1 (w.heap.size + 1) (decide (n < 0)) (.slice none 0 0) := by rw [hW1]; exact NBlk.new1 _ _ _ _ _
  have u1 : Dn w W1 := by rw [hW1]; exact ((Dn.refl _).alloc _).alloc _
  have h0 : OfRel w n (.int .i64 n) W1 n [] (.slice none 0 0) := ⟨rfl, hn.1, hn.2, rfl, fun _ => rfl, OwnD.nil _ _, n2, n1, u1⟩
  have HAB := Lib.hid hab
  have H0 := Lib.hid h0
  have HW := Lib.hid hW1
  clear hW1 n1 n2 u1 h0 hab
  go_enter Tryz.func49, Tryz.ntmps49
  go_wp2_with fail
  rw [← HW.out]
  clear HW
  go_loopw [0] (fun mv wr => ∃ m L v, OfRel w n mv wr m L v) (fun mv _ => (intOf mv).natAbs)
  case atStart => exact ⟨_, _, _, H0.out⟩
  case round =>
    obtain ⟨m, L, v, hr⟩ := hrel
    have HR := Lib.hid hr
    have hlen := hr.len HAB.out
    obtain ⟨rfl, lo, hi, hdg, hsg, hown, ⟨x0, x1, xf0, xf1, xl⟩, ⟨r0, r1, rf0, rf1, rl⟩, hu⟩ := hr
    have hsz := hu.size
    have HOWN := Lib.hid hown
    have HSG := Lib.hid hsg
    have HDG := Lib.hid hdg
    clear hdg hsg hown
    rcases Int.lt_trichotomy m 0 with h | h | h
    · obtain ⟨p1, p2, p3, p4, p5, p6, p7⟩ := neg_parts m h
      have hsg' : decide (n < 0) = true := by rw [← HSG.out (by omega)]; simpa using h
      have P1 := Lib.hid p1
      have P2 := Lib.hid p2
      have P7 := Lib.hid p7
      have HS := Lib.hid hsg'
      have c0 : (m == 0) = false := by simp; omega
      have c0' : (m != 0) = true := by simp; omega
      clear p1 p2 p7 hsg'
      by_cases hd : m.tmod 10 < 0
      · have c1 : decide (m.tmod 10 < 0) = true := by simpa using hd
        go_wp2_with (at_builtin; refine append_digit rfl _ _ rfl wr (w.heap.size + 1 + 1) v L (-(m.tmod 10)) rfl HOWN.out rfl (by omega) (by omega) ?_)
        intro p' cap' w3 hown' hg
        have hr' := HR.out.next (m' := m.tdiv 10) (by omega) (by omega) (fun hq => by rw [HS.out]; simpa using P2.out hq) P1.out hown' hg
        have HR' := Lib.hid hr'
        obtain ⟨y0, y1, yf0, yf1, yl⟩ := HR.out.x.kept hg (fun e => by have := HOWN.out.row _ e; omega)
        clear hown' hg hr' x0 x1 xf0 xf1 r0 r1 rf0 rf1 hu
        go_wp2_with fail
        go_roundw
        case rel => exact ⟨_, _, _, HR'.out⟩
        case measure => exact P7.out
      · have c1 : decide (m.tmod 10 < 0) = false := by simpa using hd
        have hz : m.tmod 10 = 0 := by omega
        have HZ := Lib.hid hz
        clear hz
        go_wp2_with (at_builtin; refine append_digit rfl _ _ rfl wr (w.heap.size + 1 + 1) v L (m.tmod 10) rfl HOWN.out rfl (by omega) (by omega) ?_)
        intro p' cap' w3 hown' hg
        have hr' := HR.out.next (m' := m.tdiv 10) (d := m.tmod 10) (by omega) (by omega) (fun hq => by rw [HS.out]; simpa using P2.out hq) (by have := P1.out; rw [HZ.out] at this ⊢; exact this) hown' hg
        have HR' := Lib.hid hr'
        obtain ⟨y0, y1, yf0, yf1, yl⟩ := HR.out.x.kept hg (fun e => by have := HOWN.out.row _ e; omega)
        clear hown' hg hr' x0 x1 xf0 xf1 r0 r1 rf0 rf1 hu
        go_wp2_with fail
        go_roundw
        case rel => exact ⟨_, _, _, HR'.out⟩
        case measure => exact P7.out
    · subst h
      obtain ⟨p, cap, rfl, hp⟩ := HOWN.out.form
      have hL : L = Dg.dl n.natAbs := by rw [HDG.out]; simp [Dg.dl_zero]
      have HL := Lib.hid hL
      clear hL
      go_wp2_with fail
      obtain ⟨z0, z1, _, _, _⟩ := HR.out.r.put (decide (n < 0)) (.slice p L.length cap)
      have hu2 := setN_dn HR.out.dn (Nat.le_refl _) (decide (n < 0)) (.slice p L.length cap)
      have hI : IsN wr (.agg #[.bool (decide (n < 0)), .slice p L.length cap]) n := ⟨_, rfl, by rw [← HL.out]; exact HOWN.out.sl⟩
      exact bodyPost_ret (w := setN wr w.heap.size (decide (n < 0)) (.slice p L.length cap)) (v := .agg #[.bool (decide (n < 0)), .slice p L.length cap]) (by simp [results, Tryz.results49, go_sem, z0, z1]) rfl ⟨_, rfl, hI.farN (fun g hg => by have := hp g hg; omega) _ _, hu2⟩
    · have hsg' : decide (n < 0) = false := by rw [← HSG.out (by omega)]; simp; omega
      have HS := Lib.hid hsg'
      have P1 := Lib.hid (pos_parts m h)
      have c0 : (m == 0) = false := by simp; omega
      have c0' : (m != 0) = true := by simp; omega
      have b1 : 0 ≤ m % 10 := by omega
      have b2 : m % 10 ≤ 9 := by omega
      have c1 : decide (m % 10 < 0) = false := by simp; omega
      clear hsg'
      go_wp2_with (at_builtin; refine append_digit rfl _ _ rfl wr (w.heap.size + 1 + 1) v L (m % 10) rfl HOWN.out rfl (by omega) (by omega) ?_)
      intro p' cap' w3 hown' hg
      have hr' := HR.out.next (m' := m / 10) (by omega) (by omega) (fun hq => by rw [HS.out]; simp; omega) P1.out hown' hg
      have HR' := Lib.hid hr'
      obtain ⟨y0, y1, yf0, yf1, yl⟩ := HR.out.x.kept hg (fun e => by have := HOWN.out.row _ e; omega)
      clear hown' hg hr' x0 x1 xf0 xf1 r0 r1 rf0 rf1 hu
      go_wp2_with fail
      go_roundw
      case rel => exact ⟨_, _, _, HR'.out⟩
      case measure => simp [intOf]; omega
end Go.Proofs.YtopbbcbpanfigaaGreatDoor
