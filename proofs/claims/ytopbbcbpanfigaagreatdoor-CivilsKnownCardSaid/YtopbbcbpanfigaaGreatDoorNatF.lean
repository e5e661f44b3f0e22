/-
  WALKS OF circaref01: Add, of two signs.
-/
import Derived.Test.YtopbbcbpanfigaaGreatDoorNatE
namespace Go.Proofs.YtopbbcbpanfigaaGreatDoor
open Go.RowKit
theorem rLess_is (s t : Value) (la lb : List Int) (r : Bool) (w : World) (hs : SlD w s la) (ht : SlD w t lb) (ha : Dg.Canon la) (hb : Dg.Canon lb) (hr : decide (Dg.val la < Dg.val lb) = r) :
    Calls Tryz.prog 114 #[s, t] w fun e w' => e = .returned (.bool r) ∧ ∃ n, w' = w.drewN n := by
  subst hr; exact rLess s t la lb w hs ht ha hb
set_option maxHeartbeats 4000000 in
set_option maxRecDepth 10000 in
/-- Of two signs, the first one not less in size. -/
theorem rAdd_diff (va vb : Value) (x y : Int) (w : World) (hva : IsN w va x) (hvb : IsN w vb y) (hsg : decide (y < 0) = !decide (x < 0)) (hxy : y.natAbs ≤ x.natAbs) (hx : (Dg.dl x.natAbs).length ≤ 1000) (_hy : (Dg.dl y.natAbs).length ≤ 1000) :
    Calls Tryz.prog 97 #[va, vb] w (NewN w (x + y)) := by
  obtain ⟨p, n, cap, rfl, hsa⟩ := hva.form
  obtain ⟨q, n', cap', rfl, hsb⟩ := hvb.form
  have hda := Dg.dl_canon x.natAbs
  have hdb := Dg.dl_canon y.natAbs
  have hval : x + y = sg (decide (x < 0)) (Dg.val (Dg.dl x.natAbs) - Dg.val (Dg.dl y.natAbs)) := by
    rw [Dg.dl_val, Dg.dl_val]; unfold sg
    by_cases h : x < 0
    · have h2 : ¬ y < 0 := by simpa [h] using hsg
      simp [h]; omega
    · have h2 : y < 0 := by simpa [h] using hsg
      simp [h]; omega
  have hle : Dg.val (Dg.dl y.natAbs) ≤ Dg.val (Dg.dl x.natAbs) := by rw [Dg.dl_val, Dg.dl_val]; omega
  have hne : (decide (x < 0) == decide (y < 0)) = false := by rw [hsg]; cases decide (x < 0) <;> rfl
  have hlen : (Dg.dl y.natAbs).length ≤ (Dg.dl x.natAbs).length := by
    by_cases hc : (Dg.dl y.natAbs).length ≤ (Dg.dl x.natAbs).length
    · exact hc
    · have := hda.lt_of_len hdb (by omega)
      omega
  rw [hval]
  clear hval hva hvb hsg hxy
  generalize decide (x < 0) = b at *
  generalize decide (y < 0) = bb at *
  generalize Dg.dl x.natAbs = la at *
  generalize Dg.dl y.natAbs = lb at *
  obtain ⟨rfl, l1⟩ := hsa.len
  obtain ⟨rfl, l2⟩ := hsb.len
  have hlt : decide (Dg.val la < Dg.val lb) = false := by simp; omega
  have HLT := Lib.hid hlt
  have HLE := Lib.hid hle
  have HLN := Lib.hid hlen
  have HSA := Lib.hid hsa
  have HSB := Lib.hid hsb
  have HCA := Lib.hid hda
  have HCB := Lib.hid hdb
  have HDA := Lib.hid hda.1
  have HDB := Lib.hid hdb.1
  have hne2 : (b != bb) = true := by simpa using hne
  obtain ⟨W3, hW3⟩ : ∃ W3, W3 = ((w.alloc (.cells #[.bool b, .slice p la.length cap] 80)).alloc (.cells #[.bool bb, .slice q lb.length cap'] 80)).alloc (.cells #[.bool false, .slice none 0 0] 80) := ⟨_, rfl⟩
  have H0 := Lib.hid (show AddRel w b bb (.slice p la.length cap) (.slice q lb.length cap') ((((w.alloc (.cells #[.bool b, .slice p la.length cap] 80)).alloc (.cells #[.bool bb, .slice q lb.length cap'] 80)).alloc (.cells #[.bool false, .slice none 0 0] 80)).alloc (.cells #[.bool b, .slice none 0 0] 80)) (.slice none 0 0) [] from AddRel.start _ _ _ _ _ _)
  have n0 : NBlk W3 w.heap.size b (.slice p la.length cap) := by rw [hW3]; exact ((NBlk.new _ _ _ _).alloc _).alloc _
  have n1 : NBlk W3 (w.heap.size + 1) bb (.slice q lb.length cap') := by rw [hW3]; exact (NBlk.new1 _ _ _ _ _).alloc _
  have u3 : Dn w W3 := by rw [hW3]; exact (((Dn.refl _).alloc _).alloc _).alloc _
  have s3 : W3.heap.size = w.heap.size + 1 + 1 + 1 := by rw [hW3]; simp
  have S3 := Lib.hid s3
  have HW := Lib.hid hW3
  have U3 := Lib.hid u3
  obtain ⟨a0, a1, _, _, al⟩ := n0
  obtain ⟨b0, b1, _, _, bl⟩ := n1
  clear hW3 hsa hsb hda hdb hlt hle hlen u3 s3
  go_enter Tryz.func97, Tryz.ntmps97
  go_wp2_with fail
  rw [← HW.out]
  go_wp2_with fail
  refine (rLess_is _ _ la lb false W3 (HSA.out.dn U3.out) (HSB.out.dn U3.out) HCA.out HCB.out HLT.out).mono ?_
  rintro e w4 ⟨rfl, z, rfl⟩
  rw [HW.out]
  clear a0 a1 b0 b1 al bl HW
  go_wp2_with fail
  go_loopw [10, 11] (fun cv iv wr => ∃ (i : Nat) (c : Int) (v : Value), i ≤ la.length ∧ iv = .int .i64 i ∧ cv = .int .i64 c ∧ c = (Dg.subS la lb i).2 ∧ AddRel w b bb (.slice p la.length cap) (.slice q lb.length cap') wr v (Dg.subS la lb i).1) (fun _ iv _ => la.length - (intOf iv).toNat)
  case atStart => exact ⟨0, 0, _, by omega, rfl, rfl, rfl, H0.out.drewN _⟩
  case round =>
    obtain ⟨i, c, v, hi, rfl, rfl, hc, hr⟩ := hrel
    have HR := Lib.hid hr
    obtain ⟨hl, hdg, k1, k2, _⟩ := Dg.subS_inv HDA.out HDB.out i
    rw [← hc] at k1 k2
    have hlen : (Dg.subS la lb i).1.length ≤ 1000000 := by omega
    have HLEN := Lib.hid hlen
    have HC := Lib.hid hc
    have HDG := Lib.hid hdg
    obtain ⟨hown, ⟨a0, a1, _, _, al⟩, ⟨b0, b1, _, _, bl⟩, ⟨r0, r1, rf0, rf1, rl⟩, ⟨o0, o1, of0, of1, ol⟩, hu⟩ := hr
    have hsz := hu.size
    have HOWN := Lib.hid hown
    clear hl hc hdg hown H0 hlen
    by_cases hgo : i < la.length
    · have q1 : decide ((i : Int) < la.length) = true := by simp; omega
      obtain ⟨e1, e2⟩ := Dg.dig_bd HDA.out i
      obtain ⟨e3, e4⟩ := Dg.dig_bd HDB.out i
      have CA := Lib.hid (fun n => rDigit _ la i (wr.drewN n) ((HSA.out.dn hu).drewN n) HDA.out)
      have CB := Lib.hid (fun n => rDigit _ lb i (wr.drewN n) ((HSB.out.dn hu).drewN n) HDB.out)
      generalize hda : Dg.dig la i = da at *
      generalize hdb : Dg.dig lb i = db at *
      have HX := Lib.hid hda
      have HY := Lib.hid hdb
      clear hda hdb
      by_cases hs : da - db - c < 0
      · have q2 : decide (da - db - c < 0) = true := by simpa using hs
        have HM := Lib.hid (show (da - db - c) % 10 = da - db - c + 10 by omega)
        have HS := Lib.hid hs
        have w1 : 0 ≤ da - db - c + 10 := by omega
        have w2 : da - db - c + 10 ≤ 9 := by omega
        go_wp2_with fail
        go_quiet (first | (go_at_call_of 113 (Value.slice p la.length cap); exact Calls.qs (CA.out _)) | (go_at_call_of 113 (Value.slice q lb.length cap'); exact Calls.qs (CB.out _)))
        go_wp2_with (at_builtin; refine append_digit rfl _ _ rfl _ (w.heap.size + 1 + 1 + 1 + 1) v (Dg.subS la lb i).1 (da - db - c + 10) rfl (HOWN.out.dn ((Dn.refl _).drewN _)) rfl HLEN.out (by simp; omega) ?_)
        intro p2 cap2 w3 hown' hg
        have hr' := (HR.out.drewN _).push hown' hg
        have HR' := Lib.hid hr'
        obtain ⟨y0, y1, yf0, yf1, yl⟩ := (HR.out.o.drewN _).kept hg (fun e => by have := HOWN.out.row _ e; omega)
        clear hown' hg hr' a0 a1 b0 b1 o0 o1 of0 of1 r0 r1 rf0 rf1 hu
        go_wp2_with fail
        go_roundw
        case rel => exact ⟨i + 1, 1, _, by omega, by go_num, rfl, by simp only [Dg.subS]; rw [HX.out, HY.out, ← HC.out, if_pos HS.out], by have := HR'.out; simp only [Dg.subS]; rw [HX.out, HY.out, ← HC.out, HM.out]; exact this⟩
        case measure => simp [intOf]; omega
      · have q2 : decide (da - db - c < 0) = false := by simpa using hs
        have HM := Lib.hid (show (da - db - c) % 10 = da - db - c by omega)
        have HS := Lib.hid hs
        have w1 : 0 ≤ da - db - c := by omega
        have w2 : da - db - c ≤ 9 := by omega
        go_wp2_with fail
        go_quiet (first | (go_at_call_of 113 (Value.slice p la.length cap); exact Calls.qs (CA.out _)) | (go_at_call_of 113 (Value.slice q lb.length cap'); exact Calls.qs (CB.out _)))
        go_wp2_with (at_builtin; refine append_digit rfl _ _ rfl _ (w.heap.size + 1 + 1 + 1 + 1) v (Dg.subS la lb i).1 (da - db - c) rfl (HOWN.out.dn ((Dn.refl _).drewN _)) rfl HLEN.out (by simp; omega) ?_)
        intro p2 cap2 w3 hown' hg
        have hr' := (HR.out.drewN _).push hown' hg
        have HR' := Lib.hid hr'
        obtain ⟨y0, y1, yf0, yf1, yl⟩ := (HR.out.o.drewN _).kept hg (fun e => by have := HOWN.out.row _ e; omega)
        clear hown' hg hr' a0 a1 b0 b1 o0 o1 of0 of1 r0 r1 rf0 rf1 hu
        go_wp2_with fail
        go_roundw
        case rel => exact ⟨i + 1, 0, _, by omega, by go_num, rfl, by simp only [Dg.subS]; rw [HX.out, HY.out, ← HC.out, if_neg (by have := HS.out; omega)], by have := HR'.out; simp only [Dg.subS]; rw [HX.out, HY.out, ← HC.out, HM.out]; exact this⟩
        case measure => simp [intOf]; omega
    · obtain rfl : i = la.length := by omega
      obtain ⟨hv, _⟩ := Dg.subS_val HDA.out HDB.out HLN.out HLE.out
      have HV := Lib.hid hv
      obtain ⟨p3, cap3, rfl, hp3⟩ := HOWN.out.form
      clear hv hgo
      go_wp2_with fail
      refine (rTrim b p3 _ cap3 (Dg.subS la lb la.length).1 wr _ (Dn.refl _) HOWN.out.sl HDG.out).mono ?_
      rintro e w4 ⟨b', k', rfl, hI, q4⟩
      rw [HV.out] at hI
      have HI := Lib.hid (hI.dn q4)
      have N4 := Lib.hid (HR.out.r.dn q4)
      have U4 := Lib.hid (hu.trans q4)
      clear a0 a1 b0 b1 o0 o1 of0 of1 r0 r1 rf0 rf1 hu hI q4
      obtain ⟨r0, r1, rf0, rf1, rl⟩ := N4.out
      go_wp2_with fail
      obtain ⟨z0, z1, _, _, _⟩ := N4.out.put b' (.slice p3 k' cap3)
      exact bodyPost_ret (w := setN w4 (w.heap.size + 1 + 1) b' (.slice p3 k' cap3)) (v := .agg #[.bool b', .slice p3 k' cap3]) (by simp [results, Tryz.results97, go_sem, z0, z1]) rfl
        ⟨_, _, _, _, rfl, HI.out.farN (fun g hg => by have := hp3 g hg; omega) _ _, setN_dn U4.out (by omega) _ _, fun g hg => by have := hp3 g hg; omega⟩
set_option maxHeartbeats 2000000 in
set_option maxRecDepth 10000 in
theorem rAdd_swap (va vb : Value) (x y : Int) (w : World) (hva : IsN w va x) (hvb : IsN w vb y) (hsg : decide (y < 0) = !decide (x < 0)) (hxy : x.natAbs < y.natAbs) (hx : (Dg.dl x.natAbs).length ≤ 1000) (hy : (Dg.dl y.natAbs).length ≤ 1000) :
    Calls Tryz.prog 97 #[va, vb] w (NewN w (x + y)) := by
  have hR := fun (W : World) (h : Dn w W) => rAdd_diff vb va y x W (hvb.dn h) (hva.dn h) (by rw [hsg]; cases decide (x < 0) <;> rfl) (by omega) hy hx
  obtain ⟨p, n, cap, rfl, hsa⟩ := hva.form
  obtain ⟨q, n', cap', rfl, hsb⟩ := hvb.form
  have hda := Dg.dl_canon x.natAbs
  have hdb := Dg.dl_canon y.natAbs
  have hlt : decide (Dg.val (Dg.dl x.natAbs) < Dg.val (Dg.dl y.natAbs)) = true := by rw [Dg.dl_val, Dg.dl_val]; simp; omega
  have hne : (decide (x < 0) == decide (y < 0)) = false := by rw [hsg]; cases decide (x < 0) <;> rfl
  clear hva hvb hsg hxy
  generalize decide (x < 0) = b at *
  generalize decide (y < 0) = bb at *
  generalize Dg.dl x.natAbs = la at *
  generalize Dg.dl y.natAbs = lb at *
  have HR := Lib.hid hR
  have HLT := Lib.hid hlt
  have HSA := Lib.hid hsa
  have HSB := Lib.hid hsb
  have HCA := Lib.hid hda
  have HCB := Lib.hid hdb
  have HC := Lib.hid (Int.add_comm y x)
  have hne2 : (b != bb) = true := by simpa using hne
  obtain ⟨W3, hW3⟩ : ∃ W3, W3 = ((w.alloc (.cells #[.bool b, .slice p n cap] 80)).alloc (.cells #[.bool bb, .slice q n' cap'] 80)).alloc (.cells #[.bool false, .slice none 0 0] 80) := ⟨_, rfl⟩
  have n0 : NBlk W3 w.heap.size b (.slice p n cap) := by rw [hW3]; exact ((NBlk.new _ _ _ _).alloc _).alloc _
  have n1 : NBlk W3 (w.heap.size + 1) bb (.slice q n' cap') := by rw [hW3]; exact (NBlk.new1 _ _ _ _ _).alloc _
  have n2 : NBlk W3 (w.heap.size + 1 + 1) false (.slice none 0 0) := by rw [hW3]; exact NBlk.new2 _ _ _ _ _ _
  have u3 : Dn w W3 := by rw [hW3]; exact (((Dn.refl _).alloc _).alloc _).alloc _
  have HW := Lib.hid hW3
  have U3 := Lib.hid u3
  have N2 := Lib.hid n2
  obtain ⟨a0, a1, _, _, al⟩ := n0
  obtain ⟨b0, b1, _, _, bl⟩ := n1
  clear hW3 hsa hsb hda hdb hlt hR u3 n2
  go_enter Tryz.func97, Tryz.ntmps97
  go_wp2_with fail
  rw [← HW.out]
  go_wp2_with fail
  refine (rLess_is _ _ la lb true W3 (HSA.out.dn U3.out) (HSB.out.dn U3.out) HCA.out HCB.out HLT.out).mono ?_
  rintro e w4 ⟨rfl, z, rfl⟩
  go_wp2_with fail
  refine (HR.out _ (U3.out.drewN z)).mono ?_
  rintro e w5 ⟨b', p', n2, cap2, rfl, hI, q5, hp⟩
  have HI := Lib.hid hI
  have HP := Lib.hid hp
  have n5 := (N2.out.drewN z).dn q5
  have N5 := Lib.hid n5
  have U5 := Lib.hid ((U3.out.drewN z).trans q5)
  have L5 := Lib.hid (U3.out.size)
  obtain ⟨r0, r1, rf0, rf1, rl⟩ := n5
  have hz3 : W3.heap.size = w.heap.size + 1 + 1 + 1 := by rw [HW.out]; simp
  have HZ3 := Lib.hid hz3
  clear hI hp q5 a0 a1 b0 b1 al bl hz3 HW
  go_wp2_with fail
  obtain ⟨z0, z1, _, _, _⟩ := N5.out.put b' (.slice p' n2 cap2)
  have hp2 : ∀ g, p' = some ⟨g, 0, none⟩ → w.heap.size + 1 + 1 + 1 ≤ g := fun g hg => by have := HP.out g hg; have := HZ3.out; simp at *; omega
  exact bodyPost_ret (w := setN w5 (w.heap.size + 1 + 1) b' (.slice p' n2 cap2)) (v := .agg #[.bool b', .slice p' n2 cap2]) (by simp [results, Tryz.results97, go_sem, z0, z1]) rfl
    ⟨_, _, _, _, rfl, by rw [← HC.out]; exact HI.out.farN (fun g hg => by have := hp2 g hg; omega) _ _, setN_dn U5.out (by omega) _ _, fun g hg => by have := hp2 g hg; omega⟩
/-- Sums. -/
theorem rAdd (va vb : Value) (x y : Int) (w : World) (hva : IsN w va x) (hvb : IsN w vb y) (hx : (Dg.dl x.natAbs).length ≤ 1000) (hy : (Dg.dl y.natAbs).length ≤ 1000) :
    Calls Tryz.prog 97 #[va, vb] w (NewN w (x + y)) := by
  by_cases hs : decide (x < 0) = decide (y < 0)
  · exact rAdd_same va vb x y w hva hvb hs hx hy
  · have hs2 : decide (y < 0) = !decide (x < 0) := by
      cases h1 : decide (x < 0) <;> cases h2 : decide (y < 0) <;> simp_all
    by_cases hl : y.natAbs ≤ x.natAbs
    · exact rAdd_diff va vb x y w hva hvb hs2 hl hx hy
    · exact rAdd_swap va vb x y w hva hvb hs2 (by omega) hx hy
end Go.Proofs.YtopbbcbpanfigaaGreatDoor
