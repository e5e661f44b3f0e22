/-
  WALKS OF circaref01: Add.
-/
import Derived.Test.YtopbbcbpanfigaaGreatDoorNatD
import Derived.Deep.RegionWith
namespace Go.Proofs.YtopbbcbpanfigaaGreatDoor
open Go.RowKit
/-- What holds at the head of a loop of Add. -/
structure AddRel (w : World) (ba bb : Bool) (sa sb : Value) (wr : World) (v : Value) (L : List Int) : Prop where
  own : OwnD wr (w.heap.size + 1 + 1 + 1 + 1) v L
  a : NBlk wr w.heap.size ba sa
  b : NBlk wr (w.heap.size + 1) bb sb
  r : NBlk wr (w.heap.size + 1 + 1) false (.slice none 0 0)
  o : NBlk wr (w.heap.size + 1 + 1 + 1) ba v
  dn : Dn w wr
theorem AddRel.push {w : World} {ba bb : Bool} {sa sb : Value} {wr w' : World} {v v' : Value} {L L' : List Int} (h : AddRel w ba bb sa sb wr v L) (hown : OwnD w' (w.heap.size + 1 + 1 + 1 + 1) v' L') (hg : wr.grownBy w' v.ownBlock) :
    AddRel w ba bb sa sb (w'.setCell ⟨w.heap.size + 1 + 1 + 1, 1, none⟩ v') v' L' := by
  have hb := h.own.row
  refine ⟨hown.far (by simp) _, (h.a.kept hg ?_).far (by simp; omega) _, (h.b.kept hg ?_).far (by simp; omega) _, (h.r.kept hg ?_).far (by simp) _, (h.o.kept hg ?_).set1 _, (h.dn.grown hg ?_).setCell (by simp; omega) _⟩
  · intro e; have := hb _ e; omega
  · intro e; have := hb _ e; omega
  · intro e; have := hb _ e; omega
  · intro e; have := hb _ e; omega
  · intro k e; have := hb _ e; omega
theorem NBlk.drewN {w : World} {B : Nat} {b : Bool} {s : Value} (h : NBlk w B b s) (n : Nat) : NBlk (w.drewN n) B b s := h.dn ((Dn.refl _).drewN n)
theorem AddRel.drewN {w : World} {ba bb : Bool} {sa sb : Value} {wr : World} {v : Value} {L : List Int} (h : AddRel w ba bb sa sb wr v L) (n : Nat) : AddRel w ba bb sa sb (wr.drewN n) v L :=
  ⟨h.own.dn ((Dn.refl _).drewN n), h.a.drewN n, h.b.drewN n, h.r.drewN n, h.o.drewN n, h.dn.drewN n⟩
theorem NBlk.new2 (w : World) (o o' : Obj) (b : Bool) (s : Value) (t : TypeId) : NBlk (((w.alloc o).alloc o').alloc (.cells #[.bool b, s] t)) (w.heap.size + 1 + 1) b s := by
  have h := NBlk.new1 (w.alloc o) o' b s t
  simpa using h
theorem NBlk.new3 (w : World) (o o' o'' : Obj) (b : Bool) (s : Value) (t : TypeId) : NBlk ((((w.alloc o).alloc o').alloc o'').alloc (.cells #[.bool b, s] t)) (w.heap.size + 1 + 1 + 1) b s := by
  have h := NBlk.new2 (w.alloc o) o' o'' b s t
  simpa using h
theorem NBlk.alloc {w : World} {B : Nat} {b : Bool} {s : Value} (h : NBlk w B b s) (o : Obj) : NBlk (w.alloc o) B b s := h.dn ((Dn.refl _).alloc o)
theorem AddRel.start (w : World) (ba bb : Bool) (sa sb : Value) (t : TypeId) :
    AddRel w ba bb sa sb ((((w.alloc (.cells #[.bool ba, sa] t)).alloc (.cells #[.bool bb, sb] t)).alloc (.cells #[.bool false, .slice none 0 0] t)).alloc (.cells #[.bool ba, .slice none 0 0] t)) (.slice none 0 0) [] :=
  ⟨OwnD.nil _ _, (((NBlk.new _ _ _ _).alloc _).alloc _).alloc _, ((NBlk.new1 _ _ _ _ _).alloc _).alloc _, (NBlk.new2 _ _ _ _ _ _).alloc _, NBlk.new3 _ _ _ _ _ _ _, ((((Dn.refl _).alloc _).alloc _).alloc _).alloc _⟩
/-- From 'out' at the loop's end to the result. -/
theorem SlD.len {w : World} {p : Option Addr} {n cap : Nat} {l : List Int} (h : SlD w (.slice p n cap) l) : n = l.length ∧ n ≤ 9223372036854775807 := by
  obtain ⟨p', cap', e, h1, h2, _⟩ := h
  injection e with e1 e2 e3
  have := max_len
  omega
/-- What Add leaves: a whole number whose digits lie in a block of its own. -/
def NewN (w : World) (x : Int) (e : Ending) (w' : World) : Prop := ∃ b p n cap, e = .returned (.agg #[.bool b, .slice p n cap]) ∧ IsN w' (.agg #[.bool b, .slice p n cap]) x ∧ Dn w w' ∧ ∀ g, p = some ⟨g, 0, none⟩ → w.heap.size ≤ g
set_option maxHeartbeats 4000000 in
set_option maxRecDepth 10000 in
/-- Of one sign. -/
theorem rAdd_same (va vb : Value) (x y : Int) (w : World) (hva : IsN w va x) (hvb : IsN w vb y) (hsg : decide (x < 0) = decide (y < 0)) (hx : (Dg.dl x.natAbs).length ≤ 1000) (hy : (Dg.dl y.natAbs).length ≤ 1000) :
    Calls Tryz.prog 97 #[va, vb] w (NewN w (x + y)) := by
  obtain ⟨p, n, cap, rfl, hsa⟩ := hva.form
  obtain ⟨q, n', cap', rfl, hsb⟩ := hvb.form
  have hda := Dg.dl_digs x.natAbs
  have hdb := Dg.dl_digs y.natAbs
  have hval : x + y = sg (decide (x < 0)) (Dg.val (Dg.dl x.natAbs) + Dg.val (Dg.dl y.natAbs)) := by
    rw [Dg.dl_val, Dg.dl_val]; unfold sg
    by_cases h : x < 0
    · have h2 : y < 0 := by simpa [h] using hsg.symm
      simp [h]; omega
    · have h2 : ¬ y < 0 := by simpa [h] using hsg.symm
      simp [h]; omega
  rw [hval]
  rw [← hsg] at *
  clear hval hva hvb hsg
  generalize decide (x < 0) = b at *
  generalize Dg.dl x.natAbs = la at *
  generalize Dg.dl y.natAbs = lb at *
  obtain ⟨rfl, l1⟩ := hsa.len
  obtain ⟨rfl, l2⟩ := hsb.len
  have HSA := Lib.hid hsa
  have HSB := Lib.hid hsb
  have HDA := Lib.hid hda
  have HDB := Lib.hid hdb
  obtain ⟨W1, hW1⟩ : ∃ W1, W1 = (((w.alloc (.cells #[.bool b, .slice p la.length cap] 80)).alloc (.cells #[.bool b, .slice q lb.length cap'] 80)).alloc (.cells #[.bool false, .slice none 0 0] 80)).alloc (.cells #[.bool b, .slice none 0 0] 80) := ⟨_, rfl⟩
  have H0 := Lib.hid (show AddRel w b b (.slice p la.length cap) (.slice q lb.length cap') W1 (.slice none 0 0) [] by rw [hW1]; exact AddRel.start _ _ _ _ _ _)
  have HW := Lib.hid hW1
  clear hW1 hsa hsb hda hdb
  go_enter Tryz.func97, Tryz.ntmps97
  go_wp2_with fail
  rw [← HW.out]
  clear HW
  go_loopw [6, 7] (fun cv iv wr => ∃ (i : Nat) (c : Int) (v : Value), i ≤ 1001 ∧ iv = .int .i64 i ∧ cv = .int .i64 c ∧ c = (Dg.addS la lb i).2 ∧ AddRel w b b (.slice p la.length cap) (.slice q lb.length cap') wr v (Dg.addS la lb i).1) (fun _ iv _ => 1002 - (intOf iv).toNat)
  case atStart => exact ⟨0, 0, _, by omega, rfl, rfl, rfl, H0.out⟩
  case round =>
    obtain ⟨i, c, v, hi, rfl, rfl, hc, hr⟩ := hrel
    have HR := Lib.hid hr
    obtain ⟨hl, hdg, k1, k2, _⟩ := Dg.addS_inv HDA.out HDB.out i
    rw [← hc] at k1 k2
    have hend : 1001 ≤ i → ¬ 0 < c := fun h => by
      have := Dg.addS_end HDA.out HDB.out i (by omega) (by omega)
      omega
    have hlen : (Dg.addS la lb i).1.length ≤ 1000000 := by omega
    have HL := Lib.hid hl
    have HC := Lib.hid hc
    have HDG := Lib.hid hdg
    obtain ⟨hown, ⟨a0, a1, _, _, al⟩, ⟨b0, b1, _, _, bl⟩, ⟨r0, r1, rf0, rf1, rl⟩, ⟨o0, o1, of0, of1, ol⟩, hu⟩ := hr
    have hsz := hu.size
    have HOWN := Lib.hid hown
    clear hl hc hdg hown H0
    have hdd1 := Dg.dig_bd HDA.out i
    have hdd2 := Dg.dig_bd HDB.out i
    have HE := Lib.hid hend
    by_cases hgo : i < la.length ∨ i < lb.length ∨ 0 < c
    · have hi2 : i < 1001 := by
        have := HE.out
        omega
      have HA := HSA.out.dn hu
      have HB := HSB.out.dn hu
      obtain ⟨e1, e2⟩ := hdd1
      obtain ⟨e3, e4⟩ := hdd2
      have CA := Lib.hid (fun n => rDigit _ la i (wr.drewN n) (HA.drewN n) HDA.out)
      have CB := Lib.hid (fun n => rDigit _ lb i (wr.drewN n) (HB.drewN n) HDB.out)
      have HLEN := Lib.hid hlen
      generalize hda : Dg.dig la i = da at *
      generalize hdb : Dg.dig lb i = db at *
      have HX := Lib.hid hda
      have HY := Lib.hid hdb
      clear hend HA HB hda hdb hlen
      by_cases t1 : i < la.length
      · have q1 : decide ((i : Int) < la.length) = true := by simp; omega
        go_wp2_with fail
        go_quiet (first | (go_at_call_of 113 (Value.slice p la.length cap); exact Calls.qs (CA.out _)) | (go_at_call_of 113 (Value.slice q lb.length cap'); exact Calls.qs (CB.out _)))
        go_wp2_with (at_builtin; refine append_digit rfl _ _ rfl _ (w.heap.size + 1 + 1 + 1 + 1) v (Dg.addS la lb i).1 ((da + db + c) % 10) rfl (HOWN.out.dn ((Dn.refl _).drewN _)) rfl HLEN.out (by simp; omega) ?_)
        intro p2 cap2 w3 hown' hg
        have hr' := (HR.out.drewN _).push hown' hg
        have HR' := Lib.hid hr'
        obtain ⟨y0, y1, yf0, yf1, yl⟩ := (HR.out.o.drewN _).kept hg (fun e => by have := HOWN.out.row _ e; omega)
        clear hown' hg hr' a0 a1 b0 b1 o0 o1 of0 of1 r0 r1 rf0 rf1 hu
        go_wp2_with fail
        go_roundw
        case rel => exact ⟨i + 1, (da + db + c) / 10, _, by omega, by go_num, rfl, by simp only [Dg.addS]; rw [HX.out, HY.out, HC.out], by have := HR'.out; simp only [Dg.addS]; rw [HX.out, HY.out, ← HC.out]; exact this⟩
        case measure => simp [intOf]; omega
      · have q1 : decide ((i : Int) < la.length) = false := by simp; omega
        by_cases t2 : i < lb.length
        · have q2 : decide ((i : Int) < lb.length) = true := by simp; omega
          go_wp2_with fail
          go_quiet (first | (go_at_call_of 113 (Value.slice p la.length cap); exact Calls.qs (CA.out _)) | (go_at_call_of 113 (Value.slice q lb.length cap'); exact Calls.qs (CB.out _)))
          go_wp2_with (at_builtin; refine append_digit rfl _ _ rfl _ (w.heap.size + 1 + 1 + 1 + 1) v (Dg.addS la lb i).1 ((da + db + c) % 10) rfl (HOWN.out.dn ((Dn.refl _).drewN _)) rfl HLEN.out (by simp; omega) ?_)
          intro p2 cap2 w3 hown' hg
          have hr' := (HR.out.drewN _).push hown' hg
          have HR' := Lib.hid hr'
          obtain ⟨y0, y1, yf0, yf1, yl⟩ := (HR.out.o.drewN _).kept hg (fun e => by have := HOWN.out.row _ e; omega)
          clear hown' hg hr' a0 a1 b0 b1 o0 o1 of0 of1 r0 r1 rf0 rf1 hu
          go_wp2_with fail
          go_roundw
          case rel => exact ⟨i + 1, (da + db + c) / 10, _, by omega, by go_num, rfl, by simp only [Dg.addS]; rw [HX.out, HY.out, HC.out], by have := HR'.out; simp only [Dg.addS]; rw [HX.out, HY.out, ← HC.out]; exact this⟩
          case measure => simp [intOf]; omega
        · have q2 : decide ((i : Int) < lb.length) = false := by simp; omega
          have q3 : decide (0 < c) = true := by simp; omega
          go_wp2_with fail
          go_quiet (first | (go_at_call_of 113 (Value.slice p la.length cap); exact Calls.qs (CA.out _)) | (go_at_call_of 113 (Value.slice q lb.length cap'); exact Calls.qs (CB.out _)))
          go_wp2_with (at_builtin; refine append_digit rfl _ _ rfl _ (w.heap.size + 1 + 1 + 1 + 1) v (Dg.addS la lb i).1 ((da + db + c) % 10) rfl (HOWN.out.dn ((Dn.refl _).drewN _)) rfl HLEN.out (by simp; omega) ?_)
          intro p2 cap2 w3 hown' hg
          have hr' := (HR.out.drewN _).push hown' hg
          have HR' := Lib.hid hr'
          obtain ⟨y0, y1, yf0, yf1, yl⟩ := (HR.out.o.drewN _).kept hg (fun e => by have := HOWN.out.row _ e; omega)
          clear hown' hg hr' a0 a1 b0 b1 o0 o1 of0 of1 r0 r1 rf0 rf1 hu
          go_wp2_with fail
          go_roundw
          case rel => exact ⟨i + 1, (da + db + c) / 10, _, by omega, by go_num, rfl, by simp only [Dg.addS]; rw [HX.out, HY.out, HC.out], by have := HR'.out; simp only [Dg.addS]; rw [HX.out, HY.out, ← HC.out]; exact this⟩
          case measure => simp [intOf]; omega
    · have t1 : ¬ i < la.length := by omega
      have t2 : ¬ i < lb.length := by omega
      have q1 : decide ((i : Int) < la.length) = false := by simp; omega
      have q2 : decide ((i : Int) < lb.length) = false := by simp; omega
      have q3 : decide (0 < c) = false := by simp; omega
      have hv := Dg.addS_val HDA.out HDB.out i (by omega) (by omega) (by rw [← HC.out]; omega)
      have HV := Lib.hid hv
      obtain ⟨p3, cap3, rfl, hp3⟩ := HOWN.out.form
      clear hv hend hlen hdd1 hdd2 hgo
      go_wp2_with fail
      refine (rTrim b p3 _ cap3 (Dg.addS la lb i).1 wr _ (Dn.refl _) HOWN.out.sl HDG.out).mono ?_
      rintro e w4 ⟨b', k', rfl, hI, q4⟩
      rw [HV.out] at hI
      have HI := Lib.hid (hI.dn q4)
      have N4 := Lib.hid (HR.out.r.dn q4)
      have U4 := Lib.hid (hu.trans q4)
      clear a0 a1 b0 b1 o0 o1 of0 of1 r0 r1 rf0 rf1 hu hI q4
      obtain ⟨r0, r1, rf0, rf1, rl⟩ := N4.out
      go_wp2_with fail
      obtain ⟨z0, z1, _, _, _⟩ := N4.out.put b' (.slice p3 k' cap3)
      exact bodyPost_ret (w := setN w4 (w.heap.size + 1 + 1) b' (.slice p3 k' cap3)) (v := .agg #[.bool b', .slice p3 k' cap3]) (by simp [results, Tryz.results97, go_sem, z0, z1]) rfl
        ⟨_, _, _, _, rfl, HI.out.farN (fun g hg => by have := hp3 g hg; omega) _ _, setN_dn U4.out (by omega) _ _, fun g hg => by have := hp3 g hg; omega⟩
end Go.Proofs.YtopbbcbpanfigaaGreatDoor
