/-
  WALKS OF circaref01: Parse. (Printed by wip/gen/natP.py.)
-/
import Derived.Test.YtopbbcbpanfigaaGreatDoorNatT
import Derived.Deep.RegionLaw
import Derived.Lib.Strings
namespace Go.Proofs.YtopbbcbpanfigaaGreatDoor
open Go.RowKit
/-- append(v, d) at a step of a region that draws its order. -/
theorem step_digit {ops : Array Oper} {o : Oper} {a : Act} {K : Act → World → Prop} {Q : Exit → Act → World → Prop} {E : Prop} (hgd : o.guard = none) (s x : Operand)
    (ho : o.op = .call { callee := .builtin .append, args := #[s, x], argTypes := #[78, 78] }) (w : World) (base : Nat) (v : Value) (l : List Int) (d : Int) (hs : a.eval s = v) (hown : OwnD w base v l)
    (hx : a.eval x = .slice (some ⟨w.heap.size, 0, none⟩) 1 1) (hl : l.length ≤ 1000000) (hb : base ≤ w.heap.size)
    (h : ∀ p' cap' w', OwnD w' base (.slice p' (l.length + 1) cap') (l ++ [d]) → w.grownBy w' v.ownBlock → K (a.put o.dst (.slice p' (l.length + 1) cap')) w') :
    if Region.wanted o (yielded ops a.tmps) = true then Oper.wp Tryz.prog o a ((w.alloc (.cells #[.int .u8 d] 5)).drew) K Q else E := by
  have hw : Region.wanted o (yielded ops a.tmps) = true := by simp [Region.wanted, hgd]
  rw [if_pos hw]
  obtain ⟨i0, hi, hz0, hz1, hz2⟩ := info_parts infoU8
  refine wp_append_own ((w.alloc (.cells #[.int .u8 d] 5)).drew) s x 78 ho base 5 i0 (.int .u8 0) 1 1 Tryz.underlying78 hi hz0 hz1 hz2 rfl (by decide) v _ _ hs (World.ownsRow.drew (hown.own.alloc _)) ⟨w.heap.size, 0, none⟩ 1 1 [.int .u8 d] hx rfl ?_ ?_ ?_ ?_ ?_ ?_
  · intro j u hj
    match j, hj with
    | 0, hj => simp at hj; subst hj; simp [Addr.add]
  · intro u hu; simp at hu; subst hu; rfl
  · unfold maxLen; omega
  · omega
  · simp; omega
  · intro v' w' h1 h2 _
    have h3 : OwnD w' base v' (l ++ [d]) := ⟨by simpa using h1⟩
    obtain ⟨p', cap', e, _⟩ := h3.form
    rw [List.length_append] at e
    subst e
    have h4 : w.grownBy ((w.alloc (.cells #[.int .u8 d] 5)).drew) v.ownBlock := by
      have := World.grownBy_alloc w (.cells #[.int .u8 d] 5) v.ownBlock
      exact ⟨this.os, this.tape, this.output, this.size, this.block⟩
    exact h p' cap' w' h3 (grown_trans h4 h2)
/-- A numeral: with a sign, where b says so. -/
def isNeg (l : List UInt8) : Bool := l.head? == some 45
def dsOf (l : List UInt8) : List UInt8 := if isNeg l then l.drop 1 else l
def pOk (l : List UInt8) : Prop := dsOf l ≠ [] ∧ ¬ ((dsOf l).head? = some 48 ∧ 1 < l.length) ∧ ∀ c ∈ dsOf l, Dg.isD c
def pVal (l : List UInt8) : Int := sg (isNeg l) (Dg.nvA 0 (dsOf l))
def PPost (s : ByteArray) (w : World) (e : Ending) (w' : World) : Prop :=
  (pOk s.data.toList ∧ ∃ b p n cap, e = .returned (.tuple #[.agg #[.bool b, .slice p n cap], .bool true]) ∧ IsN w' (.agg #[.bool b, .slice p n cap]) (pVal s.data.toList) ∧ Dn w w') ∨
    (¬ pOk s.data.toList ∧ e = .returned (.tuple #[.agg #[.bool false, .slice none 0 0], .bool false]) ∧ Dn w w')
theorem get_at (s : ByteArray) (k : Nat) (h : k < s.size) : s.data.toList[k]? = some s[k] := by
  rw [Array.getElem?_toList, Array.getElem?_eq_getElem (show k < s.data.size from h)]
  rfl
theorem len_is (s : ByteArray) : s.data.toList.length = s.size := (Lib.size_eq s).symm
/-- The digits behind the k-th byte, the least first. -/
def rv (s : ByteArray) (k : Nat) : List Int := (s.data.toList.drop k).reverse.map Dg.dv
theorem rv_end (s : ByteArray) : rv s s.size = [] := by unfold rv; rw [List.drop_of_length_le (by rw [len_is]; exact Nat.le_refl _)]; rfl
theorem rv_step (s : ByteArray) (m : Nat) (h : m < s.size) : rv s m = rv s (m + 1) ++ [Dg.dv s[m]] := by
  have h2 : m < s.data.toList.length := by rw [len_is]; exact h
  have e : s.data.toList.drop m = s[m] :: s.data.toList.drop (m + 1) := by
    rw [List.drop_eq_getElem_cons h2]
    have := get_at s m h
    rw [List.getElem?_eq_getElem h2] at this
    rw [Option.some.inj this]
  unfold rv
  rw [e]; simp
theorem rv_len (s : ByteArray) (k : Nat) : (rv s k).length ≤ s.size := by unfold rv; rw [List.length_map, List.length_reverse, List.length_drop, len_is]; omega
structure ParseRel (w : World) (b : Bool) (s : ByteArray) (f : Nat) (wr : World) (k : Nat) (v : Value) : Prop where
  hf : f ≤ k
  hk : k ≤ s.size
  dg : ∀ c ∈ s.data.toList.drop k, Dg.isD c
  own : OwnD wr (w.heap.size + 1 + 1) v (rv s k)
  r : NBlk wr w.heap.size false (.slice none 0 0)
  x : NBlk wr (w.heap.size + 1) b v
  dn : Dn w wr
theorem drop_dg {s : ByteArray} {m : Nat} (hm : m < s.size) (h : ∀ c ∈ s.data.toList.drop (m + 1), Dg.isD c) (hd : Dg.isD s[m]) : ∀ c ∈ s.data.toList.drop m, Dg.isD c := by
  have h2 : m < s.data.toList.length := by rw [len_is]; exact hm
  have e : s.data.toList.drop m = s[m] :: s.data.toList.drop (m + 1) := by
    rw [List.drop_eq_getElem_cons h2]
    have := get_at s m hm
    rw [List.getElem?_eq_getElem h2] at this
    rw [Option.some.inj this]
  intro c hc
  rw [e] at hc
  rcases List.mem_cons.1 hc with rfl | hc
  · exact hd
  · exact h c hc
/-- What the text is, told by its first bytes. -/
structure Start (s : ByteArray) (b : Bool) (f : Nat) : Prop where
  neg : isNeg s.data.toList = b
  ds : dsOf s.data.toList = s.data.toList.drop f
  hf : f = if b then 1 else 0
theorem start_neg {s : ByteArray} (h : 0 < s.size) (e : s[0] = 45) : Start s true 1 := by
  have h1 := get_at s 0 h
  have hn : isNeg s.data.toList = true := by
    unfold isNeg
    rw [List.head?_eq_getElem?, h1, e]; rfl
  exact ⟨hn, by unfold dsOf; rw [hn]; rfl, rfl⟩
theorem start_pos {s : ByteArray} (h : ∀ h : 0 < s.size, s[0] ≠ 45) : Start s false 0 := by
  have hn : isNeg s.data.toList = false := by
    unfold isNeg
    by_cases hs : 0 < s.size
    · rw [List.head?_eq_getElem?, get_at s 0 hs]
      simpa using h hs
    · have : s.data.toList = [] := List.length_eq_zero_iff.1 (by rw [len_is]; omega)
      rw [this]; rfl
  exact ⟨hn, by unfold dsOf; rw [hn]; simp, rfl⟩
theorem not_ok_empty {s : ByteArray} {b : Bool} {f : Nat} (h : Start s b f) (he : s.size = f) : ¬ pOk s.data.toList := by
  intro hp
  have := hp.1
  rw [h.ds] at this
  exact this (List.drop_of_length_le (by rw [len_is]; omega))
theorem not_ok_zero {s : ByteArray} {b : Bool} {f : Nat} (h : Start s b f) (hl : f < s.size) (hz : s[f] = 48) (h1 : 1 < s.size) : ¬ pOk s.data.toList := by
  intro hp
  refine hp.2.1 ⟨?_, by rw [len_is]; exact h1⟩
  rw [h.ds, List.head?_drop, get_at s f hl, hz]
theorem not_ok_digit {s : ByteArray} {b : Bool} {f m : Nat} (h : Start s b f) (hl : f ≤ m) (hm : m < s.size) (hd : ¬ Dg.isD s[m]) : ¬ pOk s.data.toList := by
  intro hp
  refine hd (hp.2.2 _ ?_)
  rw [h.ds]
  have : (s.data.toList.drop f)[m - f]? = some s[m] := by
    rw [List.getElem?_drop, show f + (m - f) = m by omega, get_at s m hm]
  exact List.mem_of_getElem? this
theorem ok_all {s : ByteArray} {b : Bool} {f : Nat} (h : Start s b f) (hl : f < s.size) (hz : ¬ (s[f] = 48 ∧ 1 < s.size)) (hd : ∀ c ∈ s.data.toList.drop f, Dg.isD c) : pOk s.data.toList ∧ pVal s.data.toList = sg b (Dg.val (rv s f)) := by
  refine ⟨⟨?_, ?_, ?_⟩, ?_⟩
  · rw [h.ds]
    intro e
    have := congrArg List.length e
    rw [List.length_drop, len_is] at this
    simp at this; omega
  · rw [h.ds, List.head?_drop, get_at s f hl, len_is]
    intro e
    exact hz ⟨by simpa using e.1, e.2⟩
  · rw [h.ds]; exact hd
  · unfold pVal rv
    rw [h.neg, h.ds, Dg.nvA_val _ hd]
    simp
set_option maxHeartbeats 4000000 in
set_option maxRecDepth 10000 in
theorem rParse_neg (s : ByteArray) (w : World) (hs : s.size ≤ 1000) (ST : Start s true 1) (hlt : 1 < s.size) (h45 : s[0]'(by omega) = 45) (hz : ¬ (s[1] = 48 ∧ 1 < s.size)) :
    Calls Tryz.prog 53 #[.string s] w (PPost s w) := by
  obtain ⟨W, hW⟩ : ∃ W, W = (w.alloc (.cells #[.bool false, .slice none 0 0] 80)).alloc (.cells #[.bool true, .slice none 0 0] 80) := ⟨_, rfl⟩
  have N1 := Lib.hid (show NBlk W w.heap.size false (.slice none 0 0) by rw [hW]; exact (NBlk.new _ _ _ _).alloc _)
  have N2 := Lib.hid (show NBlk W (w.heap.size + 1) true (.slice none 0 0) by rw [hW]; exact NBlk.new1 _ _ _ _ _)
  have U := Lib.hid (show Dn w W by rw [hW]; exact ((Dn.refl _).alloc _).alloc _)
  have HW := Lib.hid hW
  have ST := ST
  clear hW
  have q0 : ((s[0].toNat : Int) == 45) = true := by rw [h45]; rfl
  have hz1 : s[1] ≠ 48 := fun e => hz ⟨e, hlt⟩
  have q1 : ((s[1].toNat : Int) == 48) = false := by
    rw [beq_eq_false_iff_ne]; intro e; exact hz1 (UInt8.toNat_inj.1 (by simpa using (by exact_mod_cast e : s[1].toNat = 48)))
  have q2 : ((s.size : Int) == 1) = false := by rw [beq_eq_false_iff_ne]; omega
  clear h45 hz1
  go_enter Tryz.func53, Tryz.ntmps53
  go_wp2_with fail
  rw [← HW.out]
  clear HW q0 q1 q2
  go_loopw [6] (fun iv wr => ∃ (k : Nat) (j : Int) (v : Value), j = (k : Int) - 1 ∧ iv = .int .i64 j ∧ ParseRel w true s 1 wr k v) (fun iv _ => (intOf iv + 1).toNat)
  case atStart => exact ⟨s.size, _, .slice none 0 0, rfl, rfl, ⟨by omega, Nat.le_refl _, by rw [List.drop_of_length_le (by rw [len_is]; exact Nat.le_refl _)]; intro c hc; simp at hc, by rw [rv_end]; exact OwnD.nil _ _, N1.out, N2.out, U.out⟩⟩
  case round =>
    obtain ⟨k, j, v, hj, rfl, hR⟩ := hrel
    have HR := Lib.hid hR
    obtain ⟨hfk, hks, hdg, hown, ⟨r0, r1, rf0, rf1, rl⟩, ⟨x0, x1, xf0, xf1, xl⟩, hu⟩ := hR
    have HOWN := Lib.hid hown
    have HDG := Lib.hid hdg
    clear hdg hown
    by_cases h0 : k = 1
    · subst h0
      obtain rfl : j = 0 := by omega
      obtain ⟨p, cap, rfl, hp⟩ := HOWN.out.form
      obtain ⟨ok1, ok2⟩ := ok_all ST hlt hz HDG.out
      have OK1 := Lib.hid ok1
      have OK2 := Lib.hid ok2
      clear hj ok1 ok2
      go_wp2_with fail
      refine (rTrim true p _ cap (rv s 1) wr _ (Dn.refl _) HOWN.out.sl (Dg.dv_digs _ HDG.out)).mono ?_
      rintro e w4 ⟨b', k', rfl, hI, q4⟩
      rw [← OK2.out] at hI
      have HI := Lib.hid (hI.dn q4)
      have N4 := Lib.hid (HR.out.r.dn q4)
      have U4 := Lib.hid (hu.trans q4)
      clear r0 r1 rf0 rf1 x0 x1 xf0 xf1 hu hI q4
      obtain ⟨r0, r1, rf0, rf1, rl⟩ := N4.out
      go_wp2_with fail
      obtain ⟨z0, z1, _, _, _⟩ := N4.out.put b' (.slice p k' cap)
      exact bodyPost_ret (w := setN w4 w.heap.size b' (.slice p k' cap)) (v := .tuple #[.agg #[.bool b', .slice p k' cap], .bool true]) (by simp [results, Tryz.results53, go_sem, z0, z1]) rfl
        (Or.inl ⟨OK1.out, _, _, _, _, rfl, HI.out.farN (fun g hg => by have := hp g hg; omega) _ _, setN_dn U4.out (Nat.le_refl _) _ _⟩)
    · obtain ⟨m, rfl⟩ : ∃ m, k = m + 1 := ⟨k - 1, by omega⟩
      obtain rfl : j = (m : Int) := by omega
      have hm : m < s.size := by omega
      have hfm : (1 : Int) ≤ m := by omega
      have hc := UInt8.toNat_lt s[m]
      have HST := Lib.hid (rv_step s m hm)
      have HLN := Lib.hid (show (rv s (m + 1)).length ≤ 1000000 by have := rv_len s (m + 1); omega)
      have HDV := Lib.hid (show Dg.dv s[m] = (s[m].toNat : Int) - 48 from rfl)
      clear hj
      by_cases hd : Dg.isD s[m]
      · have HD := Lib.hid hd
        obtain ⟨d1, d2⟩ := hd
        have e1 : decide ((s[m].toNat : Int) < 48) = false := by simp; omega
        have e2 : decide (57 < (s[m].toNat : Int)) = false := by simp; omega
        have b1 : 0 ≤ (s[m].toNat : Int) - 48 := by omega
        have b2 : (s[m].toNat : Int) - 48 ≤ 9 := by omega
        have hv : IntKind.u8.wrap ((s[m].toNat : Int) - 48) = (s[m].toNat : Int) - 48 := IntWalk.u8_in _ (by omega)
        go_wp2_with fail
        go_region_law (refine step_digit (by rfl) _ _ (by rfl) wr (w.heap.size + 1 + 1) v (rv s (m + 1)) ((s[m].toNat : Int) - 48) (by rfl) HOWN.out (by rfl) HLN.out (by omega) ?_; intro p3 cap3 w3 hown' hg; obtain ⟨y0, y1, yf0, yf1, yl⟩ := HR.out.x.kept hg (fun e => by have := HOWN.out.row _ e; omega))
        all_goals
          have HN := Lib.hid (show ParseRel w true s 1 (w3.setCell ⟨w.heap.size + 1, 1, none⟩ (.slice p3 ((rv s (m + 1)).length + 1) cap3)) m (.slice p3 ((rv s (m + 1)).length + 1) cap3) from
            ⟨by omega, by omega, drop_dg hm HDG.out HD.out, by rw [HST.out]; exact (show OwnD w3 _ _ (rv s (m + 1) ++ [Dg.dv s[m]]) from by rw [HDV.out]; exact hown').far (by simp) _,
              (HR.out.r.kept hg (fun e => by have := HOWN.out.row _ e; omega)).far (by simp) _, (HR.out.x.kept hg (fun e => by have := HOWN.out.row _ e; omega)).set1 _, (HR.out.dn.grown hg (fun k e => by have := HOWN.out.row _ e; omega)).setCell (by simp) _⟩)
          clear hown' hg hv
          go_wp2_with fail
          go_roundw
          case rel => exact ⟨m, _, _, rfl, rfl, HN.out⟩
          case measure => simp [intOf]
      · have NO := Lib.hid (not_ok_digit ST (by omega) hm hd)
        by_cases h48 : (s[m].toNat : Int) < 48
        · have e1 : decide ((s[m].toNat : Int) < 48) = true := by simpa using h48
          clear hd
          go_wp2_with fail
          obtain ⟨z0, z1, _, _, _⟩ := HR.out.r.put false (.slice none 0 0)
          exact bodyPost_ret (w := setN wr w.heap.size false (.slice none 0 0)) (v := .tuple #[.agg #[.bool false, .slice none 0 0], .bool false]) (by simp [results, Tryz.results53, go_sem, z0, z1]) rfl
            (Or.inr ⟨NO.out, rfl, setN_dn HR.out.dn (Nat.le_refl _) _ _⟩)
        · have e1 : decide ((s[m].toNat : Int) < 48) = false := by simpa using h48
          have e2 : decide (57 < (s[m].toNat : Int)) = true := by unfold Dg.isD at hd; simp; omega
          clear hd
          go_wp2_with fail
          obtain ⟨z0, z1, _, _, _⟩ := HR.out.r.put false (.slice none 0 0)
          exact bodyPost_ret (w := setN wr w.heap.size false (.slice none 0 0)) (v := .tuple #[.agg #[.bool false, .slice none 0 0], .bool false]) (by simp [results, Tryz.results53, go_sem, z0, z1]) rfl
            (Or.inr ⟨NO.out, rfl, setN_dn HR.out.dn (Nat.le_refl _) _ _⟩)
set_option maxHeartbeats 4000000 in
set_option maxRecDepth 10000 in
theorem rParse_pos (s : ByteArray) (w : World) (hs : s.size ≤ 1000) (ST : Start s false 0) (hlt : 0 < s.size) (h45 : s[0] ≠ 45) (hz : ¬ (s[0] = 48 ∧ 1 < s.size)) :
    Calls Tryz.prog 53 #[.string s] w (PPost s w) := by
  obtain ⟨W, hW⟩ : ∃ W, W = (w.alloc (.cells #[.bool false, .slice none 0 0] 80)).alloc (.cells #[.bool false, .slice none 0 0] 80) := ⟨_, rfl⟩
  have N1 := Lib.hid (show NBlk W w.heap.size false (.slice none 0 0) by rw [hW]; exact (NBlk.new _ _ _ _).alloc _)
  have N2 := Lib.hid (show NBlk W (w.heap.size + 1) false (.slice none 0 0) by rw [hW]; exact NBlk.new1 _ _ _ _ _)
  have U := Lib.hid (show Dn w W by rw [hW]; exact ((Dn.refl _).alloc _).alloc _)
  have HW := Lib.hid hW
  have ST := ST
  clear hW
  have q0 : ((s[0].toNat : Int) == 45) = false := by
    rw [beq_eq_false_iff_ne]; intro e; exact h45 (UInt8.toNat_inj.1 (by simpa using (by exact_mod_cast e : s[0].toNat = 45)))
  have q2 : ((s.size : Int) == 0) = false := by rw [beq_eq_false_iff_ne]; omega
  clear h45
  by_cases h48 : s[0] = 48
  · have q1 : ((s[0].toNat : Int) == 48) = true := by rw [h48]; rfl
    have q4 : ¬ 1 < s.size := fun h => hz ⟨h48, h⟩
    have q3 : decide (1 < (s.size : Int)) = false := by rw [decide_eq_false_iff_not]; omega
    clear h48
    go_enter Tryz.func53, Tryz.ntmps53
    go_wp2_with fail
    rw [← HW.out]
    clear HW q0 q1 q2 q3
    go_loopw [6] (fun iv wr => ∃ (k : Nat) (j : Int) (v : Value), j = (k : Int) - 1 ∧ iv = .int .i64 j ∧ ParseRel w false s 0 wr k v) (fun iv _ => (intOf iv + 1).toNat)
    case atStart => exact ⟨s.size, _, .slice none 0 0, rfl, rfl, ⟨by omega, Nat.le_refl _, by rw [List.drop_of_length_le (by rw [len_is]; exact Nat.le_refl _)]; intro c hc; simp at hc, by rw [rv_end]; exact OwnD.nil _ _, N1.out, N2.out, U.out⟩⟩
    case round =>
      obtain ⟨k, j, v, hj, rfl, hR⟩ := hrel
      have HR := Lib.hid hR
      obtain ⟨hfk, hks, hdg, hown, ⟨r0, r1, rf0, rf1, rl⟩, ⟨x0, x1, xf0, xf1, xl⟩, hu⟩ := hR
      have HOWN := Lib.hid hown
      have HDG := Lib.hid hdg
      clear hdg hown
      by_cases h0 : k = 0
      · subst h0
        obtain rfl : j = -1 := by omega
        obtain ⟨p, cap, rfl, hp⟩ := HOWN.out.form
        obtain ⟨ok1, ok2⟩ := ok_all ST hlt hz HDG.out
        have OK1 := Lib.hid ok1
        have OK2 := Lib.hid ok2
        clear hj ok1 ok2
        go_wp2_with fail
        refine (rTrim false p _ cap (rv s 0) wr _ (Dn.refl _) HOWN.out.sl (Dg.dv_digs _ HDG.out)).mono ?_
        rintro e w4 ⟨b', k', rfl, hI, q4⟩
        rw [← OK2.out] at hI
        have HI := Lib.hid (hI.dn q4)
        have N4 := Lib.hid (HR.out.r.dn q4)
        have U4 := Lib.hid (hu.trans q4)
        clear r0 r1 rf0 rf1 x0 x1 xf0 xf1 hu hI q4
        obtain ⟨r0, r1, rf0, rf1, rl⟩ := N4.out
        go_wp2_with fail
        obtain ⟨z0, z1, _, _, _⟩ := N4.out.put b' (.slice p k' cap)
        exact bodyPost_ret (w := setN w4 w.heap.size b' (.slice p k' cap)) (v := .tuple #[.agg #[.bool b', .slice p k' cap], .bool true]) (by simp [results, Tryz.results53, go_sem, z0, z1]) rfl
          (Or.inl ⟨OK1.out, _, _, _, _, rfl, HI.out.farN (fun g hg => by have := hp g hg; omega) _ _, setN_dn U4.out (Nat.le_refl _) _ _⟩)
      · obtain ⟨m, rfl⟩ : ∃ m, k = m + 1 := ⟨k - 1, by omega⟩
        obtain rfl : j = (m : Int) := by omega
        have hm : m < s.size := by omega
        have hfm : (0 : Int) ≤ m := by omega
        have hc := UInt8.toNat_lt s[m]
        have HST := Lib.hid (rv_step s m hm)
        have HLN := Lib.hid (show (rv s (m + 1)).length ≤ 1000000 by have := rv_len s (m + 1); omega)
        have HDV := Lib.hid (show Dg.dv s[m] = (s[m].toNat : Int) - 48 from rfl)
        clear hj
        by_cases hd : Dg.isD s[m]
        · have HD := Lib.hid hd
          obtain ⟨d1, d2⟩ := hd
          have e1 : decide ((s[m].toNat : Int) < 48) = false := by simp; omega
          have e2 : decide (57 < (s[m].toNat : Int)) = false := by simp; omega
          have b1 : 0 ≤ (s[m].toNat : Int) - 48 := by omega
          have b2 : (s[m].toNat : Int) - 48 ≤ 9 := by omega
          have hv : IntKind.u8.wrap ((s[m].toNat : Int) - 48) = (s[m].toNat : Int) - 48 := IntWalk.u8_in _ (by omega)
          go_wp2_with fail
          go_region_law (refine step_digit (by rfl) _ _ (by rfl) wr (w.heap.size + 1 + 1) v (rv s (m + 1)) ((s[m].toNat : Int) - 48) (by rfl) HOWN.out (by rfl) HLN.out (by omega) ?_; intro p3 cap3 w3 hown' hg; obtain ⟨y0, y1, yf0, yf1, yl⟩ := HR.out.x.kept hg (fun e => by have := HOWN.out.row _ e; omega))
          all_goals
            have HN := Lib.hid (show ParseRel w false s 0 (w3.setCell ⟨w.heap.size + 1, 1, none⟩ (.slice p3 ((rv s (m + 1)).length + 1) cap3)) m (.slice p3 ((rv s (m + 1)).length + 1) cap3) from
              ⟨by omega, by omega, drop_dg hm HDG.out HD.out, by rw [HST.out]; exact (show OwnD w3 _ _ (rv s (m + 1) ++ [Dg.dv s[m]]) from by rw [HDV.out]; exact hown').far (by simp) _,
                (HR.out.r.kept hg (fun e => by have := HOWN.out.row _ e; omega)).far (by simp) _, (HR.out.x.kept hg (fun e => by have := HOWN.out.row _ e; omega)).set1 _, (HR.out.dn.grown hg (fun k e => by have := HOWN.out.row _ e; omega)).setCell (by simp) _⟩)
            clear hown' hg hv
            go_wp2_with fail
            go_roundw
            case rel => exact ⟨m, _, _, rfl, rfl, HN.out⟩
            case measure => simp [intOf]
        · have NO := Lib.hid (not_ok_digit ST (by omega) hm hd)
          by_cases h48 : (s[m].toNat : Int) < 48
          · have e1 : decide ((s[m].toNat : Int) < 48) = true := by simpa using h48
            clear hd
            go_wp2_with fail
            obtain ⟨z0, z1, _, _, _⟩ := HR.out.r.put false (.slice none 0 0)
            exact bodyPost_ret (w := setN wr w.heap.size false (.slice none 0 0)) (v := .tuple #[.agg #[.bool false, .slice none 0 0], .bool false]) (by simp [results, Tryz.results53, go_sem, z0, z1]) rfl
              (Or.inr ⟨NO.out, rfl, setN_dn HR.out.dn (Nat.le_refl _) _ _⟩)
          · have e1 : decide ((s[m].toNat : Int) < 48) = false := by simpa using h48
            have e2 : decide (57 < (s[m].toNat : Int)) = true := by unfold Dg.isD at hd; simp; omega
            clear hd
            go_wp2_with fail
            obtain ⟨z0, z1, _, _, _⟩ := HR.out.r.put false (.slice none 0 0)
            exact bodyPost_ret (w := setN wr w.heap.size false (.slice none 0 0)) (v := .tuple #[.agg #[.bool false, .slice none 0 0], .bool false]) (by simp [results, Tryz.results53, go_sem, z0, z1]) rfl
              (Or.inr ⟨NO.out, rfl, setN_dn HR.out.dn (Nat.le_refl _) _ _⟩)
  · have q1 : ((s[0].toNat : Int) == 48) = false := by
      rw [beq_eq_false_iff_ne]; intro e; exact h48 (UInt8.toNat_inj.1 (by simpa using (by exact_mod_cast e : s[0].toNat = 48)))
    clear h48
    go_enter Tryz.func53, Tryz.ntmps53
    go_wp2_with fail
    rw [← HW.out]
    clear HW q0 q1 q2
    go_loopw [6] (fun iv wr => ∃ (k : Nat) (j : Int) (v : Value), j = (k : Int) - 1 ∧ iv = .int .i64 j ∧ ParseRel w false s 0 wr k v) (fun iv _ => (intOf iv + 1).toNat)
    case atStart => exact ⟨s.size, _, .slice none 0 0, rfl, rfl, ⟨by omega, Nat.le_refl _, by rw [List.drop_of_length_le (by rw [len_is]; exact Nat.le_refl _)]; intro c hc; simp at hc, by rw [rv_end]; exact OwnD.nil _ _, N1.out, N2.out, U.out⟩⟩
    case round =>
      obtain ⟨k, j, v, hj, rfl, hR⟩ := hrel
      have HR := Lib.hid hR
      obtain ⟨hfk, hks, hdg, hown, ⟨r0, r1, rf0, rf1, rl⟩, ⟨x0, x1, xf0, xf1, xl⟩, hu⟩ := hR
      have HOWN := Lib.hid hown
      have HDG := Lib.hid hdg
      clear hdg hown
      by_cases h0 : k = 0
      · subst h0
        obtain rfl : j = -1 := by omega
        obtain ⟨p, cap, rfl, hp⟩ := HOWN.out.form
        obtain ⟨ok1, ok2⟩ := ok_all ST hlt hz HDG.out
        have OK1 := Lib.hid ok1
        have OK2 := Lib.hid ok2
        clear hj ok1 ok2
        go_wp2_with fail
        refine (rTrim false p _ cap (rv s 0) wr _ (Dn.refl _) HOWN.out.sl (Dg.dv_digs _ HDG.out)).mono ?_
        rintro e w4 ⟨b', k', rfl, hI, q4⟩
        rw [← OK2.out] at hI
        have HI := Lib.hid (hI.dn q4)
        have N4 := Lib.hid (HR.out.r.dn q4)
        have U4 := Lib.hid (hu.trans q4)
        clear r0 r1 rf0 rf1 x0 x1 xf0 xf1 hu hI q4
        obtain ⟨r0, r1, rf0, rf1, rl⟩ := N4.out
        go_wp2_with fail
        obtain ⟨z0, z1, _, _, _⟩ := N4.out.put b' (.slice p k' cap)
        exact bodyPost_ret (w := setN w4 w.heap.size b' (.slice p k' cap)) (v := .tuple #[.agg #[.bool b', .slice p k' cap], .bool true]) (by simp [results, Tryz.results53, go_sem, z0, z1]) rfl
          (Or.inl ⟨OK1.out, _, _, _, _, rfl, HI.out.farN (fun g hg => by have := hp g hg; omega) _ _, setN_dn U4.out (Nat.le_refl _) _ _⟩)
      · obtain ⟨m, rfl⟩ : ∃ m, k = m + 1 := ⟨k - 1, by omega⟩
        obtain rfl : j = (m : Int) := by omega
        have hm : m < s.size := by omega
        have hfm : (0 : Int) ≤ m := by omega
        have hc := UInt8.toNat_lt s[m]
        have HST := Lib.hid (rv_step s m hm)
        have HLN := Lib.hid (show (rv s (m + 1)).length ≤ 1000000 by have := rv_len s (m + 1); omega)
        have HDV := Lib.hid (show Dg.dv s[m] = (s[m].toNat : Int) - 48 from rfl)
        clear hj
        by_cases hd : Dg.isD s[m]
        · have HD := Lib.hid hd
          obtain ⟨d1, d2⟩ := hd
          have e1 : decide ((s[m].toNat : Int) < 48) = false := by simp; omega
          have e2 : decide (57 < (s[m].toNat : Int)) = false := by simp; omega
          have b1 : 0 ≤ (s[m].toNat : Int) - 48 := by omega
          have b2 : (s[m].toNat : Int) - 48 ≤ 9 := by omega
          have hv : IntKind.u8.wrap ((s[m].toNat : Int) - 48) = (s[m].toNat : Int) - 48 := IntWalk.u8_in _ (by omega)
          go_wp2_with fail
          go_region_law (refine step_digit (by rfl) _ _ (by rfl) wr (w.heap.size + 1 + 1) v (rv s (m + 1)) ((s[m].toNat : Int) - 48) (by rfl) HOWN.out (by rfl) HLN.out (by omega) ?_; intro p3 cap3 w3 hown' hg; obtain ⟨y0, y1, yf0, yf1, yl⟩ := HR.out.x.kept hg (fun e => by have := HOWN.out.row _ e; omega))
          all_goals
            have HN := Lib.hid (show ParseRel w false s 0 (w3.setCell ⟨w.heap.size + 1, 1, none⟩ (.slice p3 ((rv s (m + 1)).length + 1) cap3)) m (.slice p3 ((rv s (m + 1)).length + 1) cap3) from
              ⟨by omega, by omega, drop_dg hm HDG.out HD.out, by rw [HST.out]; exact (show OwnD w3 _ _ (rv s (m + 1) ++ [Dg.dv s[m]]) from by rw [HDV.out]; exact hown').far (by simp) _,
                (HR.out.r.kept hg (fun e => by have := HOWN.out.row _ e; omega)).far (by simp) _, (HR.out.x.kept hg (fun e => by have := HOWN.out.row _ e; omega)).set1 _, (HR.out.dn.grown hg (fun k e => by have := HOWN.out.row _ e; omega)).setCell (by simp) _⟩)
            clear hown' hg hv
            go_wp2_with fail
            go_roundw
            case rel => exact ⟨m, _, _, rfl, rfl, HN.out⟩
            case measure => simp [intOf]
        · have NO := Lib.hid (not_ok_digit ST (by omega) hm hd)
          by_cases h48 : (s[m].toNat : Int) < 48
          · have e1 : decide ((s[m].toNat : Int) < 48) = true := by simpa using h48
            clear hd
            go_wp2_with fail
            obtain ⟨z0, z1, _, _, _⟩ := HR.out.r.put false (.slice none 0 0)
            exact bodyPost_ret (w := setN wr w.heap.size false (.slice none 0 0)) (v := .tuple #[.agg #[.bool false, .slice none 0 0], .bool false]) (by simp [results, Tryz.results53, go_sem, z0, z1]) rfl
              (Or.inr ⟨NO.out, rfl, setN_dn HR.out.dn (Nat.le_refl _) _ _⟩)
          · have e1 : decide ((s[m].toNat : Int) < 48) = false := by simpa using h48
            have e2 : decide (57 < (s[m].toNat : Int)) = true := by unfold Dg.isD at hd; simp; omega
            clear hd
            go_wp2_with fail
            obtain ⟨z0, z1, _, _, _⟩ := HR.out.r.put false (.slice none 0 0)
            exact bodyPost_ret (w := setN wr w.heap.size false (.slice none 0 0)) (v := .tuple #[.agg #[.bool false, .slice none 0 0], .bool false]) (by simp [results, Tryz.results53, go_sem, z0, z1]) rfl
              (Or.inr ⟨NO.out, rfl, setN_dn HR.out.dn (Nat.le_refl _) _ _⟩)
set_option maxHeartbeats 4000000 in
set_option maxRecDepth 10000 in
theorem rParse_bad (s : ByteArray) (w : World) (hs : s.size ≤ 1000) (h : s.size = 0 ∨ (∃ h : 0 < s.size, s[0] = 45 ∧ s.size = 1) ∨ (∃ h : 1 < s.size, s[0] = 45 ∧ s[1] = 48) ∨ (∃ h : 1 < s.size, s[0] ≠ 45 ∧ s[0] = 48)) :
    Calls Tryz.prog 53 #[.string s] w (PPost s w) := by
  rcases h with h | ⟨h0, h1, h2⟩ | ⟨h0, h1, h2⟩ | ⟨h0, h1, h2⟩
  · have NO := Lib.hid (not_ok_empty (start_pos (s := s) (fun h' => by omega)) h)
    have q : decide (0 < (s.size : Int)) = false := by rw [decide_eq_false_iff_not]; omega
    have q2 : ((s.size : Int) == 0) = true := by rw [beq_iff_eq]; omega
    have q3 : ¬ 0 < s.size := by omega
    clear h
    go_enter Tryz.func53, Tryz.ntmps53
    go_wp2_with fail
    exact bodyPost_ret (v := .tuple #[.agg #[.bool false, .slice none 0 0], .bool false]) (by simp [results, Tryz.results53, go_sem]) rfl (Or.inr ⟨NO.out, rfl, ((Dn.refl _).alloc _).alloc _⟩)
  · have NO := Lib.hid (not_ok_empty (start_neg h0 h1) h2)
    have q0 : ((s[0].toNat : Int) == 45) = true := by rw [h1]; rfl
    have q2 : ((s.size : Int) == 1) = true := by rw [beq_iff_eq]; omega
    clear h1 h2
    go_enter Tryz.func53, Tryz.ntmps53
    go_wp2_with fail
    exact bodyPost_ret (v := .tuple #[.agg #[.bool false, .slice none 0 0], .bool false]) (by simp [results, Tryz.results53, go_sem]) rfl (Or.inr ⟨NO.out, rfl, ((Dn.refl _).alloc _).alloc _⟩)
  · have NO := Lib.hid (not_ok_zero (start_neg (by omega) h1) h0 h2 h0)
    have q0 : ((s[0].toNat : Int) == 45) = true := by rw [h1]; rfl
    have q1 : ((s[1].toNat : Int) == 48) = true := by rw [h2]; rfl
    have q2 : ((s.size : Int) == 1) = false := by rw [beq_eq_false_iff_ne]; omega
    have q3 : decide (1 < (s.size : Int)) = true := by simp; omega
    clear h1 h2
    go_enter Tryz.func53, Tryz.ntmps53
    go_wp2_with fail
    exact bodyPost_ret (v := .tuple #[.agg #[.bool false, .slice none 0 0], .bool false]) (by simp [results, Tryz.results53, go_sem]) rfl (Or.inr ⟨NO.out, rfl, ((Dn.refl _).alloc _).alloc _⟩)
  · have NO := Lib.hid (not_ok_zero (start_pos (s := s) (fun _ => h1)) (by omega) h2 h0)
    have q0 : ((s[0].toNat : Int) == 45) = false := by rw [h2]; rfl
    have q1 : ((s[0].toNat : Int) == 48) = true := by rw [h2]; rfl
    have q2 : ((s.size : Int) == 0) = false := by rw [beq_eq_false_iff_ne]; omega
    have q3 : decide (1 < (s.size : Int)) = true := by simp; omega
    clear h1 h2
    go_enter Tryz.func53, Tryz.ntmps53
    go_wp2_with fail
    exact bodyPost_ret (v := .tuple #[.agg #[.bool false, .slice none 0 0], .bool false]) (by simp [results, Tryz.results53, go_sem]) rfl (Or.inr ⟨NO.out, rfl, ((Dn.refl _).alloc _).alloc _⟩)
theorem rParse (s : ByteArray) (w : World) (hs : s.size ≤ 1000) :
    Calls Tryz.prog 53 #[.string s] w (PPost s w) := by
  by_cases h0 : 0 < s.size
  · by_cases h45 : s[0] = 45
    · by_cases h1 : 1 < s.size
      · by_cases h48 : s[1] = 48
        · exact rParse_bad s w hs (Or.inr (Or.inr (Or.inl ⟨h1, h45, h48⟩)))
        · exact rParse_neg s w hs (start_neg h0 h45) h1 h45 (fun h => h48 h.1)
      · exact rParse_bad s w hs (Or.inr (Or.inl ⟨h0, h45, by omega⟩))
    · by_cases hz : s[0] = 48 ∧ 1 < s.size
      · exact rParse_bad s w hs (Or.inr (Or.inr (Or.inr ⟨hz.2, h45, hz.1⟩)))
      · exact rParse_pos s w hs (start_pos (fun _ => h45)) h0 h45 hz
  · exact rParse_bad s w hs (Or.inl (by omega))
end Go.Proofs.YtopbbcbpanfigaaGreatDoor
