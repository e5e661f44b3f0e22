/-
  WALKS OF circaref01: Text.
-/
import Derived.Test.YtopbbcbpanfigaaGreatDoorNatI
import Derived.Laws.BytesArg
import Derived.Deep.DeepCutAuto
namespace Go.Proofs.YtopbbcbpanfigaaGreatDoor
open Go.RowKit
def preT (b : Bool) : List Int := if b then [45] else []
/-- The bytes of a number's text, but for those of its k least digits. -/
def txt (b : Bool) (l : List Int) (k : Nat) : List Int := preT b ++ (l.drop k).reverse.map (48 + ·)
theorem txt_end (b : Bool) (l : List Int) : txt b l l.length = preT b := by unfold txt; rw [List.drop_of_length_le (Nat.le_refl _)]; simp
theorem txt_step (b : Bool) (l : List Int) (m : Nat) (h : m < l.length) : txt b l m = txt b l (m + 1) ++ [48 + Dg.dig l m] := by
  unfold txt; rw [drop_dig l m h]; simp
theorem txt_len (b : Bool) (l : List Int) (k : Nat) : (txt b l k).length ≤ l.length + 1 := by
  unfold txt preT; cases b <;> simp <;> omega
theorem txt_itoa (x : Int) (h : x ≠ 0) : strOfNums (txt (decide (x < 0)) (Dg.dl x.natAbs) 0) = ⟨(Lib.itoa x).toArray⟩ := by
  unfold strOfNums txt Lib.itoa preT
  have e : ((Dg.dl x.natAbs).reverse.map fun d => UInt8.ofNat (48 + d).toNat) = Lib.decDigits x.natAbs := by
    rw [Dg.decDigits_dl _ (by omega)]
    apply List.map_congr_left
    intro d hd
    have := Dg.dl_digs x.natAbs d (by simpa using hd)
    unfold Dg.ch
    congr 1
    omega
  by_cases hx : x < 0
  · simp [hx]
    rw [← e]
    simp
  · have e2 : x.toNat = x.natAbs := by omega
    simp [hx, e2]
    rw [← e]
    simp
theorem SlD.at {w : World} {p : Option Addr} {n cap : Nat} {l : List Int} (h : SlD w (.slice p n cap) l) : ∀ (j : Nat) (x : Int), l[j]? = some x → ∃ g, p = some ⟨g, 0, none⟩ ∧ w.cell? ⟨g, j, none⟩ = some (.int .u8 x) := by
  obtain ⟨p', cap', he, h1, h2, h3⟩ := h
  simp only [Value.slice.injEq] at he
  obtain ⟨rfl, rfl, rfl⟩ := he
  exact h3
/-- The slice of bytes read as a string. -/
theorem conv_own {w : World} {base : Nat} {p : Option Addr} {n cap : Nat} {l : List Int} (h : OwnD w base (.slice p n cap) l) (hl : l ≠ []) : (convert 78 9 (.slice p n cap)).run Tryz.prog w = .ok (.string (strOfNums l)) w := by
  have h3 := h.sl.at
  obtain ⟨rfl, _⟩ := h.sl.len
  have hpos : 0 < l.length := List.length_pos_iff.2 hl
  obtain ⟨g, rfl, _⟩ := h3 0 _ (List.getElem?_eq_getElem hpos)
  have hc : ∀ i, i < l.length → w.cell? ⟨g, 0 + i, none⟩ = some (.int .u8 (l.getD i 0)) := by
    intro i hi
    obtain ⟨g', hg, hc⟩ := h3 i _ (List.getElem?_eq_getElem hi)
    simp at hg
    subst hg
    rw [Nat.zero_add, hc]
    simp [List.getD, hi]
  have r := run_convert_bytes_arg (P := Tryz.prog) w 78 5 Tryz.underlying78 Tryz.underlying5 g 0 l.length cap l rfl hc
  exact r 9 Tryz.underlying9
theorem txt_ne (b : Bool) (l : List Int) (k : Nat) (h : k < l.length) : txt b l k ≠ [] := by
  rw [txt_step b l k h]; simp
theorem rText_zero (v : Value) (w : World) (hv : IsN w v 0) :
    Calls Tryz.prog 50 #[v] w fun e w' => e = .returned (.string ⟨(Lib.itoa 0).toArray⟩) ∧ Dn w w' := by
  obtain ⟨p, n, cap, rfl, hs⟩ := hv.form
  obtain ⟨hn, _⟩ := hs.len
  have e0 : (Dg.dl (0 : Int).natAbs).length = 0 := by simp [Dg.dl_zero]
  obtain rfl : n = 0 := by omega
  have hi : (⟨(Lib.itoa 0).toArray⟩ : ByteArray) = ⟨#[48]⟩ := by simp [Lib.itoa, Lib.decDigits]
  rw [hi]
  clear hv hs hn e0 hi
  go_enter Tryz.func50, Tryz.ntmps50
  go_wp2_with fail
  go_ret
  exact ⟨rfl, (Dn.refl _).alloc _⟩
structure TextRel (w : World) (b : Bool) (s : Value) (l : List Int) (wr : World) (k : Nat) (v : Value) : Prop where
  hk : k ≤ l.length
  own : OwnD wr (w.heap.size + 1) v (txt b l k)
  x : NBlk wr w.heap.size b s
  dn : Dn w wr
set_option maxHeartbeats 2000000 in
set_option maxRecDepth 10000 in
theorem rText_nz (v : Value) (x : Int) (w : World) (hv : IsN w v x) (hx : x ≠ 0) (hl : (Dg.dl x.natAbs).length ≤ 1000) :
    Calls Tryz.prog 50 #[v] w fun e w' => e = .returned (.string ⟨(Lib.itoa x).toArray⟩) ∧ Dn w w' := by
  rw [← txt_itoa x hx]
  obtain ⟨p, n, cap, rfl, hs⟩ := hv.form
  obtain ⟨hn, ln⟩ := hs.len
  have hd := Dg.dl_digs x.natAbs
  have hpos : 0 < (Dg.dl x.natAbs).length := dl_pos_len hx
  clear hv hx
  generalize decide (x < 0) = b at *
  generalize Dg.dl x.natAbs = l at *
  subst hn
  have t1 : ((l.length : Int) == 0) = false := by rw [beq_eq_false_iff_ne]; omega
  have t2 : l ≠ [] := List.length_pos_iff.1 hpos
  have HS := Lib.hid hs
  have HD := Lib.hid hd
  have HP := Lib.hid hpos
  obtain ⟨W1, hW1⟩ : ∃ W1, W1 = w.alloc (.cells #[.bool b, .slice p l.length cap] 80) := ⟨_, rfl⟩
  have n1 : NBlk W1 w.heap.size b (.slice p l.length cap) := by rw [hW1]; exact NBlk.new _ _ _ _
  have u1 : Dn w W1 := by rw [hW1]; exact (Dn.refl _).alloc _
  have s1 : W1.heap.size = w.heap.size + 1 := by rw [hW1]; simp
  have HW := Lib.hid hW1
  have N1 := Lib.hid n1
  have U1 := Lib.hid u1
  have S1 := Lib.hid s1
  clear hW1 hs hd u1 s1 hpos
  obtain ⟨c0, c1, _, _, cl⟩ := n1
  cases b
  · go_enter Tryz.func50, Tryz.ntmps50
    go_wp2_with fail
    rw [← HW.out]
    go_wp2_with fail
    have h0 := Lib.hid (show TextRel w false (.slice p l.length cap) l W1 l.length (.slice none 0 0) from ⟨Nat.le_refl _, by rw [txt_end]; exact OwnD.nil _ _, N1.out, U1.out⟩)
    clear c0 c1 cl HW
    go_loopw [3, 4] (fun ov iv wr => ∃ (k : Nat) (j : Int), j = (k : Int) - 1 ∧ iv = .int .i64 j ∧ TextRel w false (.slice p l.length cap) l wr k ov) (fun _ iv _ => (intOf iv + 1).toNat)
    case atStart => exact ⟨_, _, rfl, rfl, h0.out⟩
    case round =>
      obtain ⟨k, j, hj, rfl, hR⟩ := hrel
      have HR := Lib.hid hR
      obtain ⟨hk, hown, ⟨c0, c1, _, _, cl⟩, hu⟩ := hR
      have hsz := hu.size
      obtain ⟨p1, cap1, rfl, _⟩ := hown.form
      by_cases h0 : k = 0
      · subst h0
        obtain rfl : j = -1 := by omega
        have hcv := conv_own hown (txt_ne _ _ _ HP.out)
        clear hj hown c0 c1 hk
        go_wp2_with fail
        go_ret
        exact ⟨rfl, hu⟩
      · obtain ⟨m, rfl⟩ : ∃ m, k = m + 1 := ⟨k - 1, by omega⟩
        obtain rfl : j = (m : Int) := by omega
        have hm : m < l.length := by omega
        obtain ⟨ga, hga, qa⟩ : ∃ ga, p = some ⟨ga, 0, none⟩ ∧ wr.cell? ⟨ga, m, none⟩ = some (.int .u8 (Dg.dig l m)) := by
          obtain ⟨p2, c2, he, _, _, h3⟩ := HS.out.dn hu
          injection he with e1 e2 e3
          subst e1
          exact h3 m _ (Dg.dig_some hm)
        obtain ⟨g1, g2⟩ := Dg.dig_bd HD.out m
        have HST := Lib.hid (txt_step false l m hm)
        have HOWN := Lib.hid hown
        have HLN := Lib.hid (show (txt false l (m + 1)).length ≤ 1000000 by have := txt_len false l (m + 1); omega)
        subst hga
        generalize Dg.dig l m = d at *
        clear hj hown
        go_wp2_with (at_builtin; refine append_digit rfl _ _ rfl wr (w.heap.size + 1) (.slice p1 (txt false l (m + 1)).length cap1) (txt false l (m + 1)) (48 + d) rfl HOWN.out rfl HLN.out (by omega) ?_)
        intro p3 cap3 w3 hown' hg
        have hR' := Lib.hid (show TextRel w false (.slice (some ⟨ga, 0, none⟩) l.length cap) l w3 m (.slice p3 ((txt false l (m + 1)).length + 1) cap3) from
          ⟨by omega, by rw [HST.out]; exact hown', HR.out.x.kept hg (fun e => by have := HOWN.out.row _ e; omega), HR.out.dn.grown hg (fun k e => by have := HOWN.out.row _ e; omega)⟩)
        clear hown' hg c0 c1 hu qa
        go_wp2_with fail
        go_roundw
        case rel => exact ⟨m, _, rfl, rfl, hR'.out⟩
        case measure => simp [intOf]
  · go_enter Tryz.func50, Tryz.ntmps50
    go_upto_region 3 with fail
    rw [← HW.out]
    clear HW
    go_cut [3] (fun v wr => OwnD wr (w.heap.size + 1) v [] ∧ wr = W1)
    case first =>
      go_wp2_with fail
      go_meet
      exact ⟨OwnD.nil _ _, rfl⟩
    case rest =>
      obtain ⟨h45, rfl⟩ := hcut
      have H45 := Lib.hid h45
      clear h45
      go_wp2_with (at_builtin; refine append_digit rfl _ _ rfl wc (w.heap.size + 1) _ [] 45 (by rfl) H45.out rfl (by simp) (by have := S1.out; omega) ?_)
      intro p0 cap0 w0 hown0 hg0
      have h0 := Lib.hid (show TextRel w true (.slice p l.length cap) l w0 l.length (.slice p0 1 cap0) from ⟨Nat.le_refl _, by rw [txt_end]; exact hown0, N1.out.kept hg0 (fun e => by have := H45.out.row _ e; omega), U1.out.grown hg0 (fun k e => by have := H45.out.row _ e; omega)⟩)
      obtain ⟨c0', c1', _, _, cl'⟩ := h0.out.x
      clear c0 c1 cl hown0 hg0
      go_wp2_with fail
      clear c0' c1' cl'
      go_loopw [3, 4] (fun ov iv wr => ∃ (k : Nat) (j : Int), j = (k : Int) - 1 ∧ iv = .int .i64 j ∧ TextRel w true (.slice p l.length cap) l wr k ov) (fun _ iv _ => (intOf iv + 1).toNat)
      case atStart => exact ⟨_, _, rfl, rfl, h0.out⟩
      case round =>
        obtain ⟨k, j, hj, rfl, hR⟩ := hrel
        have HR := Lib.hid hR
        obtain ⟨hk, hown, ⟨c0, c1, _, _, cl⟩, hu⟩ := hR
        have hsz := hu.size
        obtain ⟨p1, cap1, rfl, _⟩ := hown.form
        by_cases h0 : k = 0
        · subst h0
          obtain rfl : j = -1 := by omega
          have hcv := conv_own hown (txt_ne _ _ _ HP.out)
          clear hj hown c0 c1 hk
          go_wp2_with fail
          go_ret
          exact ⟨rfl, hu⟩
        · obtain ⟨m, rfl⟩ : ∃ m, k = m + 1 := ⟨k - 1, by omega⟩
          obtain rfl : j = (m : Int) := by omega
          have hm : m < l.length := by omega
          obtain ⟨ga, hga, qa⟩ : ∃ ga, p = some ⟨ga, 0, none⟩ ∧ wr.cell? ⟨ga, m, none⟩ = some (.int .u8 (Dg.dig l m)) := by
            obtain ⟨p2, c2, he, _, _, h3⟩ := HS.out.dn hu
            injection he with e1 e2 e3
            subst e1
            exact h3 m _ (Dg.dig_some hm)
          obtain ⟨g1, g2⟩ := Dg.dig_bd HD.out m
          have HST := Lib.hid (txt_step true l m hm)
          have HOWN := Lib.hid hown
          have HLN := Lib.hid (show (txt true l (m + 1)).length ≤ 1000000 by have := txt_len true l (m + 1); omega)
          subst hga
          generalize Dg.dig l m = d at *
          clear hj hown
          go_wp2_with (at_builtin; refine append_digit rfl _ _ rfl wr (w.heap.size + 1) (.slice p1 (txt true l (m + 1)).length cap1) (txt true l (m + 1)) (48 + d) rfl HOWN.out rfl HLN.out (by omega) ?_)
          intro p3 cap3 w3 hown' hg
          have hR' := Lib.hid (show TextRel w true (.slice (some ⟨ga, 0, none⟩) l.length cap) l w3 m (.slice p3 ((txt true l (m + 1)).length + 1) cap3) from
            ⟨by omega, by rw [HST.out]; exact hown', HR.out.x.kept hg (fun e => by have := HOWN.out.row _ e; omega), HR.out.dn.grown hg (fun k e => by have := HOWN.out.row _ e; omega)⟩)
          clear hown' hg c0 c1 hu qa
          go_wp2_with fail
          go_roundw
          case rel => exact ⟨m, _, rfl, rfl, hR'.out⟩
          case measure => simp [intOf]
end Go.Proofs.YtopbbcbpanfigaaGreatDoor
