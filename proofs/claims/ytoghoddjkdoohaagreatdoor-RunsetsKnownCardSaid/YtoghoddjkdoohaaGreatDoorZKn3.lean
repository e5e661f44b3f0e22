/- Walks and laws that the claim's theorem leans on: part 3. -/
import Derived.Test.YtoghoddjkdoohaaGreatDoorZKn1
import Derived.Test.YtoghoddjkdoohaaGreatDoorZKn2
import Derived.Test.YtoghoddjkdoohaaGreatDoorShInts
import Derived.Laws.BytesArg
import Derived.Deep.DeepCutAuto
import Derived.Deep.RegionLaw
import Derived.Lib.Strings
import Derived.Lib.SmallJoins
namespace Go.Proofs.YtoghoddjkdoohaaGreatDoor
set_option maxRecDepth 10000
open Go.RowKit
theorem sub_cmp (a b : Int) (ha : I64 a) (hb : I64 b) :
   (I64 (a - b) -> wrap64 (a - b) = a - b /\ decide (a - b < a) = decide (0 < b)) /\ (¬ I64 (a - b) -> decide (wrap64 (a - b) < a) = !decide (0 < b)) := by
 obtain ⟨a1, a2⟩ := ha
 obtain ⟨b1, b2⟩ := hb
 constructor
 · rintro ⟨h1, h2⟩
   refine ⟨by unfold wrap64; omega, ?_⟩; rw [Bool.eq_iff_iff]; simp only [decide_eq_true_eq]; omega
 · intro h
   unfold I64 at h; rw [Bool.eq_iff_iff]; simp only [decide_eq_true_eq, Bool.not_eq_true', decide_eq_false_iff_not]; unfold wrap64; omega
theorem isub_fits (a b : Int) (w : World) (ha : I64 a) (hb : I64 b) (h : I64 (a - b)) :
   Calls Tryz.prog 95 #[.int .i64 a, .int .i64 b] w fun e w' => e = .returned (.tuple #[.int .i64 (a - b), .int .i64 0]) /\ w = w' := by
 obtain ⟨h1, h2⟩ := (sub_cmp a b ha hb).1 h
 obtain ⟨k1, k2⟩ := h
 clear h1
 by_cases hb0 : 0 < b
 · have c1 : decide (0 < b) = true := by simpa using hb0
   have c2 : decide (a - b < a) = true := by simp; omega
   clear h2; go_enter Tryz.func95, Tryz.ntmps95; go_wp2_with fail; go_ret2; exact ⟨rfl, rfl⟩
 · have c1 : decide (0 < b) = false := by simpa using hb0
   have c2 : decide (a - b < a) = false := by simp; omega
   clear h2; go_enter Tryz.func95, Tryz.ntmps95; go_wp2_with fail; go_ret2; exact ⟨rfl, rfl⟩
theorem isub_over (a b : Int) (w : World) (ha : I64 a) (hb : I64 b) (h : ¬ I64 (a - b)) :
   Calls Tryz.prog 95 #[.int .i64 a, .int .i64 b] w fun e w' => e = .returned (.tuple #[.int .i64 0, .int .i64 15]) /\ w = w' := by
 have h2 := (sub_cmp a b ha hb).2 h
 generalize hn : wrap64 (a - b) = n at *
 by_cases hb0 : 0 < b
 · have c1 : decide (0 < b) = true := by simpa using hb0
   have c2 : decide (n < a) = false := by rw [h2, c1]; rfl
   clear h2; go_enter Tryz.func95, Tryz.ntmps95; go_wp2_with fail; go_ret2; exact ⟨rfl, rfl⟩
 · have c1 : decide (0 < b) = false := by simpa using hb0
   have c2 : decide (n < a) = true := by rw [h2, c1]; rfl
   clear h2; go_enter Tryz.func95, Tryz.ntmps95; go_wp2_with fail; go_ret2; exact ⟨rfl, rfl⟩
theorem u64_back (n : Int) (h0 : 0 <= n) (h : n <= 9223372036854775808) : wrap64 (IntKind.u64.wrap (-n)) = -n := by
 rw [IntKind.wrap_u64]; unfold wrap64; omega
theorem isigned_neg (n : Int) (w : World) (h0 : 0 <= n) (h : n <= 9223372036854775808) :
  Calls Tryz.prog 160 #[.int .u64 n, .bool true] w fun e w' => e = .returned (.tuple #[.int .i64 (-n), .int .i64 0]) /\ w = w' := by
 have c1 : decide (n <= 9223372036854775808) = true := by simpa using h
 go_enter Tryz.func160, Tryz.ntmps160
 go_wp2_with fail
 go_ret2
 exact ⟨ret2_i (u64_back n h0 h) rfl, rfl⟩
theorem isigned_pos (n : Int) (w : World) (h0 : 0 <= n) (h : n <= 9223372036854775807) :
  Calls Tryz.prog 160 #[.int .u64 n, .bool false] w fun e w' => e = .returned (.tuple #[.int .i64 n, .int .i64 0]) /\ w = w' := by
 have c1 : decide (n <= 9223372036854775807) = true := by simpa using h
 go_enter Tryz.func160, Tryz.ntmps160
 go_wp2_with fail
 go_ret2
 exact ⟨rfl, rfl⟩
theorem isigned_no (n : Int) (b : Bool) (w : World) (h : (b = true /\ 9223372036854775808 < n) \/ (b = false /\ 9223372036854775807 < n)) :
   Calls Tryz.prog 160 #[.int .u64 n, .bool b] w fun e w' => e = .returned (.tuple #[.int .i64 0, .int .i64 15]) /\ w = w' := by
 rcases h with ⟨rfl, h⟩ | ⟨rfl, h⟩
 · have c1 : decide (n <= 9223372036854775808) = false := by simp; omega
   go_enter Tryz.func160, Tryz.ntmps160; go_wp2_with fail; go_ret2; exact ⟨rfl, rfl⟩
 · have c1 : decide (n <= 9223372036854775807) = false := by simp; omega
   go_enter Tryz.func160, Tryz.ntmps160; go_wp2_with fail; go_ret2; exact ⟨rfl, rfl⟩
def fd (a b : Int) : Int := if a.tmod b ≠ 0 /\ decide (a < 0) ≠ decide (b < 0) then a.tdiv b - 1 else a.tdiv b
structure DivM (a b q m : Int) : Prop where
 e : q * b + m = a
 p : 0 < b -> 0 <= m /\ m < b
 n : b < 0 -> b < m /\ m <= 0
theorem DivM.mono {a c b q m q' m' : Int} (h : DivM a b q m) (h' : DivM c b q' m') (hb : 0 < b) (hac : a <= c) : q <= q' := by
 have p1 := h.p hb
 have p2 := h'.p hb
 have e1 := h.e
 have e2 := h'.e
 by_cases hc : q <= q'
 · exact hc
 · have : (q' + 1) * b <= q * b := Int.mul_le_mul_of_nonneg_right (by omega) (by omega)
   rw [Int.add_mul] at this; omega
set_option maxHeartbeats 2000000
set_option maxRecDepth 10000
def preT (b : Bool) : List Int := if b then [45] else []
def txt (b : Bool) (l : List Int) (k : Nat) : List Int := preT b ++ (l.drop k).reverse.map (48 + ·)
theorem txt_end (b : Bool) (l : List Int) : txt b l l.length = preT b := by unfold txt; rw [List.drop_of_length_le (Nat.le_refl _)]; simp
theorem txt_step (b : Bool) (l : List Int) (m : Nat) (h : m < l.length) : txt b l m = txt b l (m + 1) ++ [48 + Dg.dig l m] := by
 unfold txt; rw [drop_dig l m h]; simp
theorem txt_len (b : Bool) (l : List Int) (k : Nat) : (txt b l k).length <= l.length + 1 := by
 unfold txt preT; cases b <;> simp <;> omega
theorem txt_itoa (x : Int) (h : x ≠ 0) : strOfNums (txt (decide (x < 0)) (Dg.dl x.natAbs) 0) = ⟨(Lib.itoa x).toArray⟩ := by
 unfold strOfNums txt Lib.itoa preT
 have e : ((Dg.dl x.natAbs).reverse.map fun d => UInt8.ofNat (48 + d).toNat) = Lib.decDigits x.natAbs := by
   rw [Dg.decDigits_dl _ (by omega)]; apply List.map_congr_left; intro d hd; have := Dg.dl_digs x.natAbs d (by simpa using hd); unfold Dg.ch; congr 1; omega
 by_cases hx : x < 0
 · simp [hx]
   rw [<- e]; simp
 · have e2 : x.toNat = x.natAbs := by omega
   simp [hx, e2]; rw [<- e]; simp
theorem SlD.at {w : World} {p : Option Addr} {n cap : Nat} {l : List Int} (h : SlD w (.slice p n cap) l) : ∀ (j : Nat) (x : Int), l[j]? = some x -> ∃ g, p = some ⟨g, 0, none⟩ /\ w.cell? ⟨g, j, none⟩ = some (.int .u8 x) := by
 obtain ⟨p', cap', he, h1, h2, h3⟩ := h
 simp only [Value.slice.injEq] at he
 obtain ⟨rfl, rfl, rfl⟩ := he
 exact h3
theorem conv_own {w : World} {base : Nat} {p : Option Addr} {n cap : Nat} {l : List Int} (h : OwnD w base (.slice p n cap) l) (hl : l ≠ []) : (convert 86 9 (.slice p n cap)).run Tryz.prog w = .ok (.string (strOfNums l)) w := by
 have h3 := h.sl.at
 obtain ⟨rfl, _⟩ := h.sl.len
 have hpos : 0 < l.length := List.length_pos_iff.2 hl
 obtain ⟨g, rfl, _⟩ := h3 0 _ (List.getElem?_eq_getElem hpos)
 have hc : ∀ i, i < l.length -> w.cell? ⟨g, 0 + i, none⟩ = some (.int .u8 (l.getD i 0)) := by
  intro i hi; obtain ⟨g', hg, hc⟩ := h3 i _ (List.getElem?_eq_getElem hi); simp at hg; subst hg; rw [Nat.zero_add, hc]; simp [List.getD, hi]
 have r := run_convert_bytes_arg (P := Tryz.prog) w 86 5 Tryz.underlying86 Tryz.underlying5 g 0 l.length cap l rfl hc
 exact r 9 Tryz.underlying9
theorem txt_ne (b : Bool) (l : List Int) (k : Nat) (h : k < l.length) : txt b l k ≠ [] := by
 rw [txt_step b l k h]; simp
theorem rText_zero (v : Value) (w : World) (hv : IsN w v 0) :
  Calls Tryz.prog 150 #[v] w fun e w' => e = .returned (.string ⟨(Lib.itoa 0).toArray⟩) /\ Dn w w' := by
 obtain ⟨p, n, cap, rfl, hs⟩ := hv.form
 obtain ⟨hn, _⟩ := hs.len
 have e0 : (Dg.dl (0 : Int).natAbs).length = 0 := by simp [Dg.dl_zero]
 obtain rfl : n = 0 := by omega
 have hi : (⟨(Lib.itoa 0).toArray⟩ : ByteArray) = ⟨#[48]⟩ := by simp [Lib.itoa, Lib.decDigits]
 rw [hi]
 clear hv hs hn e0 hi
 go_enter Tryz.func150, Tryz.ntmps150
 go_wp2_with fail
 go_ret
 exact ⟨rfl, (Dn.refl _).alloc _⟩
structure TextRel (w : World) (b : Bool) (s : Value) (l : List Int) (wr : World) (k : Nat) (v : Value) : Prop where
 hk : k <= l.length
 own : OwnD wr (w.heap.size + 1) v (txt b l k)
 x : NBlk wr w.heap.size b s
 dn : Dn w wr
theorem rText_nz (v : Value) (x : Int) (w : World) (hv : IsN w v x) (hx : x ≠ 0) (hl : (Dg.dl x.natAbs).length <= 1000) :
   Calls Tryz.prog 150 #[v] w fun e w' => e = .returned (.string ⟨(Lib.itoa x).toArray⟩) /\ Dn w w' := by
 rw [<- txt_itoa x hx]
 obtain ⟨p, n, cap, rfl, hs⟩ := hv.form
 obtain ⟨hn, ln⟩ := hs.len
 have hd := Dg.dl_digs x.natAbs
 have hpos : 0 < (Dg.dl x.natAbs).length := dl_pos_len hx
 clear hv hx
 generalize decide (x < 0) = b at *
 generalize Dg.dl x.natAbs = l at *
 subst hn
 have t1 : ((l.length : Int) == 0) = false := by rw [beq_eq_false_iff_ne]; omega
 have t2 : l ≠ [] := List.length_pos_iff.1 hpos
 have HS := Lib.hid hs
 have HD := Lib.hid hd
 have HP := Lib.hid hpos
 obtain ⟨W1, hW1⟩ : ∃ W1, W1 = w.alloc (.cells #[.bool b, .slice p l.length cap] 88) := ⟨_, rfl⟩
 have n1 : NBlk W1 w.heap.size b (.slice p l.length cap) := by rw [hW1]; exact NBlk.new _ _ _ _
 have u1 : Dn w W1 := by rw [hW1]; exact (Dn.refl _).alloc _
 have s1 : W1.heap.size = w.heap.size + 1 := by rw [hW1]; simp
 have HW := Lib.hid hW1
 have N1 := Lib.hid n1
 have U1 := Lib.hid u1
 have S1 := Lib.hid s1
 clear hW1 hs hd u1 s1 hpos
 obtain ⟨c0, c1, _, _, cl⟩ := n1
 cases b
 · go_enter Tryz.func150, Tryz.ntmps150
   go_wp2_with fail; rw [<- HW.out]; go_wp2_with fail; have h0 := Lib.hid (show TextRel w false (.slice p l.length cap) l W1 l.length (.slice none 0 0) from ⟨Nat.le_refl _, by rw [txt_end]; exact OwnD.nil _ _, N1.out, U1.out⟩); clear c0 c1 cl HW; go_loopw [3, 4] (fun ov iv wr => ∃ (k : Nat) (j : Int), j = (k : Int) - 1 /\ iv = .int .i64 j /\ TextRel w false (.slice p l.length cap) l wr k ov) (fun _ iv _ => (intOf iv + 1).toNat)
   case atStart => exact ⟨_, _, rfl, rfl, h0.out⟩
   case round =>
    obtain ⟨k, j, hj, rfl, hR⟩ := hrel; have HR := Lib.hid hR; obtain ⟨hk, hown, ⟨c0, c1, _, _, cl⟩, hu⟩ := hR; have hsz := hu.size; obtain ⟨p1, cap1, rfl, _⟩ := hown.form
    by_cases h0 : k = 0
    · subst h0
      obtain rfl : j = -1 := by omega
      have hcv := conv_own hown (txt_ne _ _ _ HP.out); clear hj hown c0 c1 hk; go_wp2_with fail; go_ret; exact ⟨rfl, hu⟩
    · obtain ⟨m, rfl⟩ : ∃ m, k = m + 1 := ⟨k - 1, by omega⟩
      obtain rfl : j = (m : Int) := by omega
      have hm : m < l.length := (by omega)
      obtain ⟨ga, hga, qa⟩ : ∃ ga, p = some ⟨ga, 0, none⟩ /\ wr.cell? ⟨ga, m, none⟩ = some (.int .u8 (Dg.dig l m)) := by
        obtain ⟨p2, c2, he, _, _, h3⟩ := HS.out.dn hu; injection he with e1 e2 e3; subst e1; exact h3 m _ (Dg.dig_some hm)
      obtain ⟨g1, g2⟩ := Dg.dig_bd HD.out m; have HST := Lib.hid (txt_step false l m hm); have HOWN := Lib.hid hown; have HLN := Lib.hid (show (txt false l (m + 1)).length <= 1000000 by have := txt_len false l (m + 1); omega); subst hga; generalize Dg.dig l m = d at *; clear hj hown; go_wp2_with (at_builtin; refine append_digit rfl _ _ rfl wr (w.heap.size + 1) (.slice p1 (txt false l (m + 1)).length cap1) (txt false l (m + 1)) (48 + d) rfl HOWN.out rfl HLN.out (by omega) ?_); intro p3 cap3 w3 hown' hg
      have hR' := Lib.hid (show TextRel w false (.slice (some ⟨ga, 0, none⟩) l.length cap) l w3 m (.slice p3 ((txt false l (m + 1)).length + 1) cap3) from
        ⟨by omega, by rw [HST.out]; exact hown', HR.out.x.kept hg (fun e => by have := HOWN.out.row _ e; omega), HR.out.dn.grown hg (fun k e => by have := HOWN.out.row _ e; omega)⟩)
      clear hown' hg c0 c1 hu qa; go_wp2_with fail; go_roundw
      case rel => exact ⟨m, _, rfl, rfl, hR'.out⟩
      case measure => simp [intOf]
 · go_enter Tryz.func150, Tryz.ntmps150
   go_upto_region 3 with fail; rw [<- HW.out]; clear HW; go_cut [3] (fun v wr => OwnD wr (w.heap.size + 1) v [] /\ wr = W1)
   case first =>
    go_wp2_with fail; go_meet; exact ⟨OwnD.nil _ _, rfl⟩
   case rest =>
    obtain ⟨h45, rfl⟩ := hcut; have H45 := Lib.hid h45; clear h45; go_wp2_with (at_builtin; refine append_digit rfl _ _ rfl wc (w.heap.size + 1) _ [] 45 (by rfl) H45.out rfl (by simp) (by have := S1.out; omega) ?_); intro p0 cap0 w0 hown0 hg0; have h0 := Lib.hid (show TextRel w true (.slice p l.length cap) l w0 l.length (.slice p0 1 cap0) from ⟨Nat.le_refl _, by rw [txt_end]; exact hown0, N1.out.kept hg0 (fun e => by have := H45.out.row _ e; omega), U1.out.grown hg0 (fun k e => by have := H45.out.row _ e; omega)⟩); obtain ⟨c0', c1', _, _, cl'⟩ := h0.out.x; clear c0 c1 cl hown0 hg0; go_wp2_with fail; clear c0' c1' cl'; go_loopw [3, 4] (fun ov iv wr => ∃ (k : Nat) (j : Int), j = (k : Int) - 1 /\ iv = .int .i64 j /\ TextRel w true (.slice p l.length cap) l wr k ov) (fun _ iv _ => (intOf iv + 1).toNat)
    case atStart => exact ⟨_, _, rfl, rfl, h0.out⟩
    case round =>
      obtain ⟨k, j, hj, rfl, hR⟩ := hrel; have HR := Lib.hid hR; obtain ⟨hk, hown, ⟨c0, c1, _, _, cl⟩, hu⟩ := hR; have hsz := hu.size; obtain ⟨p1, cap1, rfl, _⟩ := hown.form
      by_cases h0 : k = 0
      · subst h0
        obtain rfl : j = -1 := by omega
        have hcv := conv_own hown (txt_ne _ _ _ HP.out); clear hj hown c0 c1 hk; go_wp2_with fail; go_ret; exact ⟨rfl, hu⟩
      · obtain ⟨m, rfl⟩ : ∃ m, k = m + 1 := ⟨k - 1, by omega⟩
        obtain rfl : j = (m : Int) := by omega
        have hm : m < l.length := (by omega)
        obtain ⟨ga, hga, qa⟩ : ∃ ga, p = some ⟨ga, 0, none⟩ /\ wr.cell? ⟨ga, m, none⟩ = some (.int .u8 (Dg.dig l m)) := by
         obtain ⟨p2, c2, he, _, _, h3⟩ := HS.out.dn hu; injection he with e1 e2 e3; subst e1; exact h3 m _ (Dg.dig_some hm)
        obtain ⟨g1, g2⟩ := Dg.dig_bd HD.out m; have HST := Lib.hid (txt_step true l m hm); have HOWN := Lib.hid hown; have HLN := Lib.hid (show (txt true l (m + 1)).length <= 1000000 by have := txt_len true l (m + 1); omega); subst hga; generalize Dg.dig l m = d at *; clear hj hown; go_wp2_with (at_builtin; refine append_digit rfl _ _ rfl wr (w.heap.size + 1) (.slice p1 (txt true l (m + 1)).length cap1) (txt true l (m + 1)) (48 + d) rfl HOWN.out rfl HLN.out (by omega) ?_); intro p3 cap3 w3 hown' hg
        have hR' := Lib.hid (show TextRel w true (.slice (some ⟨ga, 0, none⟩) l.length cap) l w3 m (.slice p3 ((txt true l (m + 1)).length + 1) cap3) from
         ⟨by omega, by rw [HST.out]; exact hown', HR.out.x.kept hg (fun e => by have := HOWN.out.row _ e; omega), HR.out.dn.grown hg (fun k e => by have := HOWN.out.row _ e; omega)⟩)
        clear hown' hg c0 c1 hu qa; go_wp2_with fail; go_roundw
        case rel => exact ⟨m, _, rfl, rfl, hR'.out⟩
        case measure => simp [intOf]
set_option maxHeartbeats 4000000
set_option maxRecDepth 10000
theorem step_digit {ops : Array Oper} {o : Oper} {a : Act} {K : Act -> World -> Prop} {Q : Exit -> Act -> World -> Prop} {E : Prop} (hgd : o.guard = none) (s x : Operand)
   (ho : o.op = .call { callee := .builtin .append, args := #[s, x], argTypes := #[86, 86] }) (w : World) (base : Nat) (v : Value) (l : List Int) (d : Int) (hs : a.eval s = v) (hown : OwnD w base v l)
   (hx : a.eval x = .slice (some ⟨w.heap.size, 0, none⟩) 1 1) (hl : l.length <= 1000000) (hb : base <= w.heap.size)
   (h : ∀ p' cap' w', OwnD w' base (.slice p' (l.length + 1) cap') (l ++ [d]) -> w.grownBy w' v.ownBlock -> K (a.put o.dst (.slice p' (l.length + 1) cap')) w') :
   if Region.wanted o (yielded ops a.tmps) = true then Oper.wp Tryz.prog o a ((w.alloc (.cells #[.int .u8 d] 5)).drew) K Q else E := by
 have hw : Region.wanted o (yielded ops a.tmps) = true := by simp [Region.wanted, hgd]
 rw [if_pos hw]
 obtain ⟨i0, hi, hz0, hz1, hz2⟩ := info_parts infoU8
 refine wp_append_own ((w.alloc (.cells #[.int .u8 d] 5)).drew) s x 86 ho base 5 i0 (.int .u8 0) 1 1 Tryz.underlying86 hi hz0 hz1 hz2 rfl (by decide) v _ _ hs (World.ownsRow.drew (hown.own.alloc _)) ⟨w.heap.size, 0, none⟩ 1 1 [.int .u8 d] hx rfl ?_ ?_ ?_ ?_ ?_ ?_
 · intro j u hj
   match j, hj with
   | 0, hj => simp at hj; subst hj; simp [Addr.add]
 · intro u hu; simp at hu; subst hu; rfl
 · unfold maxLen; omega
 · omega
 · simp; omega
 · intro v' w' h1 h2 _
   have h3 : OwnD w' base v' (l ++ [d]) := ⟨by simpa using h1⟩; obtain ⟨p', cap', e, _⟩ := h3.form; rw [List.length_append] at e; subst e
   have h4 : w.grownBy ((w.alloc (.cells #[.int .u8 d] 5)).drew) v.ownBlock := by
     have := World.grownBy_alloc w (.cells #[.int .u8 d] 5) v.ownBlock; exact ⟨this.os, this.tape, this.output, this.size, this.block⟩
   exact h p' cap' w' h3 (grown_trans h4 h2)
def isNeg (l : List UInt8) : Bool := l.head? == some 45
def dsOf (l : List UInt8) : List UInt8 := if isNeg l then l.drop 1 else l
def pOk (l : List UInt8) : Prop := dsOf l ≠ [] /\ ¬ ((dsOf l).head? = some 48 /\ 1 < l.length) /\ ∀ c ∈ dsOf l, Dg.isD c
def pVal (l : List UInt8) : Int := sg (isNeg l) (Dg.nvA 0 (dsOf l))
def PPost (s : ByteArray) (w : World) (e : Ending) (w' : World) : Prop :=
 (pOk s.data.toList /\ ∃ b p n cap, e = .returned (.tuple #[.agg #[.bool b, .slice p n cap], .bool true]) /\ IsN w' (.agg #[.bool b, .slice p n cap]) (pVal s.data.toList) /\ Dn w w') \/
  (¬ pOk s.data.toList /\ e = .returned (.tuple #[.agg #[.bool false, .slice none 0 0], .bool false]) /\ Dn w w')
theorem get_at (s : ByteArray) (k : Nat) (h : k < s.size) : s.data.toList[k]? = some s[k] := by
 rw [Array.getElem?_toList, Array.getElem?_eq_getElem (show k < s.data.size from h)]
 rfl
theorem len_is (s : ByteArray) : s.data.toList.length = s.size := (Lib.size_eq s).symm
def rv (s : ByteArray) (k : Nat) : List Int := (s.data.toList.drop k).reverse.map Dg.dv
theorem rv_end (s : ByteArray) : rv s s.size = [] := by unfold rv; rw [List.drop_of_length_le (by rw [len_is]; exact Nat.le_refl _)]; rfl
theorem rv_step (s : ByteArray) (m : Nat) (h : m < s.size) : rv s m = rv s (m + 1) ++ [Dg.dv s[m]] := by
 have h2 : m < s.data.toList.length := by rw [len_is]; exact h
 have e : s.data.toList.drop m = s[m] :: s.data.toList.drop (m + 1) := by
  rw [List.drop_eq_getElem_cons h2]; have := get_at s m h; rw [List.getElem?_eq_getElem h2] at this; rw [Option.some.inj this]
 unfold rv
 rw [e]; simp
theorem rv_len (s : ByteArray) (k : Nat) : (rv s k).length <= s.size := by unfold rv; rw [List.length_map, List.length_reverse, List.length_drop, len_is]; omega
structure ParseRel (w : World) (b : Bool) (s : ByteArray) (f : Nat) (wr : World) (k : Nat) (v : Value) : Prop where
 hf : f <= k
 hk : k <= s.size
 dg : ∀ c ∈ s.data.toList.drop k, Dg.isD c
 own : OwnD wr (w.heap.size + 1 + 1) v (rv s k)
 r : NBlk wr w.heap.size false (.slice none 0 0)
 x : NBlk wr (w.heap.size + 1) b v
 dn : Dn w wr
theorem drop_dg {s : ByteArray} {m : Nat} (hm : m < s.size) (h : ∀ c ∈ s.data.toList.drop (m + 1), Dg.isD c) (hd : Dg.isD s[m]) : ∀ c ∈ s.data.toList.drop m, Dg.isD c := by
 have h2 : m < s.data.toList.length := by rw [len_is]; exact hm
 have e : s.data.toList.drop m = s[m] :: s.data.toList.drop (m + 1) := by
   rw [List.drop_eq_getElem_cons h2]; have := get_at s m hm; rw [List.getElem?_eq_getElem h2] at this; rw [Option.some.inj this]
 intro c hc
 rw [e] at hc
 rcases List.mem_cons.1 hc with rfl | hc
 · exact hd
 · exact h c hc
structure Start (s : ByteArray) (b : Bool) (f : Nat) : Prop where
 neg : isNeg s.data.toList = b
 ds : dsOf s.data.toList = s.data.toList.drop f
 hf : f = if b then 1 else 0
theorem start_neg {s : ByteArray} (h : 0 < s.size) (e : s[0] = 45) : Start s true 1 := by
 have h1 := get_at s 0 h
 have hn : isNeg s.data.toList = true := by
  unfold isNeg; rw [List.head?_eq_getElem?, h1, e]; rfl
 exact ⟨hn, by unfold dsOf; rw [hn]; rfl, rfl⟩
theorem start_pos {s : ByteArray} (h : ∀ h : 0 < s.size, s[0] ≠ 45) : Start s false 0 := by
 have hn : isNeg s.data.toList = false := by
  unfold isNeg
  by_cases hs : 0 < s.size
  · rw [List.head?_eq_getElem?, get_at s 0 hs]
    simpa using h hs
  · have : s.data.toList = [] := List.length_eq_zero_iff.1 (by rw [len_is]; omega)
    rw [this]; rfl
 exact ⟨hn, by unfold dsOf; rw [hn]; simp, rfl⟩
theorem not_ok_empty {s : ByteArray} {b : Bool} {f : Nat} (h : Start s b f) (he : s.size = f) : ¬ pOk s.data.toList := by
 intro hp
 have := hp.1
 rw [h.ds] at this
 exact this (List.drop_of_length_le (by rw [len_is]; omega))
theorem not_ok_zero {s : ByteArray} {b : Bool} {f : Nat} (h : Start s b f) (hl : f < s.size) (hz : s[f] = 48) (h1 : 1 < s.size) : ¬ pOk s.data.toList := by
 intro hp
 refine hp.2.1 ⟨?_, by rw [len_is]; exact h1⟩
 rw [h.ds, List.head?_drop, get_at s f hl, hz]
theorem not_ok_digit {s : ByteArray} {b : Bool} {f m : Nat} (h : Start s b f) (hl : f <= m) (hm : m < s.size) (hd : ¬ Dg.isD s[m]) : ¬ pOk s.data.toList := by
 intro hp
 refine hd (hp.2.2 _ ?_)
 rw [h.ds]
 have : (s.data.toList.drop f)[m - f]? = some s[m] := by
  rw [List.getElem?_drop, show f + (m - f) = m by omega, get_at s m hm]
 exact List.mem_of_getElem? this
theorem ok_all {s : ByteArray} {b : Bool} {f : Nat} (h : Start s b f) (hl : f < s.size) (hz : ¬ (s[f] = 48 /\ 1 < s.size)) (hd : ∀ c ∈ s.data.toList.drop f, Dg.isD c) : pOk s.data.toList /\ pVal s.data.toList = sg b (Dg.val (rv s f)) := by
 refine ⟨⟨?_, ?_, ?_⟩, ?_⟩
 · rw [h.ds]
   intro e; have := congrArg List.length e; rw [List.length_drop, len_is] at this; simp at this; omega
 · rw [h.ds, List.head?_drop, get_at s f hl, len_is]
   intro e; exact hz ⟨by simpa using e.1, e.2⟩
 · rw [h.ds]; exact hd
 · unfold pVal rv
   rw [h.neg, h.ds, Dg.nvA_val _ hd]; simp
theorem rParse_neg (s : ByteArray) (w : World) (hs : s.size <= 1000) (ST : Start s true 1) (hlt : 1 < s.size) (h45 : s[0]'(by omega) = 45) (hz : ¬ (s[1] = 48 /\ 1 < s.size)) :
  Calls Tryz.prog 146 #[.string s] w (PPost s w) := by
 obtain ⟨W, hW⟩ : ∃ W, W = (w.alloc (.cells #[.bool false, .slice none 0 0] 88)).alloc (.cells #[.bool true, .slice none 0 0] 88) := ⟨_, rfl⟩
 have N1 := Lib.hid (show NBlk W w.heap.size false (.slice none 0 0) by rw [hW]; exact (NBlk.new _ _ _ _).alloc _)
 have N2 := Lib.hid (show NBlk W (w.heap.size + 1) true (.slice none 0 0) by rw [hW]; exact NBlk.new1 _ _ _ _ _)
 have U := Lib.hid (show Dn w W by rw [hW]; exact ((Dn.refl _).alloc _).alloc _)
 have HW := Lib.hid hW
 have ST := ST
 clear hW
 have q0 : ((s[0].toNat : Int) == 45) = true := by rw [h45]; rfl
 have hz1 : s[1] ≠ 48 := fun e => hz ⟨e, hlt⟩
 have q1 : ((s[1].toNat : Int) == 48) = false := by
  rw [beq_eq_false_iff_ne]; intro e; exact hz1 (UInt8.toNat_inj.1 (by simpa using (by exact_mod_cast e : s[1].toNat = 48)))
 have q2 : ((s.size : Int) == 1) = false := by rw [beq_eq_false_iff_ne]; omega
 clear h45 hz1
 go_enter Tryz.func146, Tryz.ntmps146
 go_wp2_with fail
 rw [<- HW.out]
 clear HW q0 q1 q2
 go_loopw [6] (fun iv wr => ∃ (k : Nat) (j : Int) (v : Value), j = (k : Int) - 1 /\ iv = .int .i64 j /\ ParseRel w true s 1 wr k v) (fun iv _ => (intOf iv + 1).toNat)
 case atStart => exact ⟨s.size, _, .slice none 0 0, rfl, rfl, ⟨by omega, Nat.le_refl _, by rw [List.drop_of_length_le (by rw [len_is]; exact Nat.le_refl _)]; intro c hc; simp at hc, by rw [rv_end]; exact OwnD.nil _ _, N1.out, N2.out, U.out⟩⟩
 case round =>
  obtain ⟨k, j, v, hj, rfl, hR⟩ := hrel; have HR := Lib.hid hR; obtain ⟨hfk, hks, hdg, hown, ⟨r0, r1, rf0, rf1, rl⟩, ⟨x0, x1, xf0, xf1, xl⟩, hu⟩ := hR; have HOWN := Lib.hid hown; have HDG := Lib.hid hdg; clear hdg hown
  by_cases h0 : k = 1
  · subst h0
    obtain rfl : j = 0 := by omega
    obtain ⟨p, cap, rfl, hp⟩ := HOWN.out.form; obtain ⟨ok1, ok2⟩ := ok_all ST hlt hz HDG.out; have OK1 := Lib.hid ok1; have OK2 := Lib.hid ok2; clear hj ok1 ok2; go_wp2_with fail; refine (rTrim true p _ cap (rv s 1) wr _ (Dn.refl _) HOWN.out.sl (Dg.dv_digs _ HDG.out)).mono ?_; rintro e w4 ⟨b', k', rfl, hI, q4⟩; rw [<- OK2.out] at hI; have HI := Lib.hid (hI.dn q4); have N4 := Lib.hid (HR.out.r.dn q4); have U4 := Lib.hid (hu.trans q4); clear r0 r1 rf0 rf1 x0 x1 xf0 xf1 hu hI q4; obtain ⟨r0, r1, rf0, rf1, rl⟩ := N4.out; go_wp2_with fail; obtain ⟨z0, z1, _, _, _⟩ := N4.out.put b' (.slice p k' cap)
    exact bodyPost_ret (w := setN w4 w.heap.size b' (.slice p k' cap)) (v := .tuple #[.agg #[.bool b', .slice p k' cap], .bool true]) (by simp [results, Tryz.results146, go_sem, z0, z1]) rfl
      (Or.inl ⟨OK1.out, _, _, _, _, rfl, HI.out.farN (fun g hg => by have := hp g hg; omega) _ _, setN_dn U4.out (Nat.le_refl _) _ _⟩)
  · obtain ⟨m, rfl⟩ : ∃ m, k = m + 1 := ⟨k - 1, by omega⟩
    obtain rfl : j = (m : Int) := by omega
    have hm : m < s.size := (by omega); have hfm : (1 : Int) <= m := (by omega); have hc := UInt8.toNat_lt s[m]; have HST := Lib.hid (rv_step s m hm); have HLN := Lib.hid (show (rv s (m + 1)).length <= 1000000 by have := rv_len s (m + 1); omega); have HDV := Lib.hid (show Dg.dv s[m] = (s[m].toNat : Int) - 48 from rfl); clear hj
    by_cases hd : Dg.isD s[m]
    · have HD := Lib.hid hd
      obtain ⟨d1, d2⟩ := hd; have e1 : decide ((s[m].toNat : Int) < 48) = false := (by simp; omega); have e2 : decide (57 < (s[m].toNat : Int)) = false := (by simp; omega); have b1 : 0 <= (s[m].toNat : Int) - 48 := (by omega); have b2 : (s[m].toNat : Int) - 48 <= 9 := (by omega); have hv : IntKind.u8.wrap ((s[m].toNat : Int) - 48) = (s[m].toNat : Int) - 48 := IntWalk.u8_in _ (by omega); go_wp2_with fail; go_region_law (refine step_digit (by rfl) _ _ (by rfl) wr (w.heap.size + 1 + 1) v (rv s (m + 1)) ((s[m].toNat : Int) - 48) (by rfl) HOWN.out (by rfl) HLN.out (by omega) ?_; intro p3 cap3 w3 hown' hg; obtain ⟨y0, y1, yf0, yf1, yl⟩ := HR.out.x.kept hg (fun e => by have := HOWN.out.row _ e; omega))
      all_goals
        have HN := Lib.hid (show ParseRel w true s 1 (w3.setCell ⟨w.heap.size + 1, 1, none⟩ (.slice p3 ((rv s (m + 1)).length + 1) cap3)) m (.slice p3 ((rv s (m + 1)).length + 1) cap3) from
         ⟨by omega, by omega, drop_dg hm HDG.out HD.out, by rw [HST.out]; exact (show OwnD w3 _ _ (rv s (m + 1) ++ [Dg.dv s[m]]) from by rw [HDV.out]; exact hown').far (by simp) _,
          (HR.out.r.kept hg (fun e => by have := HOWN.out.row _ e; omega)).far (by simp) _, (HR.out.x.kept hg (fun e => by have := HOWN.out.row _ e; omega)).set1 _, (HR.out.dn.grown hg (fun k e => by have := HOWN.out.row _ e; omega)).setCell (by simp) _⟩)
        clear hown' hg hv; go_wp2_with fail; go_roundw
        case rel => exact ⟨m, _, _, rfl, rfl, HN.out⟩
        case measure => simp [intOf]
    · have NO := Lib.hid (not_ok_digit ST (by omega) hm hd)
      by_cases h48 : (s[m].toNat : Int) < 48
      · have e1 : decide ((s[m].toNat : Int) < 48) = true := by simpa using h48
        clear hd; go_wp2_with fail; obtain ⟨z0, z1, _, _, _⟩ := HR.out.r.put false (.slice none 0 0)
        exact bodyPost_ret (w := setN wr w.heap.size false (.slice none 0 0)) (v := .tuple #[.agg #[.bool false, .slice none 0 0], .bool false]) (by simp [results, Tryz.results146, go_sem, z0, z1]) rfl
         (Or.inr ⟨NO.out, rfl, setN_dn HR.out.dn (Nat.le_refl _) _ _⟩)
      · have e1 : decide ((s[m].toNat : Int) < 48) = false := by simpa using h48
        have e2 : decide (57 < (s[m].toNat : Int)) = true := (by unfold Dg.isD at hd; simp; omega); clear hd; go_wp2_with fail; obtain ⟨z0, z1, _, _, _⟩ := HR.out.r.put false (.slice none 0 0)
        exact bodyPost_ret (w := setN wr w.heap.size false (.slice none 0 0)) (v := .tuple #[.agg #[.bool false, .slice none 0 0], .bool false]) (by simp [results, Tryz.results146, go_sem, z0, z1]) rfl
         (Or.inr ⟨NO.out, rfl, setN_dn HR.out.dn (Nat.le_refl _) _ _⟩)
theorem rParse_pos (s : ByteArray) (w : World) (hs : s.size <= 1000) (ST : Start s false 0) (hlt : 0 < s.size) (h45 : s[0] ≠ 45) (hz : ¬ (s[0] = 48 /\ 1 < s.size)) :
   Calls Tryz.prog 146 #[.string s] w (PPost s w) := by
 obtain ⟨W, hW⟩ : ∃ W, W = (w.alloc (.cells #[.bool false, .slice none 0 0] 88)).alloc (.cells #[.bool false, .slice none 0 0] 88) := ⟨_, rfl⟩
 have N1 := Lib.hid (show NBlk W w.heap.size false (.slice none 0 0) by rw [hW]; exact (NBlk.new _ _ _ _).alloc _)
 have N2 := Lib.hid (show NBlk W (w.heap.size + 1) false (.slice none 0 0) by rw [hW]; exact NBlk.new1 _ _ _ _ _)
 have U := Lib.hid (show Dn w W by rw [hW]; exact ((Dn.refl _).alloc _).alloc _)
 have HW := Lib.hid hW
 have ST := ST
 clear hW
 have q0 : ((s[0].toNat : Int) == 45) = false := by
   rw [beq_eq_false_iff_ne]; intro e; exact h45 (UInt8.toNat_inj.1 (by simpa using (by exact_mod_cast e : s[0].toNat = 45)))
 have q2 : ((s.size : Int) == 0) = false := by rw [beq_eq_false_iff_ne]; omega
 clear h45
 by_cases h48 : s[0] = 48
 · have q1 : ((s[0].toNat : Int) == 48) = true := by rw [h48]; rfl
   have q4 : ¬ 1 < s.size := fun h => hz ⟨h48, h⟩
   have q3 : decide (1 < (s.size : Int)) = false := by rw [decide_eq_false_iff_not]; omega
   clear h48; go_enter Tryz.func146, Tryz.ntmps146; go_wp2_with fail; rw [<- HW.out]; clear HW q0 q1 q2 q3; go_loopw [6] (fun iv wr => ∃ (k : Nat) (j : Int) (v : Value), j = (k : Int) - 1 /\ iv = .int .i64 j /\ ParseRel w false s 0 wr k v) (fun iv _ => (intOf iv + 1).toNat)
   case atStart => exact ⟨s.size, _, .slice none 0 0, rfl, rfl, ⟨by omega, Nat.le_refl _, by rw [List.drop_of_length_le (by rw [len_is]; exact Nat.le_refl _)]; intro c hc; simp at hc, by rw [rv_end]; exact OwnD.nil _ _, N1.out, N2.out, U.out⟩⟩
   case round =>
    obtain ⟨k, j, v, hj, rfl, hR⟩ := hrel; have HR := Lib.hid hR; obtain ⟨hfk, hks, hdg, hown, ⟨r0, r1, rf0, rf1, rl⟩, ⟨x0, x1, xf0, xf1, xl⟩, hu⟩ := hR; have HOWN := Lib.hid hown; have HDG := Lib.hid hdg; clear hdg hown
    by_cases h0 : k = 0
    · subst h0
      obtain rfl : j = -1 := by omega
      obtain ⟨p, cap, rfl, hp⟩ := HOWN.out.form; obtain ⟨ok1, ok2⟩ := ok_all ST hlt hz HDG.out; have OK1 := Lib.hid ok1; have OK2 := Lib.hid ok2; clear hj ok1 ok2; go_wp2_with fail; refine (rTrim false p _ cap (rv s 0) wr _ (Dn.refl _) HOWN.out.sl (Dg.dv_digs _ HDG.out)).mono ?_; rintro e w4 ⟨b', k', rfl, hI, q4⟩; rw [<- OK2.out] at hI; have HI := Lib.hid (hI.dn q4); have N4 := Lib.hid (HR.out.r.dn q4); have U4 := Lib.hid (hu.trans q4); clear r0 r1 rf0 rf1 x0 x1 xf0 xf1 hu hI q4; obtain ⟨r0, r1, rf0, rf1, rl⟩ := N4.out; go_wp2_with fail; obtain ⟨z0, z1, _, _, _⟩ := N4.out.put b' (.slice p k' cap)
      exact bodyPost_ret (w := setN w4 w.heap.size b' (.slice p k' cap)) (v := .tuple #[.agg #[.bool b', .slice p k' cap], .bool true]) (by simp [results, Tryz.results146, go_sem, z0, z1]) rfl
        (Or.inl ⟨OK1.out, _, _, _, _, rfl, HI.out.farN (fun g hg => by have := hp g hg; omega) _ _, setN_dn U4.out (Nat.le_refl _) _ _⟩)
    · obtain ⟨m, rfl⟩ : ∃ m, k = m + 1 := ⟨k - 1, by omega⟩
      obtain rfl : j = (m : Int) := by omega
      have hm : m < s.size := (by omega); have hfm : (0 : Int) <= m := (by omega); have hc := UInt8.toNat_lt s[m]; have HST := Lib.hid (rv_step s m hm); have HLN := Lib.hid (show (rv s (m + 1)).length <= 1000000 by have := rv_len s (m + 1); omega); have HDV := Lib.hid (show Dg.dv s[m] = (s[m].toNat : Int) - 48 from rfl); clear hj
      by_cases hd : Dg.isD s[m]
      · have HD := Lib.hid hd
        obtain ⟨d1, d2⟩ := hd; have e1 : decide ((s[m].toNat : Int) < 48) = false := (by simp; omega); have e2 : decide (57 < (s[m].toNat : Int)) = false := (by simp; omega); have b1 : 0 <= (s[m].toNat : Int) - 48 := (by omega); have b2 : (s[m].toNat : Int) - 48 <= 9 := (by omega); have hv : IntKind.u8.wrap ((s[m].toNat : Int) - 48) = (s[m].toNat : Int) - 48 := IntWalk.u8_in _ (by omega); go_wp2_with fail; go_region_law (refine step_digit (by rfl) _ _ (by rfl) wr (w.heap.size + 1 + 1) v (rv s (m + 1)) ((s[m].toNat : Int) - 48) (by rfl) HOWN.out (by rfl) HLN.out (by omega) ?_; intro p3 cap3 w3 hown' hg; obtain ⟨y0, y1, yf0, yf1, yl⟩ := HR.out.x.kept hg (fun e => by have := HOWN.out.row _ e; omega))
        all_goals
          have HN := Lib.hid (show ParseRel w false s 0 (w3.setCell ⟨w.heap.size + 1, 1, none⟩ (.slice p3 ((rv s (m + 1)).length + 1) cap3)) m (.slice p3 ((rv s (m + 1)).length + 1) cap3) from
           ⟨by omega, by omega, drop_dg hm HDG.out HD.out, by rw [HST.out]; exact (show OwnD w3 _ _ (rv s (m + 1) ++ [Dg.dv s[m]]) from by rw [HDV.out]; exact hown').far (by simp) _,
            (HR.out.r.kept hg (fun e => by have := HOWN.out.row _ e; omega)).far (by simp) _, (HR.out.x.kept hg (fun e => by have := HOWN.out.row _ e; omega)).set1 _, (HR.out.dn.grown hg (fun k e => by have := HOWN.out.row _ e; omega)).setCell (by simp) _⟩)
          clear hown' hg hv; go_wp2_with fail; go_roundw
          case rel => exact ⟨m, _, _, rfl, rfl, HN.out⟩
          case measure => simp [intOf]
      · have NO := Lib.hid (not_ok_digit ST (by omega) hm hd)
        by_cases h48 : (s[m].toNat : Int) < 48
        · have e1 : decide ((s[m].toNat : Int) < 48) = true := by simpa using h48
          clear hd; go_wp2_with fail; obtain ⟨z0, z1, _, _, _⟩ := HR.out.r.put false (.slice none 0 0)
          exact bodyPost_ret (w := setN wr w.heap.size false (.slice none 0 0)) (v := .tuple #[.agg #[.bool false, .slice none 0 0], .bool false]) (by simp [results, Tryz.results146, go_sem, z0, z1]) rfl
           (Or.inr ⟨NO.out, rfl, setN_dn HR.out.dn (Nat.le_refl _) _ _⟩)
        · have e1 : decide ((s[m].toNat : Int) < 48) = false := by simpa using h48
          have e2 : decide (57 < (s[m].toNat : Int)) = true := (by unfold Dg.isD at hd; simp; omega); clear hd; go_wp2_with fail; obtain ⟨z0, z1, _, _, _⟩ := HR.out.r.put false (.slice none 0 0)
          exact bodyPost_ret (w := setN wr w.heap.size false (.slice none 0 0)) (v := .tuple #[.agg #[.bool false, .slice none 0 0], .bool false]) (by simp [results, Tryz.results146, go_sem, z0, z1]) rfl
           (Or.inr ⟨NO.out, rfl, setN_dn HR.out.dn (Nat.le_refl _) _ _⟩)
 · have q1 : ((s[0].toNat : Int) == 48) = false := by
    rw [beq_eq_false_iff_ne]; intro e; exact h48 (UInt8.toNat_inj.1 (by simpa using (by exact_mod_cast e : s[0].toNat = 48)))
   clear h48; go_enter Tryz.func146, Tryz.ntmps146; go_wp2_with fail; rw [<- HW.out]; clear HW q0 q1 q2; go_loopw [6] (fun iv wr => ∃ (k : Nat) (j : Int) (v : Value), j = (k : Int) - 1 /\ iv = .int .i64 j /\ ParseRel w false s 0 wr k v) (fun iv _ => (intOf iv + 1).toNat)
   case atStart => exact ⟨s.size, _, .slice none 0 0, rfl, rfl, ⟨by omega, Nat.le_refl _, by rw [List.drop_of_length_le (by rw [len_is]; exact Nat.le_refl _)]; intro c hc; simp at hc, by rw [rv_end]; exact OwnD.nil _ _, N1.out, N2.out, U.out⟩⟩
   case round =>
    obtain ⟨k, j, v, hj, rfl, hR⟩ := hrel; have HR := Lib.hid hR; obtain ⟨hfk, hks, hdg, hown, ⟨r0, r1, rf0, rf1, rl⟩, ⟨x0, x1, xf0, xf1, xl⟩, hu⟩ := hR; have HOWN := Lib.hid hown; have HDG := Lib.hid hdg; clear hdg hown
    by_cases h0 : k = 0
    · subst h0
      obtain rfl : j = -1 := by omega
      obtain ⟨p, cap, rfl, hp⟩ := HOWN.out.form; obtain ⟨ok1, ok2⟩ := ok_all ST hlt hz HDG.out; have OK1 := Lib.hid ok1; have OK2 := Lib.hid ok2; clear hj ok1 ok2; go_wp2_with fail; refine (rTrim false p _ cap (rv s 0) wr _ (Dn.refl _) HOWN.out.sl (Dg.dv_digs _ HDG.out)).mono ?_; rintro e w4 ⟨b', k', rfl, hI, q4⟩; rw [<- OK2.out] at hI; have HI := Lib.hid (hI.dn q4); have N4 := Lib.hid (HR.out.r.dn q4); have U4 := Lib.hid (hu.trans q4); clear r0 r1 rf0 rf1 x0 x1 xf0 xf1 hu hI q4; obtain ⟨r0, r1, rf0, rf1, rl⟩ := N4.out; go_wp2_with fail; obtain ⟨z0, z1, _, _, _⟩ := N4.out.put b' (.slice p k' cap)
      exact bodyPost_ret (w := setN w4 w.heap.size b' (.slice p k' cap)) (v := .tuple #[.agg #[.bool b', .slice p k' cap], .bool true]) (by simp [results, Tryz.results146, go_sem, z0, z1]) rfl
        (Or.inl ⟨OK1.out, _, _, _, _, rfl, HI.out.farN (fun g hg => by have := hp g hg; omega) _ _, setN_dn U4.out (Nat.le_refl _) _ _⟩)
    · obtain ⟨m, rfl⟩ : ∃ m, k = m + 1 := ⟨k - 1, by omega⟩
      obtain rfl : j = (m : Int) := by omega
      have hm : m < s.size := (by omega); have hfm : (0 : Int) <= m := (by omega); have hc := UInt8.toNat_lt s[m]; have HST := Lib.hid (rv_step s m hm); have HLN := Lib.hid (show (rv s (m + 1)).length <= 1000000 by have := rv_len s (m + 1); omega); have HDV := Lib.hid (show Dg.dv s[m] = (s[m].toNat : Int) - 48 from rfl); clear hj
      by_cases hd : Dg.isD s[m]
      · have HD := Lib.hid hd
        obtain ⟨d1, d2⟩ := hd; have e1 : decide ((s[m].toNat : Int) < 48) = false := (by simp; omega); have e2 : decide (57 < (s[m].toNat : Int)) = false := (by simp; omega); have b1 : 0 <= (s[m].toNat : Int) - 48 := (by omega); have b2 : (s[m].toNat : Int) - 48 <= 9 := (by omega); have hv : IntKind.u8.wrap ((s[m].toNat : Int) - 48) = (s[m].toNat : Int) - 48 := IntWalk.u8_in _ (by omega); go_wp2_with fail; go_region_law (refine step_digit (by rfl) _ _ (by rfl) wr (w.heap.size + 1 + 1) v (rv s (m + 1)) ((s[m].toNat : Int) - 48) (by rfl) HOWN.out (by rfl) HLN.out (by omega) ?_; intro p3 cap3 w3 hown' hg; obtain ⟨y0, y1, yf0, yf1, yl⟩ := HR.out.x.kept hg (fun e => by have := HOWN.out.row _ e; omega))
        all_goals
          have HN := Lib.hid (show ParseRel w false s 0 (w3.setCell ⟨w.heap.size + 1, 1, none⟩ (.slice p3 ((rv s (m + 1)).length + 1) cap3)) m (.slice p3 ((rv s (m + 1)).length + 1) cap3) from
           ⟨by omega, by omega, drop_dg hm HDG.out HD.out, by rw [HST.out]; exact (show OwnD w3 _ _ (rv s (m + 1) ++ [Dg.dv s[m]]) from by rw [HDV.out]; exact hown').far (by simp) _,
            (HR.out.r.kept hg (fun e => by have := HOWN.out.row _ e; omega)).far (by simp) _, (HR.out.x.kept hg (fun e => by have := HOWN.out.row _ e; omega)).set1 _, (HR.out.dn.grown hg (fun k e => by have := HOWN.out.row _ e; omega)).setCell (by simp) _⟩)
          clear hown' hg hv; go_wp2_with fail; go_roundw
          case rel => exact ⟨m, _, _, rfl, rfl, HN.out⟩
          case measure => simp [intOf]
      · have NO := Lib.hid (not_ok_digit ST (by omega) hm hd)
        by_cases h48 : (s[m].toNat : Int) < 48
        · have e1 : decide ((s[m].toNat : Int) < 48) = true := by simpa using h48
          clear hd; go_wp2_with fail; obtain ⟨z0, z1, _, _, _⟩ := HR.out.r.put false (.slice none 0 0)
          exact bodyPost_ret (w := setN wr w.heap.size false (.slice none 0 0)) (v := .tuple #[.agg #[.bool false, .slice none 0 0], .bool false]) (by simp [results, Tryz.results146, go_sem, z0, z1]) rfl
           (Or.inr ⟨NO.out, rfl, setN_dn HR.out.dn (Nat.le_refl _) _ _⟩)
        · have e1 : decide ((s[m].toNat : Int) < 48) = false := by simpa using h48
          have e2 : decide (57 < (s[m].toNat : Int)) = true := (by unfold Dg.isD at hd; simp; omega); clear hd; go_wp2_with fail; obtain ⟨z0, z1, _, _, _⟩ := HR.out.r.put false (.slice none 0 0)
          exact bodyPost_ret (w := setN wr w.heap.size false (.slice none 0 0)) (v := .tuple #[.agg #[.bool false, .slice none 0 0], .bool false]) (by simp [results, Tryz.results146, go_sem, z0, z1]) rfl
           (Or.inr ⟨NO.out, rfl, setN_dn HR.out.dn (Nat.le_refl _) _ _⟩)
theorem rParse_bad (s : ByteArray) (w : World) (hs : s.size <= 1000) (h : s.size = 0 \/ (∃ h : 0 < s.size, s[0] = 45 /\ s.size = 1) \/ (∃ h : 1 < s.size, s[0] = 45 /\ s[1] = 48) \/ (∃ h : 1 < s.size, s[0] ≠ 45 /\ s[0] = 48)) :
   Calls Tryz.prog 146 #[.string s] w (PPost s w) := by
 rcases h with h | ⟨h0, h1, h2⟩ | ⟨h0, h1, h2⟩ | ⟨h0, h1, h2⟩
 · have NO := Lib.hid (not_ok_empty (start_pos (s := s) (fun h' => by omega)) h)
   have q : decide (0 < (s.size : Int)) = false := by rw [decide_eq_false_iff_not]; omega
   have q2 : ((s.size : Int) == 0) = true := by rw [beq_iff_eq]; omega
   have q3 : ¬ 0 < s.size := by omega
   clear h; go_enter Tryz.func146, Tryz.ntmps146; go_wp2_with fail; exact bodyPost_ret (v := .tuple #[.agg #[.bool false, .slice none 0 0], .bool false]) (by simp [results, Tryz.results146, go_sem]) rfl (Or.inr ⟨NO.out, rfl, ((Dn.refl _).alloc _).alloc _⟩)
 · have NO := Lib.hid (not_ok_empty (start_neg h0 h1) h2)
   have q0 : ((s[0].toNat : Int) == 45) = true := by rw [h1]; rfl
   have q2 : ((s.size : Int) == 1) = true := by rw [beq_iff_eq]; omega
   clear h1 h2; go_enter Tryz.func146, Tryz.ntmps146; go_wp2_with fail; exact bodyPost_ret (v := .tuple #[.agg #[.bool false, .slice none 0 0], .bool false]) (by simp [results, Tryz.results146, go_sem]) rfl (Or.inr ⟨NO.out, rfl, ((Dn.refl _).alloc _).alloc _⟩)
 · have NO := Lib.hid (not_ok_zero (start_neg (by omega) h1) h0 h2 h0)
   have q0 : ((s[0].toNat : Int) == 45) = true := by rw [h1]; rfl
   have q1 : ((s[1].toNat : Int) == 48) = true := by rw [h2]; rfl
   have q2 : ((s.size : Int) == 1) = false := by rw [beq_eq_false_iff_ne]; omega
   have q3 : decide (1 < (s.size : Int)) = true := by simp; omega
   clear h1 h2; go_enter Tryz.func146, Tryz.ntmps146; go_wp2_with fail; exact bodyPost_ret (v := .tuple #[.agg #[.bool false, .slice none 0 0], .bool false]) (by simp [results, Tryz.results146, go_sem]) rfl (Or.inr ⟨NO.out, rfl, ((Dn.refl _).alloc _).alloc _⟩)
 · have NO := Lib.hid (not_ok_zero (start_pos (s := s) (fun _ => h1)) (by omega) h2 h0)
   have q0 : ((s[0].toNat : Int) == 45) = false := by rw [h2]; rfl
   have q1 : ((s[0].toNat : Int) == 48) = true := by rw [h2]; rfl
   have q2 : ((s.size : Int) == 0) = false := by rw [beq_eq_false_iff_ne]; omega
   have q3 : decide (1 < (s.size : Int)) = true := by simp; omega
   clear h1 h2; go_enter Tryz.func146, Tryz.ntmps146; go_wp2_with fail; exact bodyPost_ret (v := .tuple #[.agg #[.bool false, .slice none 0 0], .bool false]) (by simp [results, Tryz.results146, go_sem]) rfl (Or.inr ⟨NO.out, rfl, ((Dn.refl _).alloc _).alloc _⟩)
theorem rParse (s : ByteArray) (w : World) (hs : s.size <= 1000) :
   Calls Tryz.prog 146 #[.string s] w (PPost s w) := by
 by_cases h0 : 0 < s.size
 · by_cases h45 : s[0] = 45
   · by_cases h1 : 1 < s.size
     · by_cases h48 : s[1] = 48
       · exact rParse_bad s w hs (Or.inr (Or.inr (Or.inl ⟨h1, h45, h48⟩)))
       · exact rParse_neg s w hs (start_neg h0 h45) h1 h45 (fun h => h48 h.1)
     · exact rParse_bad s w hs (Or.inr (Or.inl ⟨h0, h45, by omega⟩))
   · by_cases hz : s[0] = 48 /\ 1 < s.size
     · exact rParse_bad s w hs (Or.inr (Or.inr (Or.inr ⟨hz.2, h45, hz.1⟩)))
     · exact rParse_pos s w hs (start_pos (fun _ => h45)) h0 h45 hz
 · exact rParse_bad s w hs (Or.inl (by omega))
set_option maxHeartbeats 2000000
set_option maxRecDepth 10000
structure EnvI (w : World) : Prop where
 tab : Lib.TabIs Tryz.prog w "internal/strconv.uint64pow10" .u64 Lib.pow10Tab
 er : ∃ tp p, w.var? Tryz.prog "strconv.ErrRange" = some #[.iface tp p]
theorem var_dn {w w' : World} {n : String} {cs : Array Value} (h : w.var? Tryz.prog n = some cs) (k : Dn w w') : w'.var? Tryz.prog n = some cs := by
 unfold World.var? at h ⊢
 cases hg : Tryz.prog.globalNamed n with
 | none => rw [hg] at h; simp at h
 | some g =>
   rw [hg] at h; simp only [Option.bind_some] at h ⊢
   have hlt : g < w.heap.size := by
    rcases Nat.lt_or_ge g w.heap.size with hl | hl
    · exact hl
    · rw [Array.getElem?_eq_none hl] at h; simp at h
   rw [k.below.block g hlt]; exact h
theorem EnvI.dn {w w' : World} (h : EnvI w) (k : Dn w w') : EnvI w' := by
 obtain ⟨tp, p, he⟩ := h.er
 exact ⟨var_dn h.tab k, tp, p, var_dn he k⟩
theorem EnvI.up {w w' : World} (h : EnvI w) (k : Up w w') : EnvI w' := h.dn k.dn
theorem itext (n : Int) (w : World) (hn : I64 n) (hE : EnvI w) :
  Calls Tryz.prog 147 #[.int .i64 n] w fun e w' => e = .returned (.string ⟨(Lib.itoa n).toArray⟩) /\ Up w w' := by
 have HF := Lib.hid (Tryz.strconv_FormatInt_10 n hn.1 hn.2 w hE.tab)
 clear hn hE
 go_enter Tryz.func147, Tryz.ntmps147
 go_wp2_with fail
 refine HF.out.mono ?_
 rintro e w1 ⟨rfl, k, os, rfl⟩
 go_wp2_with fail
 go_ret
 exact ⟨rfl, Up.of_grow k os⟩
theorem has_neg (l : List UInt8) : Lib.hasPrefix l [45] = isNeg l := by
 unfold Lib.hasPrefix isNeg
 cases l with
 | nil => rfl
 | cons c r =>
   by_cases h : c = 45
   · subst h; rfl
   · have h1 : ((45 : UInt8) == c) = false := by rw [beq_eq_false_iff_ne]; exact fun e => h e.symm
     show ((45 : UInt8) == c && List.isPrefixOf [] r) = (some c == some 45)
     rw [h1]; simp [h]
theorem trim_neg (l : List UInt8) : Lib.trimPrefix l [45] = dsOf l := by
 unfold Lib.trimPrefix dsOf
 rw [has_neg]
 rfl
theorem ds_len (l : List UInt8) : (isNeg l = true -> l.length = (dsOf l).length + 1) /\ (isNeg l = false -> dsOf l = l) := by
 unfold dsOf
 constructor
 · intro h
   rw [if_pos h]
   cases l with
   | nil => simp [isNeg] at h
   | cons c r => simp
 · intro h
   rw [if_neg (by rw [h]; simp)]
def IPost (l : List UInt8) (w : World) (e : Ending) (w' : World) : Prop :=
 Dn w w' /\ ((pOk l /\ I64 (pVal l) /\ e = .returned (.tuple #[.int .i64 (pVal l), .int .i64 0])) \/ (pOk l /\ ¬ I64 (pVal l) /\ e = .returned (.tuple #[.int .i64 0, .int .i64 15])) \/ (¬ pOk l /\ e = .returned (.tuple #[.int .i64 0, .int .i64 5])))
theorem all_step {D : ByteArray} {k : Nat} (h : k < D.size) (ha : ∀ c ∈ D.data.toList.take k, Dg.isD c) (hd : Dg.isD D[k]) : ∀ c ∈ D.data.toList.take (k + 1), Dg.isD c := by
 have h2 : k < D.data.toList.length := by rw [len_is]; exact h
 intro c hc
 rw [List.take_succ_eq_append_getElem h2] at hc
 rcases List.mem_append.1 hc with hc | hc
 · exact ha c hc
 · have := get_at D k h
   rw [List.getElem?_eq_getElem h2] at this; rw [Option.some.inj this] at hc; simp at hc; subst hc; exact hd
theorem parse64_ok {l : List UInt8} (hne : l ≠ []) (h : ∀ c ∈ l, Dg.isD c) (hl : Dg.nvA 0 l <= 18446744073709551615) : Lib.parseUintB 64 l = .ok (Dg.nvA 0 l) := by
 unfold Lib.parseUintB
 rw [if_neg hne]
 exact Dg.parse_ok l h 0 hl
theorem parse64_range {l : List UInt8} (hne : l ≠ []) (h : ∀ c ∈ l, Dg.isD c) (hl : 18446744073709551615 < Dg.nvA 0 l) : Lib.parseUintB 64 l = .range := by
 unfold Lib.parseUintB
 rw [if_neg hne]
 exact Dg.parse_range l h 0 (by omega) hl
theorem up_uint {w w' : World} {t : TypeId} {s : ByteArray} (h : w' = w \/ w' = Lib.bytesWorld w t s) : Dn w w' := by
 rcases h with rfl | rfl
 · exact Dn.refl _
 · exact ⟨Joins.below_bytesWorld _ _ _ _ (Nat.le_refl _)⟩
theorem iparse (s : ByteArray) (w : World) (hs : s.size <= 1000) (hE : EnvI w) :
  Calls Tryz.prog 145 #[.string s] w (IPost s.data.toList w) := by
 have hC := fun W => Tryz.strings_CutPrefix s ⟨#[45]⟩ W
 rw [show (⟨#[45]⟩ : ByteArray).data.toList = [45] from rfl, has_neg, trim_neg] at hC
 obtain ⟨hlen1, hlen2⟩ := ds_len s.data.toList
 rw [len_is] at hlen1
 have HL1 := Lib.hid hlen1
 have HL2 := Lib.hid hlen2
 generalize hl : s.data.toList = l at *
 generalize hb : isNeg l = b at *
 obtain ⟨D, hD⟩ : ∃ D : ByteArray, D = ⟨(dsOf l).toArray⟩ := ⟨_, rfl⟩
 have hD2 : D.data.toList = dsOf l := by rw [hD]
 rw [<- hD] at hC
 have HC := Lib.hid hC
 have HD := Lib.hid hD2
 have HB := Lib.hid hb
 have HLL := Lib.hid (show l.length = s.size by rw [<- hl, len_is])
 have hDs : D.size <= 1000 := by
  have e : D.size = (dsOf l).length := by rw [<- hD2, len_is]
  have h3 := HLL.out
  cases b
  · rw [e, HL2.out rfl]; omega
  · have := HL1.out rfl; omega
 clear hC hlen1 hlen2 hl hb hD hD2
 go_enter Tryz.func145, Tryz.ntmps145
 go_wp2_with fail
 refine (HC.out _).mono ?_
 rintro e w1 ⟨rfl, hw1⟩
 subst hw1
 go_wp2_with fail
 go_loop [6, 16] (fun iv kv => ∃ k : Nat, k <= D.size /\ kv = .int .i64 k /\ ∀ c ∈ D.data.toList.take k, Dg.isD c) (fun _ kv => D.size - (intOf kv).toNat)
 case atStart => exact ⟨0, by omega, rfl, by simp⟩
 case round =>
  obtain ⟨k, hk, rfl, hall⟩ := hrel; have HA := Lib.hid hall; clear hall
  by_cases hlt : k < D.size
  · have c1 := UInt8.toNat_lt D[k]
    have q1 : decide ((k : Int) < D.size) = true := (by simp; omega)
    by_cases hd : Dg.isD D[k]
    · have HDD := Lib.hid (all_step hlt HA.out hd)
      obtain ⟨d1, d2⟩ := hd; have e1 : decide ((D[k].toNat : Int) < 48) = false := (by simp; omega); have e2 : decide (57 < (D[k].toNat : Int)) = false := (by simp; omega); go_wp2_with fail; go_round
      case rel => exact ⟨k + 1, by omega, by go_num, HDD.out⟩
      case measure => simp [intOf]; omega
    · have NO := Lib.hid (show ¬ pOk l from fun hp => hd (hp.2.2 _ (by rw [<- HD.out]; exact List.mem_of_getElem? (get_at D k hlt))))
      by_cases h48 : (D[k].toNat : Int) < 48
      · have e1 : decide ((D[k].toNat : Int) < 48) = true := by simpa using h48
        clear hd; go_wp2_with fail; go_ret2; exact ⟨Dn.refl _, Or.inr (Or.inr ⟨NO.out, rfl⟩)⟩
      · have e1 : decide ((D[k].toNat : Int) < 48) = false := by simpa using h48
        have e2 : decide (57 < (D[k].toNat : Int)) = true := (by unfold Dg.isD at hd; simp; omega); clear hd; go_wp2_with fail; go_ret2; exact ⟨Dn.refl _, Or.inr (Or.inr ⟨NO.out, rfl⟩)⟩
  · obtain rfl : k = D.size := by omega
    have q1 : decide ((D.size : Int) < D.size) = false := (by simp)
    have hall : ∀ c ∈ dsOf l, Dg.isD c := by
      have := HA.out; rw [List.take_of_length_le (by rw [len_is]; exact Nat.le_refl _), HD.out] at this; exact this
    have HALL := Lib.hid hall; clear hall hk
    by_cases h0 : D.size = 0
    · have NO := Lib.hid (show ¬ pOk l from fun hp => hp.1 (List.length_eq_zero_iff.1 (by rw [<- HD.out, len_is]; exact h0)))
      obtain rfl : D = ⟨#[]⟩ := by
        apply ByteArray.ext; exact Array.eq_empty_of_size_eq_zero h0
      clear h0; go_wp2_with fail; go_ret2; exact ⟨Dn.refl _, Or.inr (Or.inr ⟨NO.out, rfl⟩)⟩
    · have hpos : 0 < D.size := by omega
      have hne : dsOf l ≠ [] := fun e => h0 (by have := congrArg List.length e; rw [<- HD.out, len_is] at this; simpa using this)
      have s2 : ¬ D.toList = [] := (by rw [ByteArray.toList_eq, HD.out]; exact hne); have s1 : D.toList.isEmpty = false := (by simpa using s2); have hhead : (dsOf l).head? = some D[0] := (by rw [<- HD.out, List.head?_eq_getElem?]; exact get_at D 0 hpos); have HHEAD := Lib.hid hhead; have HNE := Lib.hid hne; clear hhead hne
      by_cases hz : D[0] = 48 /\ (b = true \/ 1 < D.size)
      · have NO := Lib.hid (show ¬ pOk l from fun hp => hp.2.1 ⟨by rw [HHEAD.out, hz.1], by
          have h3 := HLL.out; rcases hz.2 with e | e
          · have := HL1.out e; rw [<- HD.out, len_is] at this; omega
          · by_cases hb : b = true
            · have := HL1.out hb; rw [<- HD.out, len_is] at this; omega
            · have e2 := HL2.out (by simpa using hb)
              rw [<- HD.out] at e2
              rw [<- e2, len_is]; exact e⟩)
        obtain ⟨z1, z2⟩ := hz; have q2 : ((D[0].toNat : Int) == 48) = true := (by rw [z1]; rfl)
        cases b
        · have z3 : 1 < D.size := by simpa using z2
          have q3 : decide (1 < (D.size : Int)) = true := (by rw [decide_eq_true_eq]; omega); clear z1 z2; go_wp2_with fail; go_ret2; exact ⟨Dn.refl _, Or.inr (Or.inr ⟨NO.out, rfl⟩)⟩
        · clear z1 z2
          go_wp2_with fail; go_ret2; exact ⟨Dn.refl _, Or.inr (Or.inr ⟨NO.out, rfl⟩)⟩
      · have OK : pOk l := ⟨HNE.out, fun hp => hz ⟨by have := hp.1; rw [HHEAD.out] at this; exact Option.some.inj this, by
          cases b
          · right
            have e2 := HL2.out rfl; rw [<- HD.out] at e2; have := hp.2; rw [<- e2, len_is] at this; exact this
          · exact Or.inl rfl⟩, HALL.out⟩
        have HOK := Lib.hid OK; have HPV := Lib.hid (show pVal l = sg b (Dg.nvA 0 (dsOf l)) by unfold pVal; rw [HB.out]); have hsz : D.size <= 281474976710656 := (by omega)
        have hq : (((D[0].toNat : Int) == 48) = true /\ b = false /\ decide (1 < (D.size : Int)) = false /\ ¬ 1 < D.size) \/ (((D[0].toNat : Int) == 48) = false) := by
          by_cases z : D[0] = 48
          · left
            have hb : b = false := by
              cases b
              · rfl
              · exact absurd ⟨z, Or.inl rfl⟩ hz
            have h1 : ¬ 1 < D.size := fun h => hz ⟨z, Or.inr h⟩
            exact ⟨by rw [z]; rfl, hb, by rw [decide_eq_false_iff_not]; omega, h1⟩
          · right
            rw [beq_eq_false_iff_ne]; intro e; exact z (UInt8.toNat_inj.1 (by simpa using (by exact_mod_cast e : D[0].toNat = 48)))
        clear hz OK; generalize hN : Dg.nvA 0 (dsOf l) = N at *; have HN := Lib.hid hN; clear hN
        by_cases hr : N <= 18446744073709551615
        · have CP := Lib.hid (fun W => Tryz.strconv_ParseUint_10_at64_ok D (by omega) N (by rw [HD.out, <- HN.out]; exact parse64_ok HNE.out HALL.out (by rw [HN.out]; exact hr)) W)
          have SG : ∃ rx re : Int, (∀ W, Calls Tryz.prog 160 #[.int .u64 (N : Int), .bool b] W fun e w' => e = .returned (.tuple #[.int .i64 rx, .int .i64 re]) /\ W = w') /\ ((I64 (sg b N) /\ rx = sg b N /\ re = 0) \/ (¬ I64 (sg b N) /\ rx = 0 /\ re = 15)) := by
            cases b
            · by_cases h : (N : Int) <= 9223372036854775807
              · exact ⟨N, 0, fun W => isigned_pos N W (by omega) h, Or.inl ⟨⟨by unfold sg; simp; try omega, by simpa [sg] using h⟩, by simp [sg], rfl⟩⟩
              · exact ⟨0, 15, fun W => isigned_no N false W (Or.inr ⟨rfl, by omega⟩), Or.inr ⟨fun hi => h (by have := hi.2; simpa [sg] using this), rfl, rfl⟩⟩
            · by_cases h : (N : Int) <= 9223372036854775808
              · exact ⟨-N, 0, fun W => isigned_neg N W (by omega) h, Or.inl ⟨⟨by unfold sg; simp; try omega, by unfold sg; simp; try omega⟩, by simp [sg], rfl⟩⟩
              · exact ⟨0, 15, fun W => isigned_no N true W (Or.inl ⟨rfl, by omega⟩), Or.inr ⟨fun hi => h (by have := hi.1; simp [sg] at this; omega), rfl, rfl⟩⟩
          obtain ⟨rx, re, CS, hcase⟩ := SG; have HCS := Lib.hid CS; have HCASE := Lib.hid hcase; clear CS hcase hr; generalize (N : Int) = N' at *; rcases hq with ⟨q2, rfl, q3, q4⟩ | q2
          all_goals
            go_wp2_with fail; refine (CP.out _).mono ?_; rintro e w2 ⟨rfl, hw2⟩; have U2 := Lib.hid (up_uint hw2); clear hw2; go_wp2_with fail; refine (HCS.out _).mono ?_; rintro e w3 ⟨rfl, rfl⟩; go_wp2_with fail; go_ret2; refine ⟨U2.out, ?_⟩; rcases HCASE.out with ⟨g1, rfl, rfl⟩ | ⟨g1, rfl, rfl⟩
            · exact Or.inl ⟨HOK.out, by rw [HPV.out]; exact g1, by rw [HPV.out]; rfl⟩
            · exact Or.inr (Or.inl ⟨HOK.out, by rw [HPV.out]; exact g1, rfl⟩)
        · obtain ⟨tp, pp, her⟩ := hE.er
          have CP := Lib.hid (Tryz.strconv_ParseUint_10_at64_range_var D hsz (by rw [HD.out]; exact parse64_range HNE.out HALL.out (by rw [HN.out]; omega)) tp pp _ her)
          have HNI := Lib.hid (show ¬ I64 (pVal l) from fun hi => by
            rw [HPV.out] at hi; obtain ⟨i1, i2⟩ := hi
            cases b <;> simp [sg] at i1 i2 <;> omega)
          clear hr her; rcases hq with ⟨q2, rfl, q3, q4⟩ | q2
          all_goals
            go_wp2_with fail; refine CP.out.mono ?_; rintro e w2 ⟨M, rfl, _, _, hB⟩; go_wp2_with fail; go_ret2; exact ⟨⟨hB⟩, Or.inr (Or.inl ⟨HOK.out, HNI.out, rfl⟩)⟩
instance decOk (l : List UInt8) : Decidable (pOk l) := by unfold pOk Dg.isD; infer_instance
theorem iparse_ok (s : ByteArray) (n : Int) (w : World) (hs : s.size <= 1000) (hp : pOk s.data.toList) (hv : pVal s.data.toList = n) (hi : I64 n) (hE : EnvI w) :
   Calls Tryz.prog 145 #[.string s] w fun e w' => e = .returned (.tuple #[.int .i64 n, .int .i64 0]) /\ Dn w w' := by
 subst hv
 refine (iparse s w hs hE).mono ?_
 rintro e w' ⟨hd, ⟨_, _, h⟩ | ⟨_, h, _⟩ | ⟨h, _⟩⟩
 · exact ⟨h, hd⟩
 · exact absurd hi h
 · exact absurd hp h
theorem iparse_over (s : ByteArray) (w : World) (hs : s.size <= 1000) (hp : pOk s.data.toList) (hi : ¬ I64 (pVal s.data.toList)) (hE : EnvI w) :
   Calls Tryz.prog 145 #[.string s] w fun e w' => e = .returned (.tuple #[.int .i64 0, .int .i64 15]) /\ Dn w w' := by
 refine (iparse s w hs hE).mono ?_
 rintro e w' ⟨hd, ⟨_, h, _⟩ | ⟨_, _, h⟩ | ⟨h, _⟩⟩
 · exact absurd h hi
 · exact ⟨h, hd⟩
 · exact absurd hp h
theorem iparse_bad (s : ByteArray) (w : World) (hs : s.size <= 1000) (hp : ¬ pOk s.data.toList) (hE : EnvI w) :
   Calls Tryz.prog 145 #[.string s] w fun e w' => e = .returned (.tuple #[.int .i64 0, .int .i64 5]) /\ Dn w w' := by
 refine (iparse s w hs hE).mono ?_
 rintro e w' ⟨hd, ⟨h, _⟩ | ⟨h, _⟩ | ⟨_, h⟩⟩
 · exact absurd h hp
 · exact absurd h hp
 · exact ⟨h, hd⟩
theorem rInt_no (v : Value) (x : Int) (w : World) (hx : IsN w v x) (hl : (Dg.dl x.natAbs).length <= 1000) (h : ¬ I64 x) :
   Calls Tryz.prog 61 #[v] w fun e w' => e = .returned (.tuple #[.int .i64 0, .bool false]) /\ Dn w w' := by
 unfold I64 at h
 by_cases h1 : x < -9223372036854775808
 · exact rInt_low v x w hx hl h1
 · exact rInt_high v x w hx hl (by omega)
end Go.Proofs.YtoghoddjkdoohaaGreatDoor
