/- Walks and laws that the claim's theorem leans on: part 2. -/
import Derived.Test.YtoghoddjkdoohaaGreatDoorZKn1
import Derived.Deep.QuietTactic
import Derived.BigQuiet
import Derived.Deep.RegionWith
import Derived.Laws.MakeOwn
import Derived.IntWalk
namespace Go.Proofs.YtoghoddjkdoohaaGreatDoor
set_option maxHeartbeats 2000000
set_option maxRecDepth 10000
open Go.RowKit
theorem dl_i64 (n : Nat) (h : n <= 9223372036854775808) : (Dg.dl n).length <= 19 := by
 refine Dg.dl_len ?_
 have : Dg.p10 19 = 10000000000000000000 := by decide
 omega
theorem pos_parts (m : Int) (h : 0 < m) : Dg.dl m.natAbs = m % 10 :: Dg.dl (m / 10).natAbs := by
 rw [Dg.dl_pos (by omega)]
 congr 1
 · omega
 · congr 1; omega
theorem neg_parts (m : Int) (h : m < 0) : Dg.dl m.natAbs = -(m.tmod 10) :: Dg.dl (m.tdiv 10).natAbs /\ (m.tdiv 10 ≠ 0 -> m.tdiv 10 < 0) /\ -9 <= m.tmod 10 /\ m.tmod 10 <= 0 /\ m <= m.tdiv 10 /\ m.tdiv 10 <= 0 /\ (m.tdiv 10).natAbs < m.natAbs := by
 have e1 : m.tdiv 10 = -((-m) / 10) := by
   have := Int.neg_tdiv (a := -m) (b := 10); rw [Int.neg_neg] at this; rw [this, Int.tdiv_eq_ediv_of_nonneg (by omega)]
 have e2 : m.tmod 10 = -((-m) % 10) := by
   have := Int.neg_tmod (a := -m) (b := 10); rw [Int.neg_neg] at this; rw [this, Int.tmod_eq_emod_of_nonneg (by omega)]
 rw [e1, e2]
 refine ⟨?_, by omega, by omega, by omega, by omega, by omega, by omega⟩
 rw [Dg.dl_pos (by omega)]
 congr 1
 · omega
 · congr 1; omega
structure OfRel (w : World) (n0 : Int) (mv : Value) (wr : World) (m : Int) (L : List Int) (v : Value) : Prop where
 mv : mv = .int .i64 m
 lo : -9223372036854775808 <= m
 hi : m <= 9223372036854775807
 dg : Dg.dl n0.natAbs = L ++ Dg.dl m.natAbs
 sgn : m ≠ 0 -> decide (m < 0) = decide (n0 < 0)
 own : OwnD wr (w.heap.size + 1 + 1) v L
 x : NBlk wr (w.heap.size + 1) (decide (n0 < 0)) v
 r : NBlk wr w.heap.size false (.slice none 0 0)
 dn : Dn w wr
theorem OfRel.len {w : World} {n0 m : Int} {mv v : Value} {wr : World} {L : List Int} (h : OfRel w n0 mv wr m L v) (hn : n0.natAbs <= 9223372036854775808) : L.length <= 19 := by
 have e := congrArg List.length h.dg
 have := dl_i64 _ hn
 rw [List.length_append] at e
 omega
theorem OfRel.next {w : World} {n0 m m' d : Int} {mv v v' : Value} {wr w' : World} {L : List Int} (h : OfRel w n0 mv wr m L v) (hlo : -9223372036854775808 <= m') (hhi : m' <= 9223372036854775807) (hs : m' ≠ 0 -> decide (m' < 0) = decide (n0 < 0))
   (hd : Dg.dl m.natAbs = d :: Dg.dl m'.natAbs) (hown : OwnD w' (w.heap.size + 1 + 1) v' (L ++ [d])) (hg : wr.grownBy w' v.ownBlock) : OfRel w n0 (.int .i64 m') (w'.setCell ⟨w.heap.size + 1, 1, none⟩ v') m' (L ++ [d]) v' := by
 have hb := h.own.row
 refine ⟨rfl, hlo, hhi, by rw [h.dg, hd]; simp, hs, hown.far (by simp) _, (h.x.kept hg ?_).set1 _, (h.r.kept hg ?_).far (by simp) _, (h.dn.grown hg ?_).setCell (by simp) _⟩
 · intro e; have := hb _ e; omega
 · intro e; have := hb _ e; omega
 · intro k e; have := hb _ e; omega
theorem rOf1 (n : Int) (w : World) (hn : I64 n) :
  Calls Tryz.prog 58 #[.int .i64 n] w fun e w' => ∃ v, e = .returned v /\ IsN w' v n /\ Dn w w' := by
 have hm := max_len
 have hab : n.natAbs <= 9223372036854775808 := by have := hn.1; have := hn.2; omega
 obtain ⟨W1, hW1⟩ : ∃ W1, W1 = (w.alloc (.cells #[.bool false, .slice none 0 0] 88)).alloc (.cells #[.bool (decide (n < 0)), .slice none 0 0] 88) := ⟨_, rfl⟩
 have n1 : NBlk W1 w.heap.size false (.slice none 0 0) := by rw [hW1]; exact (NBlk.new _ _ _ _).dn ((Dn.refl _).alloc _)
 have n2 : NBlk W1 (w.heap.size + 1) (decide (n < 0)) (.slice none 0 0) := by rw [hW1]; exact NBlk.new1 _ _ _ _ _
 have u1 : Dn w W1 := by rw [hW1]; exact ((Dn.refl _).alloc _).alloc _
 have h0 : OfRel w n (.int .i64 n) W1 n [] (.slice none 0 0) := ⟨rfl, hn.1, hn.2, rfl, fun _ => rfl, OwnD.nil _ _, n2, n1, u1⟩
 have HAB := Lib.hid hab
 have H0 := Lib.hid h0
 have HW := Lib.hid hW1
 clear hW1 n1 n2 u1 h0 hab
 go_enter Tryz.func58, Tryz.ntmps58
 go_wp2_with fail
 rw [<- HW.out]
 clear HW
 go_loopw [0] (fun mv wr => ∃ m L v, OfRel w n mv wr m L v) (fun mv _ => (intOf mv).natAbs)
 case atStart => exact ⟨_, _, _, H0.out⟩
 case round =>
  obtain ⟨m, L, v, hr⟩ := hrel; have HR := Lib.hid hr; have hlen := hr.len HAB.out; obtain ⟨rfl, lo, hi, hdg, hsg, hown, ⟨x0, x1, xf0, xf1, xl⟩, ⟨r0, r1, rf0, rf1, rl⟩, hu⟩ := hr; have hsz := hu.size; have HOWN := Lib.hid hown; have HSG := Lib.hid hsg; have HDG := Lib.hid hdg; clear hdg hsg hown; rcases Int.lt_trichotomy m 0 with h | h | h
  · obtain ⟨p1, p2, p3, p4, p5, p6, p7⟩ := neg_parts m h
    have hsg' : decide (n < 0) = true := (by rw [<- HSG.out (by omega)]; simpa using h); have P1 := Lib.hid p1; have P2 := Lib.hid p2; have P7 := Lib.hid p7; have HS := Lib.hid hsg'; have c0 : (m == 0) = false := (by simp; omega); have c0' : (m != 0) = true := (by simp; omega); clear p1 p2 p7 hsg'
    by_cases hd : m.tmod 10 < 0
    · have c1 : decide (m.tmod 10 < 0) = true := by simpa using hd
      go_wp2_with (at_builtin; refine append_digit rfl _ _ rfl wr (w.heap.size + 1 + 1) v L (-(m.tmod 10)) rfl HOWN.out rfl (by omega) (by omega) ?_); intro p' cap' w3 hown' hg; have hr' := HR.out.next (m' := m.tdiv 10) (by omega) (by omega) (fun hq => by rw [HS.out]; simpa using P2.out hq) P1.out hown' hg; have HR' := Lib.hid hr'; obtain ⟨y0, y1, yf0, yf1, yl⟩ := HR.out.x.kept hg (fun e => by have := HOWN.out.row _ e; omega); clear hown' hg hr' x0 x1 xf0 xf1 r0 r1 rf0 rf1 hu; go_wp2_with fail; go_roundw
      case rel => exact ⟨_, _, _, HR'.out⟩
      case measure => exact P7.out
    · have c1 : decide (m.tmod 10 < 0) = false := by simpa using hd
      have hz : m.tmod 10 = 0 := (by omega); have HZ := Lib.hid hz; clear hz; go_wp2_with (at_builtin; refine append_digit rfl _ _ rfl wr (w.heap.size + 1 + 1) v L (m.tmod 10) rfl HOWN.out rfl (by omega) (by omega) ?_); intro p' cap' w3 hown' hg; have hr' := HR.out.next (m' := m.tdiv 10) (d := m.tmod 10) (by omega) (by omega) (fun hq => by rw [HS.out]; simpa using P2.out hq) (by have := P1.out; rw [HZ.out] at this ⊢; exact this) hown' hg; have HR' := Lib.hid hr'; obtain ⟨y0, y1, yf0, yf1, yl⟩ := HR.out.x.kept hg (fun e => by have := HOWN.out.row _ e; omega); clear hown' hg hr' x0 x1 xf0 xf1 r0 r1 rf0 rf1 hu; go_wp2_with fail; go_roundw
      case rel => exact ⟨_, _, _, HR'.out⟩
      case measure => exact P7.out
  · subst h
    obtain ⟨p, cap, rfl, hp⟩ := HOWN.out.form; have hL : L = Dg.dl n.natAbs := (by rw [HDG.out]; simp [Dg.dl_zero]); have HL := Lib.hid hL; clear hL; go_wp2_with fail; obtain ⟨z0, z1, _, _, _⟩ := HR.out.r.put (decide (n < 0)) (.slice p L.length cap); have hu2 := setN_dn HR.out.dn (Nat.le_refl _) (decide (n < 0)) (.slice p L.length cap); have hI : IsN wr (.agg #[.bool (decide (n < 0)), .slice p L.length cap]) n := ⟨_, rfl, by rw [<- HL.out]; exact HOWN.out.sl⟩; exact bodyPost_ret (w := setN wr w.heap.size (decide (n < 0)) (.slice p L.length cap)) (v := .agg #[.bool (decide (n < 0)), .slice p L.length cap]) (by simp [results, Tryz.results58, go_sem, z0, z1]) rfl ⟨_, rfl, hI.farN (fun g hg => by have := hp g hg; omega) _ _, hu2⟩
  · have hsg' : decide (n < 0) = false := by rw [<- HSG.out (by omega)]; simp; omega
    have HS := Lib.hid hsg'; have P1 := Lib.hid (pos_parts m h); have c0 : (m == 0) = false := (by simp; omega); have c0' : (m != 0) = true := (by simp; omega); have b1 : 0 <= m % 10 := (by omega); have b2 : m % 10 <= 9 := (by omega); have c1 : decide (m % 10 < 0) = false := (by simp; omega); clear hsg'; go_wp2_with (at_builtin; refine append_digit rfl _ _ rfl wr (w.heap.size + 1 + 1) v L (m % 10) rfl HOWN.out rfl (by omega) (by omega) ?_); intro p' cap' w3 hown' hg; have hr' := HR.out.next (m' := m / 10) (by omega) (by omega) (fun hq => by rw [HS.out]; simp; omega) P1.out hown' hg; have HR' := Lib.hid hr'; obtain ⟨y0, y1, yf0, yf1, yl⟩ := HR.out.x.kept hg (fun e => by have := HOWN.out.row _ e; omega); clear hown' hg hr' x0 x1 xf0 xf1 r0 r1 rf0 rf1 hu; go_wp2_with fail; go_roundw
    case rel => exact ⟨_, _, _, HR'.out⟩
    case measure => simp [intOf]; omega
set_option maxHeartbeats 1000000
theorem SlD.drewN {w : World} {s : Value} {l : List Int} (h : SlD w s l) (n : Nat) : SlD (w.drewN n) s l := h.dn ((Dn.refl _).drewN n)
theorem drews2 (w : World) (a b : Nat) : (w.drewN a).drewN b = w.drewN (a + b) := by
 simp only [World.drewN, Nat.add_assoc]
theorem drews3 (w : World) (a b c : Nat) : ∃ n, ((w.drewN a).drewN b).drewN c = w.drewN n := ⟨_, by rw [drews2, drews2]⟩
theorem drop_dig (l : List Int) (m : Nat) (h : m < l.length) : l.drop m = Dg.dig l m :: l.drop (m + 1) := by
 rw [List.drop_eq_getElem_cons h]; simp [Dg.dig, List.getD, h]
theorem rLess (s t : Value) (la lb : List Int) (w : World) (hs : SlD w s la) (ht : SlD w t lb) (ha : Dg.Canon la) (hb : Dg.Canon lb) :
   Calls Tryz.prog 99 #[s, t] w fun e w' => e = .returned (.bool (decide (Dg.val la < Dg.val lb))) /\ ∃ n, w' = w.drewN n := by
 obtain ⟨p, cap, rfl, h1, h2, h3⟩ := hs
 obtain ⟨q, cap', rfl, g1, g2, g3⟩ := ht
 have hm := max_len
 have H3 := Lib.hid h3
 have G3 := Lib.hid g3
 have HA := Lib.hid ha
 have HB := Lib.hid hb
 clear h3 g3 ha hb
 by_cases hl : la.length = lb.length
 · have c1 : ((la.length : Int) == lb.length) = true := by simp; omega
   have c2 : ((la.length : Int) != lb.length) = false := by simp; omega
   have HL := Lib.hid hl; clear hl; go_enter Tryz.func99, Tryz.ntmps99; go_wp2_with fail; go_loopw [5] (fun i wr => ∃ (k : Nat) (j : Int), k <= la.length /\ j = (k : Int) - 1 /\ i = .int .i64 j /\ la.drop k = lb.drop k /\ ∃ z, wr = w.drewN z) (fun i _ => (intOf i + 1).toNat)
   case atStart => exact ⟨la.length, _, Nat.le_refl _, rfl, rfl, by rw [List.drop_of_length_le (Nat.le_refl _), List.drop_of_length_le (by have := HL.out; omega)], 0, rfl⟩
   case round =>
     obtain ⟨k, j, hk, hj, rfl, hd, z, rfl⟩ := hrel
     by_cases h0 : k = 0
     · subst h0
       obtain rfl : j = -1 := by omega
       have e : la = lb := (by simpa using hd); clear hd c1 c2 hj; subst e; go_wp2_with fail; go_ret; exact ⟨retb (by simp), z, rfl⟩
     · obtain ⟨m, rfl⟩ : ∃ m, k = m + 1 := ⟨k - 1, by omega⟩
       obtain rfl : j = (m : Int) := by omega
       have hma : m < la.length := (by omega); have hmb : m < lb.length := (by have := HL.out; omega); obtain ⟨g, rfl, q1⟩ := H3.out m _ (Dg.dig_some hma); obtain ⟨g', rfl, q2⟩ := G3.out m _ (Dg.dig_some hmb); have HD := Lib.hid hd; clear hd hj
       by_cases he : Dg.dig la m = Dg.dig lb m
       · rw [he] at q1
         have HE := Lib.hid he; clear he; go_wp2_with fail; go_quiet (fail); go_wp2_with fail; go_roundw
         case rel => exact ⟨m, _, by omega, rfl, rfl, by rw [drop_dig _ _ hma, drop_dig _ _ hmb, HE.out, HD.out], _, rfl⟩
         case measure => simp [intOf]
       · have d1 : (Dg.dig la m == Dg.dig lb m) = false := by simpa using he
         have d2 : (Dg.dig la m != Dg.dig lb m) = true := (by simpa using he); have HE := Lib.hid he; clear he; go_wp2_with fail; go_quiet (fail); go_wp2_with fail; go_quiet (fail); go_wp2_with fail; go_ret; refine ⟨retb ?_, drews3 _ _ _ _⟩; rw [Bool.eq_iff_iff]; simp only [decide_eq_true_eq]; have hne := HE.out; constructor
         · intro h; exact Dg.lt_of_top HA.out.1 HB.out.1 m hma hmb HD.out h
         · intro h
           by_cases hc : Dg.dig la m < Dg.dig lb m
           · exact hc
           · have := Dg.lt_of_top HB.out.1 HA.out.1 m hmb hma HD.out.symm (by omega)
             omega
 · have c1 : ((la.length : Int) == lb.length) = false := by simp; omega
   have c2 : ((la.length : Int) != lb.length) = true := by simp; omega
   go_enter Tryz.func99, Tryz.ntmps99; go_wp2_with fail; go_ret; refine ⟨retb ?_, 0, rfl⟩; rw [Bool.eq_iff_iff]; simp only [decide_eq_true_eq]; constructor
   · intro h; exact HA.out.lt_of_len HB.out (by omega)
   · intro h
     by_cases hc : la.length < lb.length
     · omega
     · have := HB.out.lt_of_len HA.out (by omega)
       omega
set_option maxHeartbeats 4000000
set_option maxRecDepth 10000
structure AddRel (w : World) (ba bb : Bool) (sa sb : Value) (wr : World) (v : Value) (L : List Int) : Prop where
 own : OwnD wr (w.heap.size + 1 + 1 + 1 + 1) v L
 a : NBlk wr w.heap.size ba sa
 b : NBlk wr (w.heap.size + 1) bb sb
 r : NBlk wr (w.heap.size + 1 + 1) false (.slice none 0 0)
 o : NBlk wr (w.heap.size + 1 + 1 + 1) ba v
 dn : Dn w wr
theorem AddRel.push {w : World} {ba bb : Bool} {sa sb : Value} {wr w' : World} {v v' : Value} {L L' : List Int} (h : AddRel w ba bb sa sb wr v L) (hown : OwnD w' (w.heap.size + 1 + 1 + 1 + 1) v' L') (hg : wr.grownBy w' v.ownBlock) :
   AddRel w ba bb sa sb (w'.setCell ⟨w.heap.size + 1 + 1 + 1, 1, none⟩ v') v' L' := by
 have hb := h.own.row
 refine ⟨hown.far (by simp) _, (h.a.kept hg ?_).far (by simp; omega) _, (h.b.kept hg ?_).far (by simp; omega) _, (h.r.kept hg ?_).far (by simp) _, (h.o.kept hg ?_).set1 _, (h.dn.grown hg ?_).setCell (by simp; omega) _⟩
 · intro e; have := hb _ e; omega
 · intro e; have := hb _ e; omega
 · intro e; have := hb _ e; omega
 · intro e; have := hb _ e; omega
 · intro k e; have := hb _ e; omega
theorem NBlk.drewN {w : World} {B : Nat} {b : Bool} {s : Value} (h : NBlk w B b s) (n : Nat) : NBlk (w.drewN n) B b s := h.dn ((Dn.refl _).drewN n)
theorem AddRel.drewN {w : World} {ba bb : Bool} {sa sb : Value} {wr : World} {v : Value} {L : List Int} (h : AddRel w ba bb sa sb wr v L) (n : Nat) : AddRel w ba bb sa sb (wr.drewN n) v L :=
 ⟨h.own.dn ((Dn.refl _).drewN n), h.a.drewN n, h.b.drewN n, h.r.drewN n, h.o.drewN n, h.dn.drewN n⟩
theorem NBlk.new2 (w : World) (o o' : Obj) (b : Bool) (s : Value) (t : TypeId) : NBlk (((w.alloc o).alloc o').alloc (.cells #[.bool b, s] t)) (w.heap.size + 1 + 1) b s := by
 have h := NBlk.new1 (w.alloc o) o' b s t
 simpa using h
theorem NBlk.new3 (w : World) (o o' o'' : Obj) (b : Bool) (s : Value) (t : TypeId) : NBlk ((((w.alloc o).alloc o').alloc o'').alloc (.cells #[.bool b, s] t)) (w.heap.size + 1 + 1 + 1) b s := by
 have h := NBlk.new2 (w.alloc o) o' o'' b s t
 simpa using h
theorem NBlk.alloc {w : World} {B : Nat} {b : Bool} {s : Value} (h : NBlk w B b s) (o : Obj) : NBlk (w.alloc o) B b s := h.dn ((Dn.refl _).alloc o)
theorem AddRel.start (w : World) (ba bb : Bool) (sa sb : Value) (t : TypeId) :
  AddRel w ba bb sa sb ((((w.alloc (.cells #[.bool ba, sa] t)).alloc (.cells #[.bool bb, sb] t)).alloc (.cells #[.bool false, .slice none 0 0] t)).alloc (.cells #[.bool ba, .slice none 0 0] t)) (.slice none 0 0) [] :=
 ⟨OwnD.nil _ _, (((NBlk.new _ _ _ _).alloc _).alloc _).alloc _, ((NBlk.new1 _ _ _ _ _).alloc _).alloc _, (NBlk.new2 _ _ _ _ _ _).alloc _, NBlk.new3 _ _ _ _ _ _ _, ((((Dn.refl _).alloc _).alloc _).alloc _).alloc _⟩
theorem SlD.len {w : World} {p : Option Addr} {n cap : Nat} {l : List Int} (h : SlD w (.slice p n cap) l) : n = l.length /\ n <= 9223372036854775807 := by
 obtain ⟨p', cap', e, h1, h2, _⟩ := h
 injection e with e1 e2 e3
 have := max_len
 omega
def NewN (w : World) (x : Int) (e : Ending) (w' : World) : Prop := ∃ b p n cap, e = .returned (.agg #[.bool b, .slice p n cap]) /\ IsN w' (.agg #[.bool b, .slice p n cap]) x /\ Dn w w' /\ ∀ g, p = some ⟨g, 0, none⟩ -> w.heap.size <= g
theorem rAdd_same (va vb : Value) (x y : Int) (w : World) (hva : IsN w va x) (hvb : IsN w vb y) (hsg : decide (x < 0) = decide (y < 0)) (hx : (Dg.dl x.natAbs).length <= 1000) (hy : (Dg.dl y.natAbs).length <= 1000) :
  Calls Tryz.prog 59 #[va, vb] w (NewN w (x + y)) := by
 obtain ⟨p, n, cap, rfl, hsa⟩ := hva.form
 obtain ⟨q, n', cap', rfl, hsb⟩ := hvb.form
 have hda := Dg.dl_digs x.natAbs
 have hdb := Dg.dl_digs y.natAbs
 have hval : x + y = sg (decide (x < 0)) (Dg.val (Dg.dl x.natAbs) + Dg.val (Dg.dl y.natAbs)) := by
  rw [Dg.dl_val, Dg.dl_val]; unfold sg
  by_cases h : x < 0
  · have h2 : y < 0 := by simpa [h] using hsg.symm
    simp [h]; omega
  · have h2 : ¬ y < 0 := by simpa [h] using hsg.symm
    simp [h]; omega
 rw [hval]
 rw [<- hsg] at *
 clear hval hva hvb hsg
 generalize decide (x < 0) = b at *
 generalize Dg.dl x.natAbs = la at *
 generalize Dg.dl y.natAbs = lb at *
 obtain ⟨rfl, l1⟩ := hsa.len
 obtain ⟨rfl, l2⟩ := hsb.len
 have HSA := Lib.hid hsa
 have HSB := Lib.hid hsb
 have HDA := Lib.hid hda
 have HDB := Lib.hid hdb
 obtain ⟨W1, hW1⟩ : ∃ W1, W1 = (((w.alloc (.cells #[.bool b, .slice p la.length cap] 88)).alloc (.cells #[.bool b, .slice q lb.length cap'] 88)).alloc (.cells #[.bool false, .slice none 0 0] 88)).alloc (.cells #[.bool b, .slice none 0 0] 88) := ⟨_, rfl⟩
 have H0 := Lib.hid (show AddRel w b b (.slice p la.length cap) (.slice q lb.length cap') W1 (.slice none 0 0) [] by rw [hW1]; exact AddRel.start _ _ _ _ _ _)
 have HW := Lib.hid hW1
 clear hW1 hsa hsb hda hdb
 go_enter Tryz.func59, Tryz.ntmps59
 go_wp2_with fail
 rw [<- HW.out]
 clear HW
 go_loopw [6, 7] (fun cv iv wr => ∃ (i : Nat) (c : Int) (v : Value), i <= 1001 /\ iv = .int .i64 i /\ cv = .int .i64 c /\ c = (Dg.addS la lb i).2 /\ AddRel w b b (.slice p la.length cap) (.slice q lb.length cap') wr v (Dg.addS la lb i).1) (fun _ iv _ => 1002 - (intOf iv).toNat)
 case atStart => exact ⟨0, 0, _, by omega, rfl, rfl, rfl, H0.out⟩
 case round =>
  obtain ⟨i, c, v, hi, rfl, rfl, hc, hr⟩ := hrel; have HR := Lib.hid hr; obtain ⟨hl, hdg, k1, k2, _⟩ := Dg.addS_inv HDA.out HDB.out i; rw [<- hc] at k1 k2
  have hend : 1001 <= i -> ¬ 0 < c := fun h => by
    have := Dg.addS_end HDA.out HDB.out i (by omega) (by omega); omega
  have hlen : (Dg.addS la lb i).1.length <= 1000000 := by omega
  have HL := Lib.hid hl; have HC := Lib.hid hc; have HDG := Lib.hid hdg; obtain ⟨hown, ⟨a0, a1, _, _, al⟩, ⟨b0, b1, _, _, bl⟩, ⟨r0, r1, rf0, rf1, rl⟩, ⟨o0, o1, of0, of1, ol⟩, hu⟩ := hr; have hsz := hu.size; have HOWN := Lib.hid hown; clear hl hc hdg hown H0; have hdd1 := Dg.dig_bd HDA.out i; have hdd2 := Dg.dig_bd HDB.out i; have HE := Lib.hid hend
  by_cases hgo : i < la.length \/ i < lb.length \/ 0 < c
  · have hi2 : i < 1001 := by
      have := HE.out; omega
    have HA := HSA.out.dn hu; have HB := HSB.out.dn hu; obtain ⟨e1, e2⟩ := hdd1; obtain ⟨e3, e4⟩ := hdd2; have CA := Lib.hid (fun n => rDigit _ la i (wr.drewN n) (HA.drewN n) HDA.out); have CB := Lib.hid (fun n => rDigit _ lb i (wr.drewN n) (HB.drewN n) HDB.out); have HLEN := Lib.hid hlen; generalize hda : Dg.dig la i = da at *; generalize hdb : Dg.dig lb i = db at *; have HX := Lib.hid hda; have HY := Lib.hid hdb; clear hend HA HB hda hdb hlen
    by_cases t1 : i < la.length
    · have q1 : decide ((i : Int) < la.length) = true := by simp; omega
      go_wp2_with fail; go_quiet (first | (go_at_call_of 97 (Value.slice p la.length cap); exact Calls.qs (CA.out _)) | (go_at_call_of 97 (Value.slice q lb.length cap'); exact Calls.qs (CB.out _))); go_wp2_with (at_builtin; refine append_digit rfl _ _ rfl _ (w.heap.size + 1 + 1 + 1 + 1) v (Dg.addS la lb i).1 ((da + db + c) % 10) rfl (HOWN.out.dn ((Dn.refl _).drewN _)) rfl HLEN.out (by simp; omega) ?_); intro p2 cap2 w3 hown' hg; have hr' := (HR.out.drewN _).push hown' hg; have HR' := Lib.hid hr'; obtain ⟨y0, y1, yf0, yf1, yl⟩ := (HR.out.o.drewN _).kept hg (fun e => by have := HOWN.out.row _ e; omega); clear hown' hg hr' a0 a1 b0 b1 o0 o1 of0 of1 r0 r1 rf0 rf1 hu; go_wp2_with fail; go_roundw
      case rel => exact ⟨i + 1, (da + db + c) / 10, _, by omega, by go_num, rfl, by simp only [Dg.addS]; rw [HX.out, HY.out, HC.out], by have := HR'.out; simp only [Dg.addS]; rw [HX.out, HY.out, <- HC.out]; exact this⟩
      case measure => simp [intOf]; omega
    · have q1 : decide ((i : Int) < la.length) = false := by simp; omega
      by_cases t2 : i < lb.length
      · have q2 : decide ((i : Int) < lb.length) = true := by simp; omega
        go_wp2_with fail; go_quiet (first | (go_at_call_of 97 (Value.slice p la.length cap); exact Calls.qs (CA.out _)) | (go_at_call_of 97 (Value.slice q lb.length cap'); exact Calls.qs (CB.out _))); go_wp2_with (at_builtin; refine append_digit rfl _ _ rfl _ (w.heap.size + 1 + 1 + 1 + 1) v (Dg.addS la lb i).1 ((da + db + c) % 10) rfl (HOWN.out.dn ((Dn.refl _).drewN _)) rfl HLEN.out (by simp; omega) ?_); intro p2 cap2 w3 hown' hg; have hr' := (HR.out.drewN _).push hown' hg; have HR' := Lib.hid hr'; obtain ⟨y0, y1, yf0, yf1, yl⟩ := (HR.out.o.drewN _).kept hg (fun e => by have := HOWN.out.row _ e; omega); clear hown' hg hr' a0 a1 b0 b1 o0 o1 of0 of1 r0 r1 rf0 rf1 hu; go_wp2_with fail; go_roundw
        case rel => exact ⟨i + 1, (da + db + c) / 10, _, by omega, by go_num, rfl, by simp only [Dg.addS]; rw [HX.out, HY.out, HC.out], by have := HR'.out; simp only [Dg.addS]; rw [HX.out, HY.out, <- HC.out]; exact this⟩
        case measure => simp [intOf]; omega
      · have q2 : decide ((i : Int) < lb.length) = false := by simp; omega
        have q3 : decide (0 < c) = true := (by simp; omega); go_wp2_with fail; go_quiet (first | (go_at_call_of 97 (Value.slice p la.length cap); exact Calls.qs (CA.out _)) | (go_at_call_of 97 (Value.slice q lb.length cap'); exact Calls.qs (CB.out _))); go_wp2_with (at_builtin; refine append_digit rfl _ _ rfl _ (w.heap.size + 1 + 1 + 1 + 1) v (Dg.addS la lb i).1 ((da + db + c) % 10) rfl (HOWN.out.dn ((Dn.refl _).drewN _)) rfl HLEN.out (by simp; omega) ?_); intro p2 cap2 w3 hown' hg; have hr' := (HR.out.drewN _).push hown' hg; have HR' := Lib.hid hr'; obtain ⟨y0, y1, yf0, yf1, yl⟩ := (HR.out.o.drewN _).kept hg (fun e => by have := HOWN.out.row _ e; omega); clear hown' hg hr' a0 a1 b0 b1 o0 o1 of0 of1 r0 r1 rf0 rf1 hu; go_wp2_with fail; go_roundw
        case rel => exact ⟨i + 1, (da + db + c) / 10, _, by omega, by go_num, rfl, by simp only [Dg.addS]; rw [HX.out, HY.out, HC.out], by have := HR'.out; simp only [Dg.addS]; rw [HX.out, HY.out, <- HC.out]; exact this⟩
        case measure => simp [intOf]; omega
  · have t1 : ¬ i < la.length := by omega
    have t2 : ¬ i < lb.length := (by omega); have q1 : decide ((i : Int) < la.length) = false := (by simp; omega); have q2 : decide ((i : Int) < lb.length) = false := (by simp; omega); have q3 : decide (0 < c) = false := (by simp; omega); have hv := Dg.addS_val HDA.out HDB.out i (by omega) (by omega) (by rw [<- HC.out]; omega); have HV := Lib.hid hv; obtain ⟨p3, cap3, rfl, hp3⟩ := HOWN.out.form; clear hv hend hlen hdd1 hdd2 hgo; go_wp2_with fail; refine (rTrim b p3 _ cap3 (Dg.addS la lb i).1 wr _ (Dn.refl _) HOWN.out.sl HDG.out).mono ?_; rintro e w4 ⟨b', k', rfl, hI, q4⟩; rw [HV.out] at hI; have HI := Lib.hid (hI.dn q4); have N4 := Lib.hid (HR.out.r.dn q4); have U4 := Lib.hid (hu.trans q4); clear a0 a1 b0 b1 o0 o1 of0 of1 r0 r1 rf0 rf1 hu hI q4; obtain ⟨r0, r1, rf0, rf1, rl⟩ := N4.out; go_wp2_with fail; obtain ⟨z0, z1, _, _, _⟩ := N4.out.put b' (.slice p3 k' cap3)
    exact bodyPost_ret (w := setN w4 (w.heap.size + 1 + 1) b' (.slice p3 k' cap3)) (v := .agg #[.bool b', .slice p3 k' cap3]) (by simp [results, Tryz.results59, go_sem, z0, z1]) rfl
      ⟨_, _, _, _, rfl, HI.out.farN (fun g hg => by have := hp3 g hg; omega) _ _, setN_dn U4.out (by omega) _ _, fun g hg => by have := hp3 g hg; omega⟩
set_option maxHeartbeats 4000000
set_option maxRecDepth 10000
theorem rLess_is (s t : Value) (la lb : List Int) (r : Bool) (w : World) (hs : SlD w s la) (ht : SlD w t lb) (ha : Dg.Canon la) (hb : Dg.Canon lb) (hr : decide (Dg.val la < Dg.val lb) = r) :
  Calls Tryz.prog 99 #[s, t] w fun e w' => e = .returned (.bool r) /\ ∃ n, w' = w.drewN n := by
 subst hr; exact rLess s t la lb w hs ht ha hb
theorem rAdd_diff (va vb : Value) (x y : Int) (w : World) (hva : IsN w va x) (hvb : IsN w vb y) (hsg : decide (y < 0) = !decide (x < 0)) (hxy : y.natAbs <= x.natAbs) (hx : (Dg.dl x.natAbs).length <= 1000) (_hy : (Dg.dl y.natAbs).length <= 1000) :
  Calls Tryz.prog 59 #[va, vb] w (NewN w (x + y)) := by
 obtain ⟨p, n, cap, rfl, hsa⟩ := hva.form
 obtain ⟨q, n', cap', rfl, hsb⟩ := hvb.form
 have hda := Dg.dl_canon x.natAbs
 have hdb := Dg.dl_canon y.natAbs
 have hval : x + y = sg (decide (x < 0)) (Dg.val (Dg.dl x.natAbs) - Dg.val (Dg.dl y.natAbs)) := by
  rw [Dg.dl_val, Dg.dl_val]; unfold sg
  by_cases h : x < 0
  · have h2 : ¬ y < 0 := by simpa [h] using hsg
    simp [h]; omega
  · have h2 : y < 0 := by simpa [h] using hsg
    simp [h]; omega
 have hle : Dg.val (Dg.dl y.natAbs) <= Dg.val (Dg.dl x.natAbs) := by rw [Dg.dl_val, Dg.dl_val]; omega
 have hne : (decide (x < 0) == decide (y < 0)) = false := by rw [hsg]; cases decide (x < 0) <;> rfl
 have hlen : (Dg.dl y.natAbs).length <= (Dg.dl x.natAbs).length := by
  by_cases hc : (Dg.dl y.natAbs).length <= (Dg.dl x.natAbs).length
  · exact hc
  · have := hda.lt_of_len hdb (by omega)
    omega
 rw [hval]
 clear hval hva hvb hsg hxy
 generalize decide (x < 0) = b at *
 generalize decide (y < 0) = bb at *
 generalize Dg.dl x.natAbs = la at *
 generalize Dg.dl y.natAbs = lb at *
 obtain ⟨rfl, l1⟩ := hsa.len
 obtain ⟨rfl, l2⟩ := hsb.len
 have hlt : decide (Dg.val la < Dg.val lb) = false := by simp; omega
 have HLT := Lib.hid hlt
 have HLE := Lib.hid hle
 have HLN := Lib.hid hlen
 have HSA := Lib.hid hsa
 have HSB := Lib.hid hsb
 have HCA := Lib.hid hda
 have HCB := Lib.hid hdb
 have HDA := Lib.hid hda.1
 have HDB := Lib.hid hdb.1
 have hne2 : (b != bb) = true := by simpa using hne
 obtain ⟨W3, hW3⟩ : ∃ W3, W3 = ((w.alloc (.cells #[.bool b, .slice p la.length cap] 88)).alloc (.cells #[.bool bb, .slice q lb.length cap'] 88)).alloc (.cells #[.bool false, .slice none 0 0] 88) := ⟨_, rfl⟩
 have H0 := Lib.hid (show AddRel w b bb (.slice p la.length cap) (.slice q lb.length cap') ((((w.alloc (.cells #[.bool b, .slice p la.length cap] 88)).alloc (.cells #[.bool bb, .slice q lb.length cap'] 88)).alloc (.cells #[.bool false, .slice none 0 0] 88)).alloc (.cells #[.bool b, .slice none 0 0] 88)) (.slice none 0 0) [] from AddRel.start _ _ _ _ _ _)
 have n0 : NBlk W3 w.heap.size b (.slice p la.length cap) := by rw [hW3]; exact ((NBlk.new _ _ _ _).alloc _).alloc _
 have n1 : NBlk W3 (w.heap.size + 1) bb (.slice q lb.length cap') := by rw [hW3]; exact (NBlk.new1 _ _ _ _ _).alloc _
 have u3 : Dn w W3 := by rw [hW3]; exact (((Dn.refl _).alloc _).alloc _).alloc _
 have s3 : W3.heap.size = w.heap.size + 1 + 1 + 1 := by rw [hW3]; simp
 have S3 := Lib.hid s3
 have HW := Lib.hid hW3
 have U3 := Lib.hid u3
 obtain ⟨a0, a1, _, _, al⟩ := n0
 obtain ⟨b0, b1, _, _, bl⟩ := n1
 clear hW3 hsa hsb hda hdb hlt hle hlen u3 s3
 go_enter Tryz.func59, Tryz.ntmps59
 go_wp2_with fail
 rw [<- HW.out]
 go_wp2_with fail
 refine (rLess_is _ _ la lb false W3 (HSA.out.dn U3.out) (HSB.out.dn U3.out) HCA.out HCB.out HLT.out).mono ?_
 rintro e w4 ⟨rfl, z, rfl⟩
 rw [HW.out]
 clear a0 a1 b0 b1 al bl HW
 go_wp2_with fail
 go_loopw [10, 11] (fun cv iv wr => ∃ (i : Nat) (c : Int) (v : Value), i <= la.length /\ iv = .int .i64 i /\ cv = .int .i64 c /\ c = (Dg.subS la lb i).2 /\ AddRel w b bb (.slice p la.length cap) (.slice q lb.length cap') wr v (Dg.subS la lb i).1) (fun _ iv _ => la.length - (intOf iv).toNat)
 case atStart => exact ⟨0, 0, _, by omega, rfl, rfl, rfl, H0.out.drewN _⟩
 case round =>
  obtain ⟨i, c, v, hi, rfl, rfl, hc, hr⟩ := hrel; have HR := Lib.hid hr; obtain ⟨hl, hdg, k1, k2, _⟩ := Dg.subS_inv HDA.out HDB.out i; rw [<- hc] at k1 k2
  have hlen : (Dg.subS la lb i).1.length <= 1000000 := by omega
  have HLEN := Lib.hid hlen; have HC := Lib.hid hc; have HDG := Lib.hid hdg; obtain ⟨hown, ⟨a0, a1, _, _, al⟩, ⟨b0, b1, _, _, bl⟩, ⟨r0, r1, rf0, rf1, rl⟩, ⟨o0, o1, of0, of1, ol⟩, hu⟩ := hr; have hsz := hu.size; have HOWN := Lib.hid hown; clear hl hc hdg hown H0 hlen
  by_cases hgo : i < la.length
  · have q1 : decide ((i : Int) < la.length) = true := by simp; omega
    obtain ⟨e1, e2⟩ := Dg.dig_bd HDA.out i; obtain ⟨e3, e4⟩ := Dg.dig_bd HDB.out i; have CA := Lib.hid (fun n => rDigit _ la i (wr.drewN n) ((HSA.out.dn hu).drewN n) HDA.out); have CB := Lib.hid (fun n => rDigit _ lb i (wr.drewN n) ((HSB.out.dn hu).drewN n) HDB.out); generalize hda : Dg.dig la i = da at *; generalize hdb : Dg.dig lb i = db at *; have HX := Lib.hid hda; have HY := Lib.hid hdb; clear hda hdb
    by_cases hs : da - db - c < 0
    · have q2 : decide (da - db - c < 0) = true := by simpa using hs
      have HM := Lib.hid (show (da - db - c) % 10 = da - db - c + 10 by omega); have HS := Lib.hid hs; have w1 : 0 <= da - db - c + 10 := (by omega); have w2 : da - db - c + 10 <= 9 := (by omega); go_wp2_with fail; go_quiet (first | (go_at_call_of 97 (Value.slice p la.length cap); exact Calls.qs (CA.out _)) | (go_at_call_of 97 (Value.slice q lb.length cap'); exact Calls.qs (CB.out _))); go_wp2_with (at_builtin; refine append_digit rfl _ _ rfl _ (w.heap.size + 1 + 1 + 1 + 1) v (Dg.subS la lb i).1 (da - db - c + 10) rfl (HOWN.out.dn ((Dn.refl _).drewN _)) rfl HLEN.out (by simp; omega) ?_); intro p2 cap2 w3 hown' hg; have hr' := (HR.out.drewN _).push hown' hg; have HR' := Lib.hid hr'; obtain ⟨y0, y1, yf0, yf1, yl⟩ := (HR.out.o.drewN _).kept hg (fun e => by have := HOWN.out.row _ e; omega); clear hown' hg hr' a0 a1 b0 b1 o0 o1 of0 of1 r0 r1 rf0 rf1 hu; go_wp2_with fail; go_roundw
      case rel => exact ⟨i + 1, 1, _, by omega, by go_num, rfl, by simp only [Dg.subS]; rw [HX.out, HY.out, <- HC.out, if_pos HS.out], by have := HR'.out; simp only [Dg.subS]; rw [HX.out, HY.out, <- HC.out, HM.out]; exact this⟩
      case measure => simp [intOf]; omega
    · have q2 : decide (da - db - c < 0) = false := by simpa using hs
      have HM := Lib.hid (show (da - db - c) % 10 = da - db - c by omega); have HS := Lib.hid hs; have w1 : 0 <= da - db - c := (by omega); have w2 : da - db - c <= 9 := (by omega); go_wp2_with fail; go_quiet (first | (go_at_call_of 97 (Value.slice p la.length cap); exact Calls.qs (CA.out _)) | (go_at_call_of 97 (Value.slice q lb.length cap'); exact Calls.qs (CB.out _))); go_wp2_with (at_builtin; refine append_digit rfl _ _ rfl _ (w.heap.size + 1 + 1 + 1 + 1) v (Dg.subS la lb i).1 (da - db - c) rfl (HOWN.out.dn ((Dn.refl _).drewN _)) rfl HLEN.out (by simp; omega) ?_); intro p2 cap2 w3 hown' hg; have hr' := (HR.out.drewN _).push hown' hg; have HR' := Lib.hid hr'; obtain ⟨y0, y1, yf0, yf1, yl⟩ := (HR.out.o.drewN _).kept hg (fun e => by have := HOWN.out.row _ e; omega); clear hown' hg hr' a0 a1 b0 b1 o0 o1 of0 of1 r0 r1 rf0 rf1 hu; go_wp2_with fail; go_roundw
      case rel => exact ⟨i + 1, 0, _, by omega, by go_num, rfl, by simp only [Dg.subS]; rw [HX.out, HY.out, <- HC.out, if_neg (by have := HS.out; omega)], by have := HR'.out; simp only [Dg.subS]; rw [HX.out, HY.out, <- HC.out, HM.out]; exact this⟩
      case measure => simp [intOf]; omega
  · obtain rfl : i = la.length := by omega
    obtain ⟨hv, _⟩ := Dg.subS_val HDA.out HDB.out HLN.out HLE.out; have HV := Lib.hid hv; obtain ⟨p3, cap3, rfl, hp3⟩ := HOWN.out.form; clear hv hgo; go_wp2_with fail; refine (rTrim b p3 _ cap3 (Dg.subS la lb la.length).1 wr _ (Dn.refl _) HOWN.out.sl HDG.out).mono ?_; rintro e w4 ⟨b', k', rfl, hI, q4⟩; rw [HV.out] at hI; have HI := Lib.hid (hI.dn q4); have N4 := Lib.hid (HR.out.r.dn q4); have U4 := Lib.hid (hu.trans q4); clear a0 a1 b0 b1 o0 o1 of0 of1 r0 r1 rf0 rf1 hu hI q4; obtain ⟨r0, r1, rf0, rf1, rl⟩ := N4.out; go_wp2_with fail; obtain ⟨z0, z1, _, _, _⟩ := N4.out.put b' (.slice p3 k' cap3)
    exact bodyPost_ret (w := setN w4 (w.heap.size + 1 + 1) b' (.slice p3 k' cap3)) (v := .agg #[.bool b', .slice p3 k' cap3]) (by simp [results, Tryz.results59, go_sem, z0, z1]) rfl
      ⟨_, _, _, _, rfl, HI.out.farN (fun g hg => by have := hp3 g hg; omega) _ _, setN_dn U4.out (by omega) _ _, fun g hg => by have := hp3 g hg; omega⟩
theorem rAdd_swap (va vb : Value) (x y : Int) (w : World) (hva : IsN w va x) (hvb : IsN w vb y) (hsg : decide (y < 0) = !decide (x < 0)) (hxy : x.natAbs < y.natAbs) (hx : (Dg.dl x.natAbs).length <= 1000) (hy : (Dg.dl y.natAbs).length <= 1000) :
  Calls Tryz.prog 59 #[va, vb] w (NewN w (x + y)) := by
 have hR := fun (W : World) (h : Dn w W) => rAdd_diff vb va y x W (hvb.dn h) (hva.dn h) (by rw [hsg]; cases decide (x < 0) <;> rfl) (by omega) hy hx
 obtain ⟨p, n, cap, rfl, hsa⟩ := hva.form
 obtain ⟨q, n', cap', rfl, hsb⟩ := hvb.form
 have hda := Dg.dl_canon x.natAbs
 have hdb := Dg.dl_canon y.natAbs
 have hlt : decide (Dg.val (Dg.dl x.natAbs) < Dg.val (Dg.dl y.natAbs)) = true := by rw [Dg.dl_val, Dg.dl_val]; simp; omega
 have hne : (decide (x < 0) == decide (y < 0)) = false := by rw [hsg]; cases decide (x < 0) <;> rfl
 clear hva hvb hsg hxy
 generalize decide (x < 0) = b at *
 generalize decide (y < 0) = bb at *
 generalize Dg.dl x.natAbs = la at *
 generalize Dg.dl y.natAbs = lb at *
 have HR := Lib.hid hR
 have HLT := Lib.hid hlt
 have HSA := Lib.hid hsa
 have HSB := Lib.hid hsb
 have HCA := Lib.hid hda
 have HCB := Lib.hid hdb
 have HC := Lib.hid (Int.add_comm y x)
 have hne2 : (b != bb) = true := by simpa using hne
 obtain ⟨W3, hW3⟩ : ∃ W3, W3 = ((w.alloc (.cells #[.bool b, .slice p n cap] 88)).alloc (.cells #[.bool bb, .slice q n' cap'] 88)).alloc (.cells #[.bool false, .slice none 0 0] 88) := ⟨_, rfl⟩
 have n0 : NBlk W3 w.heap.size b (.slice p n cap) := by rw [hW3]; exact ((NBlk.new _ _ _ _).alloc _).alloc _
 have n1 : NBlk W3 (w.heap.size + 1) bb (.slice q n' cap') := by rw [hW3]; exact (NBlk.new1 _ _ _ _ _).alloc _
 have n2 : NBlk W3 (w.heap.size + 1 + 1) false (.slice none 0 0) := by rw [hW3]; exact NBlk.new2 _ _ _ _ _ _
 have u3 : Dn w W3 := by rw [hW3]; exact (((Dn.refl _).alloc _).alloc _).alloc _
 have HW := Lib.hid hW3
 have U3 := Lib.hid u3
 have N2 := Lib.hid n2
 obtain ⟨a0, a1, _, _, al⟩ := n0
 obtain ⟨b0, b1, _, _, bl⟩ := n1
 clear hW3 hsa hsb hda hdb hlt hR u3 n2
 go_enter Tryz.func59, Tryz.ntmps59
 go_wp2_with fail
 rw [<- HW.out]
 go_wp2_with fail
 refine (rLess_is _ _ la lb true W3 (HSA.out.dn U3.out) (HSB.out.dn U3.out) HCA.out HCB.out HLT.out).mono ?_
 rintro e w4 ⟨rfl, z, rfl⟩
 go_wp2_with fail
 refine (HR.out _ (U3.out.drewN z)).mono ?_
 rintro e w5 ⟨b', p', n2, cap2, rfl, hI, q5, hp⟩
 have HI := Lib.hid hI
 have HP := Lib.hid hp
 have n5 := (N2.out.drewN z).dn q5
 have N5 := Lib.hid n5
 have U5 := Lib.hid ((U3.out.drewN z).trans q5)
 have L5 := Lib.hid (U3.out.size)
 obtain ⟨r0, r1, rf0, rf1, rl⟩ := n5
 have hz3 : W3.heap.size = w.heap.size + 1 + 1 + 1 := by rw [HW.out]; simp
 have HZ3 := Lib.hid hz3
 clear hI hp q5 a0 a1 b0 b1 al bl hz3 HW
 go_wp2_with fail
 obtain ⟨z0, z1, _, _, _⟩ := N5.out.put b' (.slice p' n2 cap2)
 have hp2 : ∀ g, p' = some ⟨g, 0, none⟩ -> w.heap.size + 1 + 1 + 1 <= g := fun g hg => by have := HP.out g hg; have := HZ3.out; simp at *; omega
 exact bodyPost_ret (w := setN w5 (w.heap.size + 1 + 1) b' (.slice p' n2 cap2)) (v := .agg #[.bool b', .slice p' n2 cap2]) (by simp [results, Tryz.results59, go_sem, z0, z1]) rfl
  ⟨_, _, _, _, rfl, by rw [<- HC.out]; exact HI.out.farN (fun g hg => by have := hp2 g hg; omega) _ _, setN_dn U5.out (by omega) _ _, fun g hg => by have := hp2 g hg; omega⟩
theorem rAdd (va vb : Value) (x y : Int) (w : World) (hva : IsN w va x) (hvb : IsN w vb y) (hx : (Dg.dl x.natAbs).length <= 1000) (hy : (Dg.dl y.natAbs).length <= 1000) :
   Calls Tryz.prog 59 #[va, vb] w (NewN w (x + y)) := by
 by_cases hs : decide (x < 0) = decide (y < 0)
 · exact rAdd_same va vb x y w hva hvb hs hx hy
 · have hs2 : decide (y < 0) = !decide (x < 0) := by
     cases h1 : decide (x < 0) <;> cases h2 : decide (y < 0) <;> simp_all
   by_cases hl : y.natAbs <= x.natAbs
   · exact rAdd_diff va vb x y w hva hvb hs2 hl hx hy
   · exact rAdd_swap va vb x y w hva hvb hs2 (by omega) hx hy
set_option maxHeartbeats 8000000
set_option maxRecDepth 10000
theorem IsN.parts {w : World} {b : Bool} {p : Option Addr} {n cap : Nat} {z : Int} (h : IsN w (.agg #[.bool b, .slice p n cap]) z) : b = decide (z < 0) /\ n = (Dg.dl z.natAbs).length := by
 obtain ⟨s, h1, h2⟩ := h
 simp at h1
 obtain ⟨h1, rfl⟩ := h1
 exact ⟨h1, h2.len.1⟩
def sgn (z : Int) : Int := if z < 0 then -1 else if z = 0 then 0 else 1
theorem dl_pos_len {z : Int} (h : z ≠ 0) : 0 < (Dg.dl z.natAbs).length := by
 rcases Nat.eq_zero_or_pos (Dg.dl z.natAbs).length with e | e
 · have := Dg.dl_nil (List.length_eq_zero_iff.1 e); omega
 · exact e
theorem kd4 {w w1 w2 : World} {a0 a1 a2 a3 : Addr} {v0 v1 v2 v3 : Value} (h : Dn w w1 /\ w1.cell? a0 = some v0 /\ w1.cell? a1 = some v1 /\ w1.cell? a2 = some v2 /\ w1.cell? a3 = some v3) (k : Dn w1 w2) : Dn w w2 /\ w2.cell? a0 = some v0 /\ w2.cell? a1 = some v1 /\ w2.cell? a2 = some v2 /\ w2.cell? a3 = some v3 := by
 obtain ⟨h, h0, h1, h2, h3⟩ := h
 exact ⟨h.trans k, k.cell h0, k.cell h1, k.cell h2, k.cell h3⟩
theorem dcell {W w1 : World} (hb : Dn W w1) : (∀ b o, b < W.heap.size -> w1.cell? ⟨b, o, none⟩ = W.cell? ⟨b, o, none⟩) /\ (∀ b o, b < W.heap.size -> w1.frozen? ⟨b, o, none⟩ = W.frozen? ⟨b, o, none⟩) /\ W.heap.size <= w1.heap.size /\ ∀ b, b < W.heap.size -> b < w1.heap.size :=
 ⟨fun b o h => hb.below.cell (p := ⟨b, o, none⟩) h, fun b o h => hb.below.frozen (p := ⟨b, o, none⟩) h, hb.size, fun _ h => Nat.lt_of_lt_of_le h hb.size⟩
def Known (z : Int) (b : Bool) (r : Bool) : Prop := ∀ w b' p n cap, IsN w (.agg #[.bool b', .slice p n cap]) z -> b' = b /\ decide (0 < n) = r /\ (r = false -> n = 0)
theorem rCmp_gen (va vb : Value) (x y : Int) (b r : Bool) (res : Int) (w : World) (hva : IsN w va x) (hvb : IsN w vb y) (hx : (Dg.dl x.natAbs).length <= 1000) (hy : (Dg.dl y.natAbs).length <= 1000) (hk : Known (x + -y) b r)
   (hres : (b = true /\ res = -1) \/ (b = false /\ r = true /\ res = 1) \/ (b = false /\ r = false /\ res = 0)) :
   Calls Tryz.prog 100 #[va, vb] w fun e w' => e = .returned (.int .i64 res) /\ Dn w w' := by
 have HVA := Lib.hid hva
 have HVB := Lib.hid hvb
 obtain ⟨p, n, cap, rfl, _⟩ := hva.form
 obtain ⟨q, n', cap', rfl, _⟩ := hvb.form
 have hy2 : (Dg.dl (-y).natAbs).length <= 1000 := by rw [show (-y).natAbs = y.natAbs by omega]; exact hy
 generalize decide (x < 0) = ba at *
 generalize decide (y < 0) = bb at *
 have HK := Lib.hid hk
 obtain ⟨W, hW⟩ : ∃ W, W = (w.alloc (.cells #[.bool ba, .slice p n cap] 88)).alloc (.cells #[.bool bb, .slice q n' cap'] 88) := ⟨_, rfl⟩
 have n0 : NBlk W w.heap.size ba (.slice p n cap) := by rw [hW]; exact (NBlk.new _ _ _ _).alloc _
 have n1 : NBlk W (w.heap.size + 1) bb (.slice q n' cap') := by rw [hW]; exact NBlk.new1 _ _ _ _ _
 have u : Dn w W := by rw [hW]; exact ((Dn.refl _).alloc _).alloc _
 have HW := Lib.hid hW
 have U := Lib.hid u
 obtain ⟨a0, a1, _, _, al⟩ := n0
 obtain ⟨b0, b1, _, _, bl⟩ := n1
 clear hW hva hvb hk u
 go_enter Tryz.func100, Tryz.ntmps100
 go_wp2_with fail
 rw [<- HW.out]
 clear HW
 have hS : Dn W W /\ W.cell? ⟨w.heap.size, 0, none⟩ = some (.bool ba) /\ W.cell? ⟨w.heap.size, 1, none⟩ = some (.slice p n cap) /\ W.cell? ⟨w.heap.size + 1, 0, none⟩ = some (.bool bb) /\ W.cell? ⟨w.heap.size + 1, 1, none⟩ = some (.slice q n' cap') := ⟨Dn.refl _, a0, a1, b0, b1⟩
 go_region_held3 (fun w' => Dn W w' /\ w'.cell? ⟨w.heap.size, 0, none⟩ = some (.bool ba) /\ w'.cell? ⟨w.heap.size, 1, none⟩ = some (.slice p n cap) /\ w'.cell? ⟨w.heap.size + 1, 0, none⟩ = some (.bool bb) /\ w'.cell? ⟨w.heap.size + 1, 1, none⟩ = some (.slice q n' cap'))
   (first | exact kd4 hS ((Dn.refl _).drew) | exact kd4 ‹_› ‹_› | exact kd4 ‹_› ((Dn.refl _).alloc _) | exact kd4 hS (Dn.alloc hW2 _) | exact kd4 hS (Dn.setCell (Dn.setCell (And.left (by assumption)) (by first | exact Nat.le_refl _ | omega) _) (by first | exact Nat.le_refl _ | omega) _))
   (first | (go_at_call 60; refine (rNeg _ y _ ((HVB.out.dn U.out).dn (‹Dn W _ /\ _› : _ /\ _).1)).mono ?_; rintro e w1 ⟨v, rfl, hI, hq1⟩; obtain ⟨hc1, hf1, hz1, hl1⟩ := dcell hq1; try simp at hz1) | (go_at_call 59; refine (rAdd _ v x (-y) _ ((HVA.out.dn U.out).dn (‹Dn W _ /\ _› : _ /\ _).1) (by first | exact hI.dn hq1 | exact (hI.dn hq1).dn ((Dn.refl _).alloc _)) hx hy2).mono ?_; rintro e w2 ⟨b', p', n2, cap2, rfl, hJ, hq2, hP⟩; have hW2 : Dn W w2 := Dn.trans (And.left (by assumption)) hq2; obtain ⟨hc2, hf2, hz2, hl2⟩ := dcell hq2; try simp at hz2))
 · obtain ⟨rfl, hn, hn0⟩ := HK.out _ _ _ _ _ hJ
   have hf : Dn W _ := (‹Dn W _ /\ _› : _ /\ _).1; have HF := Lib.hid (U.out.trans hf); have HH := Lib.hid hn0; clear hf hn0 hS hJ a0 a1 b0 b1; rcases hres with ⟨rfl, rfl⟩ | ⟨rfl, rfl, rfl⟩ | ⟨rfl, rfl, rfl⟩
   · go_wp2_with fail
     go_ret; exact ⟨rfl, HF.out⟩
   · go_wp2_with fail
     go_ret; exact ⟨rfl, HF.out⟩
   · obtain rfl := HH.out rfl
     go_wp2_with fail; go_ret; exact ⟨rfl, HF.out⟩
 · obtain ⟨rfl, hn, hn0⟩ := HK.out _ _ _ _ _ hJ
   have hf : Dn W _ := (‹Dn W _ /\ _› : _ /\ _).1; have HF := Lib.hid (U.out.trans hf); have HH := Lib.hid hn0; clear hf hn0 hS hJ a0 a1 b0 b1; rcases hres with ⟨rfl, rfl⟩ | ⟨rfl, rfl, rfl⟩ | ⟨rfl, rfl, rfl⟩
   · go_wp2_with fail
     go_ret; exact ⟨rfl, HF.out⟩
   · go_wp2_with fail
     go_ret; exact ⟨rfl, HF.out⟩
   · obtain rfl := HH.out rfl
     go_wp2_with fail; go_ret; exact ⟨rfl, HF.out⟩
 · obtain ⟨rfl, hn, hn0⟩ := HK.out _ _ _ _ _ hJ
   have hf : Dn W _ := (‹Dn W _ /\ _› : _ /\ _).1; have HF := Lib.hid (U.out.trans hf); have HH := Lib.hid hn0; have i0 := (hc2 W.heap.size 0 (hl1 _ (by simp))).trans ((hc1 W.heap.size 0 (by simp)).trans (show _ = some (Value.bool false) by simp)); have i1 := (hc2 W.heap.size 1 (hl1 _ (by simp))).trans ((hc1 W.heap.size 1 (by simp)).trans (show _ = some (Value.slice none 0 0) by simp)); clear hc1 hc2 hf1 hf2 hl1 hl2; clear hf hn0 hS hJ a0 a1 b0 b1; rcases hres with ⟨rfl, rfl⟩ | ⟨rfl, rfl, rfl⟩ | ⟨rfl, rfl, rfl⟩
   · go_wp2_with fail
     go_ret; exact ⟨rfl, HF.out⟩
   · go_wp2_with fail
     go_ret; exact ⟨rfl, HF.out⟩
   · obtain rfl := HH.out rfl
     go_wp2_with fail; go_ret; exact ⟨rfl, HF.out⟩
theorem rCmp (va vb : Value) (x y : Int) (w : World) (hva : IsN w va x) (hvb : IsN w vb y) (hx : (Dg.dl x.natAbs).length <= 1000) (hy : (Dg.dl y.natAbs).length <= 1000) :
   Calls Tryz.prog 100 #[va, vb] w fun e w' => e = .returned (.int .i64 (sgn (x - y))) /\ Dn w w' := by
 rcases Int.lt_trichotomy (x + -y) 0 with h | h | h
 · have e : sgn (x - y) = -1 := by unfold sgn; rw [if_pos (by omega)]
   rw [e]; refine rCmp_gen va vb x y true true (-1) w hva hvb hx hy (fun w b' p n cap hI => ?_) (Or.inl ⟨rfl, rfl⟩); obtain ⟨rfl, rfl⟩ := hI.parts; have := dl_pos_len (z := x + -y) (by omega); exact ⟨by simpa using h, by simp; omega, by simp⟩
 · have e : sgn (x - y) = 0 := by unfold sgn; rw [if_neg (by omega), if_pos (by omega)]
   rw [e]; refine rCmp_gen va vb x y false false 0 w hva hvb hx hy (fun w b' p n cap hI => ?_) (Or.inr (Or.inr ⟨rfl, rfl, rfl⟩)); obtain ⟨rfl, rfl⟩ := hI.parts; rw [h]; simp [Dg.dl_zero]
 · have e : sgn (x - y) = 1 := by unfold sgn; rw [if_neg (by omega), if_neg (by omega)]
   rw [e]; refine rCmp_gen va vb x y false true 1 w hva hvb hx hy (fun w b' p n cap hI => ?_) (Or.inr (Or.inl ⟨rfl, rfl, rfl⟩)); obtain ⟨rfl, rfl⟩ := hI.parts; have := dl_pos_len (z := x + -y) (by omega); exact ⟨by simp; omega, by simp; omega, by simp⟩
set_option maxHeartbeats 4000000
set_option maxRecDepth 10000
theorem val_drop_le {l : List Int} (h : Dg.Digs l) (k : Nat) (hk : k <= l.length) : 0 <= Dg.val (l.drop k) /\ Dg.val (l.drop k) <= Dg.val l := by
 have e := Dg.val_split l k hk
 have a := Dg.val_nonneg (h.take k)
 have b := Dg.val_nonneg (h.drop k)
 have p := Dg.p10_pos k
 have m : 1 * Dg.val (l.drop k) <= Dg.p10 k * Dg.val (l.drop k) := Int.mul_le_mul_of_nonneg_right p b
 omega
theorem val_drop_dig (l : List Int) (m : Nat) (h : m < l.length) : Dg.val (l.drop m) = Dg.dig l m + 10 * Dg.val (l.drop (m + 1)) := by
 rw [drop_dig l m h, Dg.val]
theorem len_of {n : Nat} (h : n <= 9223372036854775808) : (Dg.dl n).length <= 1000 := by have := dl_i64 n h; omega
structure IntRel (b : Bool) (l : List Int) (k : Nat) (N : Int) : Prop where
 hk : k <= l.length
 val : N = sg b (Dg.val (l.drop k))
theorem IntRel.step {b : Bool} {l : List Int} {m : Nat} {N : Int} (h : IntRel b l (m + 1) N) : IntRel b l m (sg b (Dg.dig l m + 10 * sg b N)) := by
 have hk := h.hk
 have hv := h.val
 refine ⟨by omega, ?_⟩
 subst hv
 rw [val_drop_dig l m (by omega)]
 unfold sg
 cases b <;> simp
theorem IntRel.bd {b : Bool} {l : List Int} {m : Nat} {N x : Int} (hd : Dg.Digs l) (h : IntRel b l (m + 1) N) (hx : x = sg b (Dg.val l)) (hi : I64 x) :
   (b = true -> N <= 0 /\ -9223372036854775808 <= 10 * N - Dg.dig l m /\ -9223372036854775808 <= 10 * N) /\ (b = false -> 0 <= N /\ 10 * N + Dg.dig l m <= 9223372036854775807 /\ 10 * N <= 9223372036854775807) := by
 have hk := h.hk
 have hv := h.val
 have d1 := val_drop_le hd (m + 1) hk
 have d2 := val_drop_le hd m (by omega)
 have e := val_drop_dig l m (by omega)
 have g := Dg.dig_bd hd m
 obtain ⟨i1, i2⟩ := hi
 constructor
 · rintro rfl
   simp [sg] at hv hx; omega
 · rintro rfl
   simp [sg] at hv hx; omega
theorem IsN.shape {w : World} {v : Value} {x : Int} (h : IsN w v x) : ∃ b p n cap, v = .agg #[.bool b, .slice p n cap] := by
 obtain ⟨p, n, cap, e, _⟩ := h.form
 exact ⟨_, p, n, cap, e⟩
theorem rCmp_is (va vb : Value) (x y r : Int) (w : World) (hr : sgn (x - y) = r) (hva : IsN w va x) (hvb : IsN w vb y) (hx : (Dg.dl x.natAbs).length <= 1000) (hy : (Dg.dl y.natAbs).length <= 1000) :
  Calls Tryz.prog 100 #[va, vb] w fun e w' => e = .returned (.int .i64 r) /\ Dn w w' := by
 subst hr; exact rCmp va vb x y w hva hvb hx hy
theorem lenLeast : (Dg.dl (-9223372036854775808 : Int).natAbs).length <= 1000 := len_of (by decide)
theorem lenMost : (Dg.dl (9223372036854775807 : Int).natAbs).length <= 1000 := len_of (by decide)
theorem rInt_low (v : Value) (x : Int) (w : World) (hx : IsN w v x) (hl : (Dg.dl x.natAbs).length <= 1000) (h : x < -9223372036854775808) :
  Calls Tryz.prog 61 #[v] w fun e w' => e = .returned (.tuple #[.int .i64 0, .bool false]) /\ Dn w w' := by
 have hr1 : sgn (x - -9223372036854775808) = -1 := by unfold sgn; rw [if_pos (by omega)]
 clear h
 obtain ⟨p, n, cap, rfl, hs⟩ := hx.form
 generalize hb : decide (x < 0) = b at *
 obtain ⟨rfl, ln⟩ := hs.len
 have HX := Lib.hid hx
 have HS := Lib.hid hs
 have HL := Lib.hid hl
 have HB := Lib.hid hb
 clear hx hs hl hb
 go_enter Tryz.func61, Tryz.ntmps61
 go_wp2_with fail
 refine (rOf1 _ _ (by decide)).mono ?_
 rintro e w2 ⟨v2, rfl, hI2, q2⟩
 obtain ⟨b2, p2, n2, cap2, rfl⟩ := hI2.shape
 have y1 := ((NBlk.new w b (.slice p (Dg.dl x.natAbs).length cap) 88)).dn q2
 have Y1 := Lib.hid y1
 have U2 := Lib.hid ((((Dn.refl w).alloc _).trans q2) : Dn w w2)
 have I2 := Lib.hid hI2
 obtain ⟨c0, c1, cf0, cf1, cl⟩ := y1
 clear hI2 q2
 go_wp2_with fail
 refine (rOf1 _ _ (by decide)).mono ?_
 rintro e w3 ⟨v3, rfl, hI3, q3⟩
 obtain ⟨b3, p3, n3, cap3, rfl⟩ := hI3.shape
 have y2 := Y1.out.dn (((Dn.refl _).alloc _).trans q3)
 have Y2 := Lib.hid y2
 have y3 := ((NBlk.new w2 b2 (.slice p2 n2 cap2) 88)).dn q3
 have Y3 := Lib.hid y3
 have U3 := Lib.hid (U2.out.trans (((Dn.refl _).alloc _).trans q3))
 have J2 := Lib.hid (I2.out.dn (((Dn.refl _).alloc _).trans q3))
 have J3 := Lib.hid hI3
 clear c0 c1 cf0 cf1 cl q3 hI3
 obtain ⟨c0, c1, cf0, cf1, cl⟩ := y2
 obtain ⟨d0, d1, df0, df1, dl⟩ := y3
 go_wp2_with fail
 have uV := (Dn.refl w3).alloc (.cells #[.bool b3, .slice p3 n3 cap3] 88)
 refine (rCmp_is _ _ x (-9223372036854775808) _ _ hr1 (HX.out.dn (U3.out.trans uV)) (J2.out.dn uV) HL.out lenLeast).mono ?_
 rintro e w4 ⟨rfl, q4⟩
 have y4 := (Y2.out.dn uV).dn q4
 have Y4 := Lib.hid y4
 have y5 := (NBlk.new w3 b3 (.slice p3 n3 cap3) 88).dn q4
 have U4 := Lib.hid ((U3.out.trans uV).trans q4)
 have K3 := Lib.hid (J3.out.dn (uV.trans q4))
 clear c0 c1 cf0 cf1 cl d0 d1 df0 df1 dl uV q4
 obtain ⟨c0, c1, cf0, cf1, cl⟩ := y4
 obtain ⟨d0, d1, df0, df1, dl⟩ := y5
 go_wp2_with fail
 go_ret2
 exact ⟨rfl, U4.out⟩
theorem rInt_high (v : Value) (x : Int) (w : World) (hx : IsN w v x) (hl : (Dg.dl x.natAbs).length <= 1000) (h : 9223372036854775807 < x) :
  Calls Tryz.prog 61 #[v] w fun e w' => e = .returned (.tuple #[.int .i64 0, .bool false]) /\ Dn w w' := by
 have hr1 : sgn (x - -9223372036854775808) = 1 := by unfold sgn; rw [if_neg (by omega), if_neg (by omega)]
 have hr2 : sgn (x - 9223372036854775807) = 1 := by unfold sgn; rw [if_neg (by omega), if_neg (by omega)]
 clear h
 obtain ⟨p, n, cap, rfl, hs⟩ := hx.form
 generalize hb : decide (x < 0) = b at *
 obtain ⟨rfl, ln⟩ := hs.len
 have HX := Lib.hid hx
 have HS := Lib.hid hs
 have HL := Lib.hid hl
 have HB := Lib.hid hb
 clear hx hs hl hb
 go_enter Tryz.func61, Tryz.ntmps61
 go_wp2_with fail
 refine (rOf1 _ _ (by decide)).mono ?_
 rintro e w2 ⟨v2, rfl, hI2, q2⟩
 obtain ⟨b2, p2, n2, cap2, rfl⟩ := hI2.shape
 have y1 := ((NBlk.new w b (.slice p (Dg.dl x.natAbs).length cap) 88)).dn q2
 have Y1 := Lib.hid y1
 have U2 := Lib.hid ((((Dn.refl w).alloc _).trans q2) : Dn w w2)
 have I2 := Lib.hid hI2
 obtain ⟨c0, c1, cf0, cf1, cl⟩ := y1
 clear hI2 q2
 go_wp2_with fail
 refine (rOf1 _ _ (by decide)).mono ?_
 rintro e w3 ⟨v3, rfl, hI3, q3⟩
 obtain ⟨b3, p3, n3, cap3, rfl⟩ := hI3.shape
 have y2 := Y1.out.dn (((Dn.refl _).alloc _).trans q3)
 have Y2 := Lib.hid y2
 have y3 := ((NBlk.new w2 b2 (.slice p2 n2 cap2) 88)).dn q3
 have Y3 := Lib.hid y3
 have U3 := Lib.hid (U2.out.trans (((Dn.refl _).alloc _).trans q3))
 have J2 := Lib.hid (I2.out.dn (((Dn.refl _).alloc _).trans q3))
 have J3 := Lib.hid hI3
 clear c0 c1 cf0 cf1 cl q3 hI3
 obtain ⟨c0, c1, cf0, cf1, cl⟩ := y2
 obtain ⟨d0, d1, df0, df1, dl⟩ := y3
 go_wp2_with fail
 have uV := (Dn.refl w3).alloc (.cells #[.bool b3, .slice p3 n3 cap3] 88)
 refine (rCmp_is _ _ x (-9223372036854775808) _ _ hr1 (HX.out.dn (U3.out.trans uV)) (J2.out.dn uV) HL.out lenLeast).mono ?_
 rintro e w4 ⟨rfl, q4⟩
 have y4 := (Y2.out.dn uV).dn q4
 have Y4 := Lib.hid y4
 have y5 := (NBlk.new w3 b3 (.slice p3 n3 cap3) 88).dn q4
 have U4 := Lib.hid ((U3.out.trans uV).trans q4)
 have K3 := Lib.hid (J3.out.dn (uV.trans q4))
 clear c0 c1 cf0 cf1 cl d0 d1 df0 df1 dl uV q4
 obtain ⟨c0, c1, cf0, cf1, cl⟩ := y4
 obtain ⟨d0, d1, df0, df1, dl⟩ := y5
 go_wp2_with fail
 refine (rCmp_is _ _ x 9223372036854775807 _ _ hr2 (HX.out.dn U4.out) K3.out HL.out lenMost).mono ?_
 rintro e w5 ⟨rfl, q5⟩
 have y6 := Y4.out.dn q5
 have U5 := Lib.hid (U4.out.trans q5)
 clear c0 c1 cf0 cf1 cl d0 d1 df0 df1 dl q5
 obtain ⟨c0, c1, cf0, cf1, cl⟩ := y6
 go_wp2_with fail
 go_ret2
 exact ⟨rfl, U5.out⟩
theorem sgn_pos (z : Int) (h : 0 <= z) : 0 <= sgn z := by unfold sgn; split <;> (try split) <;> omega
theorem sgn_neg (z : Int) (h : z <= 0) : sgn z <= 0 := by unfold sgn; split <;> (try split) <;> omega
theorem rInt_yes (v : Value) (x : Int) (w : World) (hx : IsN w v x) (hl : (Dg.dl x.natAbs).length <= 1000) (h : I64 x) :
  Calls Tryz.prog 61 #[v] w fun e w' => e = .returned (.tuple #[.int .i64 x, .bool true]) /\ Dn w w' := by
 have hp1 := sgn_pos (x - -9223372036854775808) (by have := h.1; omega)
 have hp2 := sgn_neg (x - 9223372036854775807) (by have := h.2; omega)
 generalize hr1 : sgn (x - -9223372036854775808) = r1 at *
 generalize hr2 : sgn (x - 9223372036854775807) = r2 at *
 have t1 : decide (r1 < 0) = false := by simp; omega
 have t2 : decide (0 < r2) = false := by simp; omega
 have hr1' := Lib.hid hr1
 have hr2' := Lib.hid hr2
 clear hr1 hr2
 have hr1 := hr1'
 have hr2 := hr2'
 obtain ⟨p, n, cap, rfl, hs⟩ := hx.form
 generalize hb : decide (x < 0) = b at *
 obtain ⟨rfl, ln⟩ := hs.len
 have HX := Lib.hid hx
 have HS := Lib.hid hs
 have HL := Lib.hid hl
 have HB := Lib.hid hb
 have h' := Lib.hid h
 clear hx hs hl hb h
 go_enter Tryz.func61, Tryz.ntmps61
 go_wp2_with fail
 refine (rOf1 _ _ (by decide)).mono ?_
 rintro e w2 ⟨v2, rfl, hI2, q2⟩
 obtain ⟨b2, p2, n2, cap2, rfl⟩ := hI2.shape
 have y1 := ((NBlk.new w b (.slice p (Dg.dl x.natAbs).length cap) 88)).dn q2
 have Y1 := Lib.hid y1
 have U2 := Lib.hid ((((Dn.refl w).alloc _).trans q2) : Dn w w2)
 have I2 := Lib.hid hI2
 obtain ⟨c0, c1, cf0, cf1, cl⟩ := y1
 clear hI2 q2
 go_wp2_with fail
 refine (rOf1 _ _ (by decide)).mono ?_
 rintro e w3 ⟨v3, rfl, hI3, q3⟩
 obtain ⟨b3, p3, n3, cap3, rfl⟩ := hI3.shape
 have y2 := Y1.out.dn (((Dn.refl _).alloc _).trans q3)
 have Y2 := Lib.hid y2
 have y3 := ((NBlk.new w2 b2 (.slice p2 n2 cap2) 88)).dn q3
 have Y3 := Lib.hid y3
 have U3 := Lib.hid (U2.out.trans (((Dn.refl _).alloc _).trans q3))
 have J2 := Lib.hid (I2.out.dn (((Dn.refl _).alloc _).trans q3))
 have J3 := Lib.hid hI3
 clear c0 c1 cf0 cf1 cl q3 hI3
 obtain ⟨c0, c1, cf0, cf1, cl⟩ := y2
 obtain ⟨d0, d1, df0, df1, dl⟩ := y3
 go_wp2_with fail
 have uV := (Dn.refl w3).alloc (.cells #[.bool b3, .slice p3 n3 cap3] 88)
 refine (rCmp_is _ _ x (-9223372036854775808) _ _ hr1.out (HX.out.dn (U3.out.trans uV)) (J2.out.dn uV) HL.out lenLeast).mono ?_
 rintro e w4 ⟨rfl, q4⟩
 have y4 := (Y2.out.dn uV).dn q4
 have Y4 := Lib.hid y4
 have y5 := (NBlk.new w3 b3 (.slice p3 n3 cap3) 88).dn q4
 have U4 := Lib.hid ((U3.out.trans uV).trans q4)
 have K3 := Lib.hid (J3.out.dn (uV.trans q4))
 clear c0 c1 cf0 cf1 cl d0 d1 df0 df1 dl uV q4
 obtain ⟨c0, c1, cf0, cf1, cl⟩ := y4
 obtain ⟨d0, d1, df0, df1, dl⟩ := y5
 go_wp2_with fail
 refine (rCmp_is _ _ x 9223372036854775807 _ _ hr2.out (HX.out.dn U4.out) K3.out HL.out lenMost).mono ?_
 rintro e w5 ⟨rfl, q5⟩
 have y6 := Y4.out.dn q5
 have U5 := Lib.hid (U4.out.trans q5)
 clear c0 c1 cf0 cf1 cl d0 d1 df0 df1 dl q5
 obtain ⟨c0, c1, cf0, cf1, cl⟩ := y6
 go_wp2_with fail
 have hd := Dg.dl_digs x.natAbs
 have HD := Lib.hid hd
 have HI := h'
 have HV := Lib.hid (show x = sg b (Dg.val (Dg.dl x.natAbs)) by rw [<- HB.out]; exact (sg_abs x).symm)
 have S5 := HS.out.dn U5.out
 obtain ⟨p', cap', he, h1, h2, h3⟩ := S5
 injection he with e1 e2 e3
 subst e1 e3
 have H3 := Lib.hid h3
 clear h3 hd
 generalize hgl : Dg.dl x.natAbs = l at *
 clear hgl
 go_loop [6, 7] (fun nv iv => ∃ (k : Nat) (j N : Int), j = (k : Int) - 1 /\ iv = .int .i64 j /\ nv = .int .i64 N /\ IntRel b l k N) (fun _ iv => (intOf iv + 1).toNat)
 case atStart => exact ⟨l.length, _, 0, rfl, rfl, rfl, ⟨Nat.le_refl _, by rw [List.drop_of_length_le (Nat.le_refl _)]; simp [sg, Dg.val]⟩⟩
 case round =>
  obtain ⟨k, j, N, hj, rfl, rfl, hr⟩ := hrel
  by_cases h0 : k = 0
  · subst h0
    obtain rfl : j = -1 := by omega
    have hN : x = N := (by rw [HV.out, hr.val]; rfl); have HN := Lib.hid hN; clear hj hr hN; go_wp2_with fail; go_ret2; exact ⟨by show Ending.returned (.tuple #[.int .i64 N, .bool true]) = Ending.returned (.tuple #[.int .i64 x, .bool true]); rw [HN.out], U5.out⟩
  · obtain ⟨m, rfl⟩ : ∃ m, k = m + 1 := ⟨k - 1, by omega⟩
    obtain rfl : j = (m : Int) := by omega
    obtain ⟨g, rfl, q⟩ := H3.out m _ (Dg.dig_some (by have := hr.hk; omega)); have hbd := IntRel.bd HD.out hr HV.out HI.out; have hst := hr.step; obtain ⟨g1, g2⟩ := Dg.dig_bd HD.out m; have HST := Lib.hid hst; have hm : m < l.length := (by have := hr.hk; omega); clear hr hst hj
    cases hb : b with
    | true =>
      subst hb; obtain ⟨n1, n2, n3⟩ := hbd.1 rfl; clear hbd; have HE := Lib.hid (show 10 * N - Dg.dig l m = sg true (Dg.dig l m + 10 * sg true N) by simp [sg]; omega); generalize Dg.dig l m = d at *; go_wp2_with fail; go_round
      case rel => exact ⟨m, _, _, rfl, rfl, rfl, by rw [HE.out]; exact HST.out⟩
      case measure => simp [intOf]
    | false =>
      subst hb; obtain ⟨n1, n2, n3⟩ := hbd.2 rfl; clear hbd; have HE := Lib.hid (show 10 * N + Dg.dig l m = sg false (Dg.dig l m + 10 * sg false N) by simp [sg]; omega); generalize Dg.dig l m = d at *; go_wp2_with fail; go_round
      case rel => exact ⟨m, _, _, rfl, rfl, rfl, by rw [HE.out]; exact HST.out⟩
      case measure => simp [intOf]
structure MulRel (w : World) (ba bb nb : Bool) (sa sb : Value) (g Bo N : Nat) (wr : World) (O : List Int) : Prop where
 own : wr.ownsRow 0 5 1 (.slice (some ⟨g, 0, none⟩) N N) N (O.map (Value.int .u8))
 a : NBlk wr w.heap.size ba sa
 b : NBlk wr (w.heap.size + 1) bb sb
 r : NBlk wr (w.heap.size + 1 + 1) false (.slice none 0 0)
 o : NBlk wr Bo nb (.slice (some ⟨g, 0, none⟩) N N)
 dn : Dn w wr
 hg : w.heap.size + 1 + 1 < g
 hne : g ≠ Bo
 ho : w.heap.size + 1 + 1 < Bo
 len : O.length = N
theorem MulRel.set {w : World} {ba bb nb : Bool} {sa sb : Value} {g Bo N : Nat} {wr : World} {O : List Int} (h : MulRel w ba bb nb sa sb g Bo N wr O) (j : Nat) (d : Int) :
  MulRel w ba bb nb sa sb g Bo N (wr.setCell ⟨g, j, none⟩ (.int .u8 d)) (O.set j d) := by
 have h1 := h.hg
 have h2 := h.hne
 refine ⟨?_, h.a.far (by simp; omega) _, h.b.far (by simp; omega) _, h.r.far (by simp; omega) _, h.o.far (by simpa using h2) _, h.dn.setCell (by simp; omega) _, h.hg, h.hne, h.ho, by rw [List.length_set]; exact h.len⟩
 have := (h.own.stored j (.int .u8 d)).1
 rwa [<- List.map_set] at this
theorem MulRel.drewN {w : World} {ba bb nb : Bool} {sa sb : Value} {g Bo N : Nat} {wr : World} {O : List Int} (h : MulRel w ba bb nb sa sb g Bo N wr O) (n : Nat) : MulRel w ba bb nb sa sb g Bo N (wr.drewN n) O :=
 ⟨h.own, h.a.drewN n, h.b.drewN n, h.r.drewN n, h.o.drewN n, h.dn.drewN n, h.hg, h.hne, h.ho, h.len⟩
theorem MulRel.cell {w : World} {ba bb nb : Bool} {sa sb : Value} {g Bo N : Nat} {wr : World} {O : List Int} (h : MulRel w ba bb nb sa sb g Bo N wr O) (j : Nat) (hj : j < N) :
  wr.cell? ⟨g, j, none⟩ = some (.int .u8 (Dg.dig O j)) /\ wr.frozen? ⟨g, j, none⟩ = false := by
 refine ⟨?_, h.own.frozenAt j⟩
 rw [h.own.cellAt j (by omega), List.getElem?_map, Dg.dig_some (by rw [h.len]; exact hj)]
 rfl
theorem MulRel.sl {w : World} {ba bb nb : Bool} {sa sb : Value} {g Bo N : Nat} {wr : World} {O : List Int} (h : MulRel w ba bb nb sa sb g Bo N wr O) : SlD wr (.slice (some ⟨g, 0, none⟩) N N) O :=
 SlD.of_own h.own h.len.symm
theorem val_zeros (n : Nat) : Dg.val (List.replicate n 0) = 0 /\ Dg.Digs (List.replicate n 0) /\ ∀ j, Dg.dig (List.replicate n 0) j = 0 := by
 refine ⟨?_, ?_, ?_⟩
 · induction n with
   | zero => rfl
   | succ n ih => rw [List.replicate_succ, Dg.val, ih]; rfl
 · intro d hd
   have := List.eq_of_mem_replicate hd; omega
 · intro j
   unfold Dg.dig; simp only [List.getD, List.getElem?_replicate]
   split <;> rfl
structure OutRel (la lb : List Int) (i : Nat) (O : List Int) : Prop where
 dg : Dg.Digs O
 val : Dg.val O = Dg.val (la.take i) * Dg.val lb
 z : ∀ j, i + lb.length <= j -> Dg.dig O j = 0
 len : O.length = la.length + lb.length + 1
theorem OutRel.start (la lb : List Int) : OutRel la lb 0 (List.replicate (la.length + lb.length + 1) 0) :=
 ⟨(val_zeros _).2.1, by rw [(val_zeros _).1]; simp [Dg.val], fun j _ => (val_zeros _).2.2 j, by simp⟩
theorem OutRel.next {la lb : List Int} {i k : Nat} {O : List Int} (h : OutRel la lb i O) (ha : Dg.Digs la) (hb : Dg.Digs lb) (hi : i < la.length) (h1 : lb.length <= k) (h2 : k <= lb.length + 1) (hc : (Dg.rowS O (Dg.dig la i) lb i k).2 = 0) : OutRel la lb (i + 1) (Dg.rowS O (Dg.dig la i) lb i k).1 := by
 obtain ⟨g1, g2, _⟩ := Dg.rowS_inv h.dg (Dg.dig_bd ha i) hb i k (by rw [h.len]; omega)
 obtain ⟨f1, f2⟩ := Dg.rowS_fin h.dg ha hb i k hi h.len h.z h.val h1 h2 hc
 exact ⟨g2, f2, f1, by rw [g1]; exact h.len⟩
end Go.Proofs.YtoghoddjkdoohaaGreatDoor
