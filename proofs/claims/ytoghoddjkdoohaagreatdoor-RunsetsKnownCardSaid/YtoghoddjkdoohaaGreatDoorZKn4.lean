/- Walks and laws that the claim's theorem leans on: part 4. -/
import Derived.Test.YtoghoddjkdoohaaGreatDoorZKn1
import Derived.Test.YtoghoddjkdoohaaGreatDoorZKn3
import Derived.Lib.ItoaLen
import Derived.IntWalk
namespace Go.Proofs.YtoghoddjkdoohaaGreatDoor
open Go.RowKit
def rd (u : Nat) : List UInt8 := (Dg.dl u).reverse.map Dg.ch
theorem rd_isD (u : Nat) : ∀ c ∈ rd u, Dg.isD c := by
 intro c hc
 simp only [rd, List.mem_map, List.mem_reverse] at hc
 obtain ⟨d, hd, rfl⟩ := hc
 exact (Dg.ch_isD d (Dg.dl_digs u d hd)).1
theorem map_dv_ch {l : List Int} (h : Dg.Digs l) : (l.map Dg.ch).map Dg.dv = l := by
 rw [List.map_map]
 have : l.map (Dg.dv ∘ Dg.ch) = l.map id := List.map_congr_left (fun d hd => (Dg.ch_isD d (h d hd)).2)
 rw [this, List.map_id]
theorem rd_val (u : Nat) : Dg.nvA 0 (rd u) = u := by
 have h := Dg.nvA_val (rd u) (rd_isD u) 0
 have e : (rd u).reverse.map Dg.dv = Dg.dl u := by
  unfold rd; rw [<- List.map_reverse, List.reverse_reverse]; exact map_dv_ch (Dg.dl_digs u)
 rw [e, Dg.dl_val] at h
 simp at h
 omega
theorem head_last {α : Type} (l : List α) : l.reverse.head? = l[l.length - 1]? := by
 rw [List.head?_reverse, List.getLast?_eq_getElem?]
theorem rd_head (u : Nat) (h : u ≠ 0) : ∃ d, 1 <= d /\ d <= 9 /\ (rd u).head? = some (Dg.ch d) := by
 have hne : Dg.dl u ≠ [] := fun e => h (Dg.dl_nil e)
 have hlen : 0 < (Dg.dl u).length := List.length_pos_iff.2 hne
 have hc := (Dg.dl_canon u).2
 have hd := Dg.dig_bd (Dg.dl_digs u) ((Dg.dl u).length - 1)
 refine ⟨Dg.dig (Dg.dl u) ((Dg.dl u).length - 1), ?_, hd.2, ?_⟩
 · rcases hc with hc | hc
   · exact absurd hc hne
   · omega
 · unfold rd
   rw [List.head?_map, head_last, Dg.dig_some (by omega)]; rfl
theorem ch_toNat (d : Int) (h : 0 <= d /\ d <= 9) : ((Dg.ch d).toNat : Int) = 48 + d := by
 have := (Dg.ch_isD d h).2
 unfold Dg.dv at this
 omega
theorem neg_of_head {l : List UInt8} {c : UInt8} (h : l.head? = some c) (hc : c.toNat ≠ 45) : isNeg l = false := by
 unfold isNeg
 rw [h]
 show (c == 45) = false
 rw [beq_eq_false_iff_ne]
 intro e
 subst e
 exact hc rfl
theorem rd_ok (u : Nat) (h : u ≠ 0) : pOk (rd u) /\ pVal (rd u) = u /\ pOk (45 :: rd u) /\ pVal (45 :: rd u) = -(u : Int) := by
 obtain ⟨d, d1, d2, hd⟩ := rd_head u h
 have hn := ch_toNat d ⟨by omega, d2⟩
 have hneg : isNeg (rd u) = false := neg_of_head hd (by omega)
 have hds : dsOf (rd u) = rd u := by unfold dsOf; rw [hneg]; rfl
 have hne : rd u ≠ [] := by intro e; rw [e] at hd; simp at hd
 have h48 : ¬ (rd u).head? = some 48 := by
   rw [hd]; intro e; have e2 := congrArg UInt8.toNat (Option.some.inj e); have : (48 : UInt8).toNat = 48 := rfl; omega
 have hneg2 : isNeg (45 :: rd u) = true := rfl
 have hds2 : dsOf (45 :: rd u) = rd u := by unfold dsOf; rw [hneg2]; rfl
 refine ⟨⟨by rw [hds]; exact hne, by rw [hds]; exact fun hx => h48 hx.1, by rw [hds]; exact rd_isD u⟩, ?_, ⟨by rw [hds2]; exact hne, by rw [hds2]; exact fun hx => h48 hx.1, by rw [hds2]; exact rd_isD u⟩, ?_⟩
 · unfold pVal; rw [hneg, hds, rd_val]; rfl
 · unfold pVal; rw [hneg2, hds2, rd_val]; rfl
theorem itoa_rd (n : Int) (h : n ≠ 0) : Lib.itoa n = if n < 0 then 45 :: rd n.natAbs else rd n.natAbs := by
 unfold Lib.itoa
 split
 · rw [Dg.decDigits_dl _ (by omega)]; rfl
 · rw [show n.toNat = n.natAbs by omega, Dg.decDigits_dl _ (by omega)]; rfl
theorem itoa_zero : Lib.itoa 0 = [48] := by simp [Lib.itoa, Lib.decDigits]
theorem itoa_ok (n : Int) : pOk (Lib.itoa n) /\ pVal (Lib.itoa n) = n := by
 by_cases h : n = 0
 · subst h
   rw [itoa_zero]; refine ⟨⟨?_, ?_, ?_⟩, ?_⟩
   · show dsOf [48] ≠ []
     decide
   · intro hx
     have := hx.2; simp at this
   · intro c hc
     have : c = 48 := (by simpa [dsOf, isNeg] using hc); subst this; unfold Dg.isD; decide
   · decide
 · obtain ⟨a, b, c, d⟩ := rd_ok n.natAbs (by omega)
   rw [itoa_rd n h]
   by_cases hn : n < 0
   · rw [if_pos hn]; exact ⟨c, by rw [d]; omega⟩
   · rw [if_neg hn]; exact ⟨a, by rw [b]; omega⟩
theorem rOf_b (n : Int) (w : World) (hn : I64 n) :
  Calls Tryz.prog 58 #[.int .i64 n] w fun e w' => ∃ b p m cap, e = .returned (.agg #[.bool b, .slice p m cap]) /\ IsN w' (.agg #[.bool b, .slice p m cap]) n /\ Dn w w' := by
 refine (rOf1 n w hn).mono ?_
 rintro e w' ⟨v, rfl, hI, hd⟩
 obtain ⟨b, p, m, cap, rfl⟩ := hI.shape
 exact ⟨b, p, m, cap, rfl, hI, hd⟩
theorem size_itoa (n : Int) (h : I64 n) : (⟨(Lib.itoa n).toArray⟩ : ByteArray).size <= 1000 := by
 have := Lib.itoa_length_le n h.1 h.2
 simp [ByteArray.size]; omega
theorem rParse_yes (s : ByteArray) (w : World) (hs : s.size <= 1000) (hp : pOk s.data.toList) :
   Calls Tryz.prog 146 #[.string s] w fun e w' => ∃ b p n cap, e = .returned (.tuple #[.agg #[.bool b, .slice p n cap], .bool true]) /\ IsN w' (.agg #[.bool b, .slice p n cap]) (pVal s.data.toList) /\ Dn w w' := by
 refine (rParse s w hs).mono ?_
 rintro e w' (⟨_, h⟩ | ⟨h, _⟩)
 · exact h
 · exact absurd hp h
theorem rParse_no (s : ByteArray) (w : World) (hs : s.size <= 1000) (hp : ¬ pOk s.data.toList) :
   Calls Tryz.prog 146 #[.string s] w fun e w' => e = .returned (.tuple #[.agg #[.bool false, .slice none 0 0], .bool false]) /\ Dn w w' := by
 refine (rParse s w hs).mono ?_
 rintro e w' (⟨h, _⟩ | ⟨_, h⟩)
 · exact absurd h hp
 · exact h
theorem pVal_len (s : ByteArray) (hs : s.size <= 1000) (hp : pOk s.data.toList) : (Dg.dl (pVal s.data.toList).natAbs).length <= 1000 := by
 have e : (pVal s.data.toList).natAbs = Dg.nvA 0 (dsOf s.data.toList) := by unfold pVal sg; split <;> omega
 rw [e]
 refine Dg.dl_len ?_
 rw [Dg.nvA_val _ hp.2.2]
 have h := Dg.val_lt (Dg.dv_digs _ hp.2.2)
 have h2 : (dsOf s.data.toList).length <= 1000 := by
  have := len_is s; unfold dsOf
  split <;> simp <;> omega
 have h3 := Dg.p10_mono h2
 simp at h ⊢
 omega
def Fits (z s e : Int) : Prop := (I64 z /\ s = z /\ e = 0) \/ (¬ I64 z /\ s = 0 /\ e = 15)
theorem Fits.i64 {z s e : Int} (h : Fits z s e) : I64 s := by
 rcases h with ⟨h, rfl, _⟩ | ⟨_, rfl, _⟩
 · exact h
 · decide
def Len (z : Int) : Prop := (Dg.dl z.natAbs).length <= 1000
theorem Len.of {z : Int} (h : z.natAbs <= 85070591730234615865843651857942052864) : Len z := by
 unfold Len
 refine Nat.le_trans (Dg.dl_len (k := 39) ?_) (by decide)
 have e : Dg.p10 39 = 1000000000000000000000000000000000000000 := by decide +kernel
 rw [e]; omega
theorem add_any (a b z s e : Int) (w : World) (ha : I64 a) (hb : I64 b) (hz : a + b = z) (hf : Fits z s e) :
   Calls Tryz.prog 57 #[.int .i64 a, .int .i64 b] w fun r w' => r = .returned (.tuple #[.int .i64 s, .int .i64 e]) /\ Up w w' := by
 subst hz
 rcases hf with ⟨h, rfl, rfl⟩ | ⟨h, rfl, rfl⟩
 · exact add_fits a b w ha hb h
 · exact add_over a b w ha hb h
theorem rOf_c (n : Int) (w : World) (hn : I64 n) :
  Calls Tryz.prog 58 #[.int .i64 n] w fun e w' => ∃ b p m cap, e = .returned (.agg #[.bool b, .slice p m cap]) /\ IsN w' (.agg #[.bool b, .slice p m cap]) n /\ Dn w w' := by
 refine (rOf1 n w hn).mono ?_
 rintro e w' ⟨v, rfl, hI, hd⟩
 obtain ⟨b, p, m, cap, rfl⟩ := hI.shape
 exact ⟨b, p, m, cap, rfl, hI, hd⟩
theorem rNeg_c (v : Value) (x : Int) (w : World) (hv : IsN w v x) :
  Calls Tryz.prog 60 #[v] w fun e w' => ∃ b p m cap, e = .returned (.agg #[.bool b, .slice p m cap]) /\ IsN w' (.agg #[.bool b, .slice p m cap]) (-x) /\ Dn w w' := by
 refine (rNeg v x w hv).mono ?_
 rintro e w' ⟨v, rfl, hI, hd⟩
 obtain ⟨b, p, m, cap, rfl⟩ := hI.shape
 exact ⟨b, p, m, cap, rfl, hI.dn hd, hd⟩
theorem rAdd_c (va vb : Value) (x y : Int) (w : World) (hva : IsN w va x) (hvb : IsN w vb y) (hx : Len x) (hy : Len y) :
  Calls Tryz.prog 59 #[va, vb] w fun e w' => ∃ b p m cap, e = .returned (.agg #[.bool b, .slice p m cap]) /\ IsN w' (.agg #[.bool b, .slice p m cap]) (x + y) /\ Dn w w' :=
 (rAdd va vb x y w hva hvb hx hy).mono fun _ _ ⟨b, p, m, cap, he, hI, hd, _⟩ => ⟨b, p, m, cap, he, hI, hd⟩
set_option maxHeartbeats 400000
def c3 (a b : Int) : Int := if a < b then -1 else if b < a then 1 else 0
def eC (i d j f : Int) : Int := if c3 i j ≠ 0 then c3 i j else c3 d f
def eOk (i d : Int) : Prop := i = 0 \/ (i = 1 \/ i = -1) /\ d = 0
instance decEOk (i d : Int) : Decidable (eOk i d) := by unfold eOk; infer_instance
def eErr (i d : Int) : Int := if eOk i d then 0 else 5
theorem c3_lt {a b : Int} (h : a < b) : c3 a b = -1 := by unfold c3; rw [if_pos h]
theorem c3_gt {a b : Int} (h : b < a) : c3 a b = 1 := by unfold c3; rw [if_neg (by omega), if_pos h]
theorem c3_eq (a : Int) : c3 a a = 0 := by unfold c3; simp
theorem isNaN8 (a : Int) (w : World) : Calls Tryz.prog 138 #[.int .i8 a] w fun e w' => e = .returned (.bool false) /\ w = w' := by
 go_enter Tryz.func138, Tryz.ntmps138
 go_wp2_with fail
 go_ret
 exact ⟨retb (by simp), rfl⟩
theorem isNaN64 (a : Int) (w : World) : Calls Tryz.prog 139 #[.int .i64 a] w fun e w' => e = .returned (.bool false) /\ w = w' := by
 go_enter Tryz.func139, Tryz.ntmps139
 go_wp2_with fail
 go_ret
 exact ⟨retb (by simp), rfl⟩
theorem cmp8 (a b : Int) (w : World) : Calls Tryz.prog 106 #[.int .i8 a, .int .i8 b] w fun e w' => e = .returned (.int .i64 (c3 a b)) /\ w = w' := by
 rcases Int.lt_trichotomy a b with h | h | h
 · have d1 : decide (a < b) = true := by simpa using h
   have HC := Lib.hid (c3_lt h); go_enter Tryz.func106, Tryz.ntmps106; go_wp2_with fail; refine (isNaN8 a _).mono ?_; rintro e w1 ⟨rfl, rfl⟩; go_wp2_with fail; refine (isNaN8 b _).mono ?_; rintro e w2 ⟨rfl, rfl⟩; go_wp2_with fail; go_ret; exact ⟨ret1_i HC.out.symm, rfl⟩
 · subst h
   have HC := Lib.hid (c3_eq a)
   have d1 : decide (a < a) = false := by simp
   go_enter Tryz.func106, Tryz.ntmps106; go_wp2_with fail; refine (isNaN8 a _).mono ?_; rintro e w1 ⟨rfl, rfl⟩; go_wp2_with fail; refine (isNaN8 a _).mono ?_; rintro e w2 ⟨rfl, rfl⟩; go_wp2_with fail; go_ret; exact ⟨ret1_i HC.out.symm, rfl⟩
 · have d1 : decide (a < b) = false := by simp; omega
   have d2 : decide (b < a) = true := by simpa using h
   have HC := Lib.hid (c3_gt h); go_enter Tryz.func106, Tryz.ntmps106; go_wp2_with fail; refine (isNaN8 a _).mono ?_; rintro e w1 ⟨rfl, rfl⟩; go_wp2_with fail; refine (isNaN8 b _).mono ?_; rintro e w2 ⟨rfl, rfl⟩; go_wp2_with fail; go_ret; exact ⟨ret1_i HC.out.symm, rfl⟩
theorem cmp64 (a b : Int) (w : World) : Calls Tryz.prog 107 #[.int .i64 a, .int .i64 b] w fun e w' => e = .returned (.int .i64 (c3 a b)) /\ w = w' := by
 rcases Int.lt_trichotomy a b with h | h | h
 · have d1 : decide (a < b) = true := by simpa using h
   have HC := Lib.hid (c3_lt h); go_enter Tryz.func107, Tryz.ntmps107; go_wp2_with fail; refine (isNaN64 a _).mono ?_; rintro e w1 ⟨rfl, rfl⟩; go_wp2_with fail; refine (isNaN64 b _).mono ?_; rintro e w2 ⟨rfl, rfl⟩; go_wp2_with fail; go_ret; exact ⟨ret1_i HC.out.symm, rfl⟩
 · subst h
   have HC := Lib.hid (c3_eq a)
   have d1 : decide (a < a) = false := by simp
   go_enter Tryz.func107, Tryz.ntmps107; go_wp2_with fail; refine (isNaN64 a _).mono ?_; rintro e w1 ⟨rfl, rfl⟩; go_wp2_with fail; refine (isNaN64 a _).mono ?_; rintro e w2 ⟨rfl, rfl⟩; go_wp2_with fail; go_ret; exact ⟨ret1_i HC.out.symm, rfl⟩
 · have d1 : decide (a < b) = false := by simp; omega
   have d2 : decide (b < a) = true := by simpa using h
   have HC := Lib.hid (c3_gt h); go_enter Tryz.func107, Tryz.ntmps107; go_wp2_with fail; refine (isNaN64 a _).mono ?_; rintro e w1 ⟨rfl, rfl⟩; go_wp2_with fail; refine (isNaN64 b _).mono ?_; rintro e w2 ⟨rfl, rfl⟩; go_wp2_with fail; go_ret; exact ⟨ret1_i HC.out.symm, rfl⟩
def or2 (x y : Int) : Int := if x ≠ 0 then x else y
theorem cmpOr (B : Nat) (x y : Int) (w : World) (h0 : w.cell? ⟨B, 0, none⟩ = some (.int .i64 x)) (h1 : w.cell? ⟨B, 1, none⟩ = some (.int .i64 y)) :
  Calls Tryz.prog 87 #[.slice (some ⟨B, 0, none⟩) 2 2] w fun e w' => e = .returned (.int .i64 (or2 x y)) /\ w = w' := by
 go_enter Tryz.func87, Tryz.ntmps87
 go_wp2_with fail
 go_loop [8] (fun kv => ∃ k : Int, 0 <= k /\ k <= 2 /\ kv = .int .i64 k /\ (1 <= k -> x = 0) /\ (2 <= k -> y = 0)) (fun kv => (2 - intOf kv).toNat)
 case atStart => exact ⟨0, by omega, by omega, rfl, by omega, by omega⟩
 case round =>
  obtain ⟨k, k0, k2, rfl, hx, hy⟩ := hrel
  have hk : k = 0 \/ k = 1 \/ k = 2 := by omega
  clear k0 k2; rcases hk with rfl | rfl | rfl
  · clear hx hy
    by_cases hx : x = 0
    · subst hx
      go_wp2_with fail; go_round
      case rel => exact ⟨1, by omega, by omega, rfl, by intros; trivial, by omega⟩
      case measure => simp [intOf]
    · have d : (x != 0) = true := by simpa using hx
      have HC := Lib.hid (show or2 x y = x by unfold or2; rw [if_pos hx]); go_wp2_with fail; go_ret; exact ⟨ret1_i HC.out.symm, rfl⟩
  · obtain rfl := hx (by omega)
    clear hx hy
    by_cases hy : y = 0
    · subst hy
      go_wp2_with fail; go_round
      case rel => exact ⟨2, by omega, by omega, rfl, by intros; trivial, by intros; trivial⟩
      case measure => simp [intOf]
    · have d : (y != 0) = true := by simpa using hy
      have HC := Lib.hid (show or2 0 y = y by unfold or2; rw [if_neg (by simp)]); go_wp2_with fail; go_ret; exact ⟨ret1_i HC.out.symm, rfl⟩
  · obtain rfl := hx (by omega)
    obtain rfl := hy (by omega); clear hx hy; have HC := Lib.hid (show or2 0 0 = 0 by decide); go_wp2_with fail; go_ret; exact ⟨ret1_i HC.out.symm, rfl⟩
set_option maxHeartbeats 1000000
theorem eErr_ok {i d : Int} (h : eOk i d) : eErr i d = 0 := by unfold eErr; rw [if_pos h]
theorem eErr_bad {i d : Int} (h : ¬ eOk i d) : eErr i d = 5 := by unfold eErr; rw [if_neg h]
theorem eChk (i d : Int) (w : World) : Calls Tryz.prog 83 #[.agg #[.int .i8 i, .int .i64 d]] w fun e w' => e = .returned (.int .i64 (eErr i d)) /\ Up w w' := by
 by_cases h0 : i = 0
 · subst h0
   have HE := Lib.hid (eErr_ok (i := 0) (d := d) (Or.inl rfl)); go_enter Tryz.func83, Tryz.ntmps83; go_wp2_with fail; go_ret; exact ⟨ret1_i HE.out.symm, (Up.refl _).alloc _⟩
 · have c0 : (i == 0) = false := by simpa using h0
   by_cases h1 : i = 1
   · subst h1
     by_cases hd : d = 0
     · subst hd
       have HE := Lib.hid (eErr_ok (i := 1) (d := 0) (Or.inr ⟨Or.inl rfl, rfl⟩)); go_enter Tryz.func83, Tryz.ntmps83; go_wp2_with fail; go_ret; exact ⟨ret1_i HE.out.symm, (Up.refl _).alloc _⟩
     · have c1 : (d == 0) = false := by simpa using hd
       have HE := Lib.hid (eErr_bad (i := 1) (d := d) (by unfold eOk; omega)); go_enter Tryz.func83, Tryz.ntmps83; go_wp2_with fail; go_ret; exact ⟨ret1_i HE.out.symm, (Up.refl _).alloc _⟩
   · have c1 : (i == 1) = false := by simpa using h1
     by_cases h2 : i = -1
     · subst h2
       by_cases hd : d = 0
       · subst hd
         have HE := Lib.hid (eErr_ok (i := -1) (d := 0) (Or.inr ⟨Or.inr rfl, rfl⟩)); go_enter Tryz.func83, Tryz.ntmps83; go_wp2_with fail; go_ret; exact ⟨ret1_i HE.out.symm, (Up.refl _).alloc _⟩
       · have c2 : (d == 0) = false := by simpa using hd
         have HE := Lib.hid (eErr_bad (i := -1) (d := d) (by unfold eOk; omega)); go_enter Tryz.func83, Tryz.ntmps83; go_wp2_with fail; go_ret; exact ⟨ret1_i HE.out.symm, (Up.refl _).alloc _⟩
     · have c2 : (i == -1) = false := by simpa using h2
       have HE := Lib.hid (eErr_bad (i := i) (d := d) (by unfold eOk; omega)); go_enter Tryz.func83, Tryz.ntmps83; go_wp2_with fail; go_ret; exact ⟨ret1_i HE.out.symm, (Up.refl _).alloc _⟩
theorem rChk8 (i d : Int) (w : World) : Calls Tryz.prog 88 #[.agg #[.int .i8 i, .int .i64 d]] w fun e w' => e = .returned (.int .i64 (eErr i d)) /\ Up w w' := by
 by_cases h0 : i = 0
 · subst h0
   have HE := Lib.hid (eErr_ok (i := 0) (d := d) (Or.inl rfl)); go_enter Tryz.func88, Tryz.ntmps88; go_wp2_with fail; go_ret; exact ⟨ret1_i HE.out.symm, (Up.refl _).alloc _⟩
 · have c0 : (i == 0) = false := by simpa using h0
   by_cases hd : d = 0
   · subst hd
     by_cases h1 : i = 1
     · subst h1
       have HE := Lib.hid (eErr_ok (i := 1) (d := 0) (Or.inr ⟨Or.inl rfl, rfl⟩)); go_enter Tryz.func88, Tryz.ntmps88; go_wp2_with fail; go_ret; exact ⟨ret1_i HE.out.symm, (Up.refl _).alloc _⟩
     · have c1 : (i == 1) = false := by simpa using h1
       by_cases h2 : i = -1
       · subst h2
         have HE := Lib.hid (eErr_ok (i := -1) (d := 0) (Or.inr ⟨Or.inr rfl, rfl⟩)); go_enter Tryz.func88, Tryz.ntmps88; go_wp2_with fail; go_ret; exact ⟨ret1_i HE.out.symm, (Up.refl _).alloc _⟩
       · have c2 : (i == -1) = false := by simpa using h2
         have HE := Lib.hid (eErr_bad (i := i) (d := 0) (by unfold eOk; omega)); go_enter Tryz.func88, Tryz.ntmps88; go_wp2_with fail; go_ret; exact ⟨ret1_i HE.out.symm, (Up.refl _).alloc _⟩
   · have c3 : (d == 0) = false := by simpa using hd
     have HE := Lib.hid (eErr_bad (i := i) (d := d) (by unfold eOk; omega))
     by_cases h1 : i = 1
     · subst h1
       go_enter Tryz.func88, Tryz.ntmps88; go_wp2_with fail; go_ret; exact ⟨ret1_i HE.out.symm, (Up.refl _).alloc _⟩
     · have c1 : (i == 1) = false := by simpa using h1
       by_cases h2 : i = -1
       · subst h2
         go_enter Tryz.func88, Tryz.ntmps88; go_wp2_with fail; go_ret; exact ⟨ret1_i HE.out.symm, (Up.refl _).alloc _⟩
       · have c2 : (i == -1) = false := by simpa using h2
         go_enter Tryz.func88, Tryz.ntmps88; go_wp2_with fail; go_ret; exact ⟨ret1_i HE.out.symm, (Up.refl _).alloc _⟩
theorem eOf (d : Int) (w : World) : Calls Tryz.prog 93 #[.int .i64 d] w fun e w' => e = .returned (.agg #[.int .i8 0, .int .i64 d]) /\ Up w w' := by
 go_enter Tryz.func93, Tryz.ntmps93
 go_wp2_with fail
 exact bodyPost_ret (v := .agg #[.int .i8 0, .int .i64 d]) (by simp [results, Tryz.results93, go_sem]) rfl ⟨rfl, (Up.refl _).alloc _⟩
theorem kE2 {W w1 w2 : World} {a0 a1 a2 a3 : Addr} {v0 v1 v2 v3 : Value} (k : Up w1 w2) (h : Up W w1 /\ w1.cell? a0 = some v0 /\ w1.cell? a1 = some v1 /\ w1.cell? a2 = some v2 /\ w1.cell? a3 = some v3) :
  Up W w2 /\ w2.cell? a0 = some v0 /\ w2.cell? a1 = some v1 /\ w2.cell? a2 = some v2 /\ w2.cell? a3 = some v3 := by
 obtain ⟨h1, c0, c1, c2, c3⟩ := h
 exact ⟨h1.trans k, k.cell c0, k.cell c1, k.cell c2, k.cell c3⟩
theorem eCmp (i d j f : Int) (w : World) : Calls Tryz.prog 66 #[.agg #[.int .i8 i, .int .i64 d], .agg #[.int .i8 j, .int .i64 f]] w fun e w' => e = .returned (.int .i64 (eC i d j f)) /\ Up w w' := by
 obtain ⟨W, hW⟩ : ∃ W, W = (w.alloc (.cells #[.int .i8 i, .int .i64 d] 41)).alloc (.cells #[.int .i8 j, .int .i64 f] 41) := ⟨_, rfl⟩
 have u : Up w W := by rw [hW]; exact ((Up.refl _).alloc _).alloc _
 have c0 : W.cell? ⟨w.heap.size, 0, none⟩ = some (.int .i8 i) := by rw [hW]; simp [go_sem]
 have c1 : W.cell? ⟨w.heap.size, 1, none⟩ = some (.int .i64 d) := by rw [hW]; simp [go_sem]
 have c2 : W.cell? ⟨w.heap.size + 1, 0, none⟩ = some (.int .i8 j) := by rw [hW]; simp [go_sem]
 have c3' : W.cell? ⟨w.heap.size + 1, 1, none⟩ = some (.int .i64 f) := by rw [hW]; simp [go_sem]
 have hS := kE2 (W := W) (Up.refl W) ⟨Up.refl _, c0, c1, c2, c3'⟩
 have HW := Lib.hid hW
 have HC := Lib.hid (show or2 (c3 i j) (c3 d f) = eC i d j f from rfl)
 clear hW c0 c1 c2 c3'
 go_enter Tryz.func66, Tryz.ntmps66
 go_wp2_with fail
 rw [<- HW.out]
 clear HW
 go_region_held3 (fun w' => Up W w' /\ w'.cell? ⟨w.heap.size, 0, none⟩ = some (.int .i8 i) /\ w'.cell? ⟨w.heap.size, 1, none⟩ = some (.int .i64 d) /\ w'.cell? ⟨w.heap.size + 1, 0, none⟩ = some (.int .i8 j) /\ w'.cell? ⟨w.heap.size + 1, 1, none⟩ = some (.int .i64 f))
  (first | exact kE2 ((Up.refl _).drew) hS | exact kE2 (((Up.refl _).alloc _).drew) hS | assumption)
  (first | (go_at_call 106; refine (cmp8 _ _ _).mono ?_; rintro e wa ⟨rfl, rfl⟩) | (go_at_call 107; refine (cmp64 _ _ _).mono ?_; rintro e wa ⟨rfl, rfl⟩) | (go_at_call 87; refine (cmpOr _ (c3 i j) (c3 d f) _ ?_ ?_).mono ?_; (simp [go_sem]); (simp [go_sem]); rintro e wa ⟨rfl, rfl⟩))
 all_goals
  clear hS; go_wp2_with fail; go_ret; exact ⟨ret1_i HC.out, u.trans (((Up.refl _).alloc _).drew)⟩
theorem eC_lt1 {i d j f : Int} (h : i < j) : eC i d j f = -1 := by unfold eC; rw [c3_lt h]; simp
theorem eC_gt1 {i d j f : Int} (h : j < i) : eC i d j f = 1 := by unfold eC; rw [c3_gt h]; simp
theorem eC_eq1 (i d f : Int) : eC i d i f = c3 d f := by unfold eC; rw [c3_eq]; simp
theorem rCmp8 (i d j f : Int) (w : World) : Calls Tryz.prog 48 #[.agg #[.int .i8 i, .int .i64 d], .agg #[.int .i8 j, .int .i64 f]] w fun e w' => e = .returned (.int .i64 (eC i d j f)) /\ Up w w' := by
 rcases Int.lt_trichotomy i j with h | h | h
 · have d1 : decide (i < j) = true := by simpa using h
   have HC := Lib.hid (eC_lt1 (d := d) (f := f) h); clear h; go_enter Tryz.func48, Tryz.ntmps48; go_wp2_with fail; go_ret; exact ⟨ret1_i HC.out.symm, ((Up.refl _).alloc _).alloc _⟩
 · subst h
   have e0 := eC_eq1 i d f
   have d0 : decide (i < i) = false := by simp
   rcases Int.lt_trichotomy d f with h | h | h
   · have d1 : decide (d < f) = true := by simpa using h
     have HC := Lib.hid (e0.trans (c3_lt h)); clear h e0; go_enter Tryz.func48, Tryz.ntmps48; go_wp2_with fail; go_ret; exact ⟨ret1_i HC.out.symm, ((Up.refl _).alloc _).alloc _⟩
   · subst h
     have HC := Lib.hid (e0.trans (c3_eq d)); have d1 : decide (d < d) = false := (by simp); clear e0; go_enter Tryz.func48, Tryz.ntmps48; go_wp2_with fail; go_ret; exact ⟨ret1_i HC.out.symm, ((Up.refl _).alloc _).alloc _⟩
   · have d1 : decide (d < f) = false := by simp; omega
     have d2 : decide (f < d) = true := (by simpa using h); have HC := Lib.hid (e0.trans (c3_gt h)); clear h e0; go_enter Tryz.func48, Tryz.ntmps48; go_wp2_with fail; go_ret; exact ⟨ret1_i HC.out.symm, ((Up.refl _).alloc _).alloc _⟩
 · have d1 : decide (i < j) = false := by simp; omega
   have d2 : decide (j < i) = true := by simpa using h
   have HC := Lib.hid (eC_gt1 (d := d) (f := f) h); clear h; go_enter Tryz.func48, Tryz.ntmps48; go_wp2_with fail; go_ret; exact ⟨ret1_i HC.out.symm, ((Up.refl _).alloc _).alloc _⟩
def key (i d : Int) : Int := 36893488147419103232 * i + d
theorem eC_key {i d j f : Int} (hd : I64 d) (hf : I64 f) : eC i d j f = c3 (key i d) (key j f) := by
 unfold I64 at *
 unfold eC c3 key
 repeat' split
 all_goals omega
theorem eC_le {i d j f : Int} (hd : I64 d) (hf : I64 f) : eC i d j f <= 0 ↔ key i d <= key j f := by
 rw [eC_key hd hf]; unfold c3; repeat' split
 all_goals omega
theorem eC_lt {i d j f : Int} (hd : I64 d) (hf : I64 f) : eC i d j f < 0 ↔ key i d < key j f := by
 rw [eC_key hd hf]; unfold c3; repeat' split
 all_goals omega
theorem eC_gt {i d j f : Int} (hd : I64 d) (hf : I64 f) : 0 < eC i d j f ↔ key j f < key i d := by
 rw [eC_key hd hf]; unfold c3; repeat' split
 all_goals omega
theorem key_inj {i d j f : Int} (hd : I64 d) (hf : I64 f) : key i d = key j f ↔ i = j /\ d = f := by
 unfold I64 at *
 unfold key
 omega
def rnErr (a b c d : Int) : Int := if ¬ (eOk a b /\ eOk c d) then 5 else if 0 < a \/ c < 0 then 4 else if 0 < eC a b c d then 12 else 0
def RnOk (a b c d : Int) : Prop := eOk a b /\ eOk c d /\ a <= 0 /\ 0 <= c /\ key a b <= key c d
instance decRnOk (a b c d : Int) : Decidable (RnOk a b c d) := by unfold RnOk; infer_instance
theorem rnErr_ok {a b c d : Int} (hb : I64 b) (hd : I64 d) : rnErr a b c d = 0 ↔ RnOk a b c d := by
 have h := eC_gt (i := a) (j := c) hb hd
 unfold rnErr RnOk
 by_cases h1 : eOk a b /\ eOk c d
 · rw [if_neg (by simpa using h1)]
   by_cases h2 : 0 < a \/ c < 0
   · rw [if_pos h2]; constructor
     · intro h; cases h
     · rintro ⟨_, _, _, _, _⟩; omega
   · rw [if_neg h2]
     by_cases h3 : 0 < eC a b c d
     · rw [if_pos h3]; constructor
       · intro h; cases h
       · rintro ⟨_, _, _, _, _⟩; omega
     · rw [if_neg h3]; simp only [true_iff]; exact ⟨h1.1, h1.2, by omega, by omega, by omega⟩
 · rw [if_pos h1]; constructor
   · intro h; cases h
   · rintro ⟨h2, h3, _⟩; exact absurd ⟨h2, h3⟩ h1
def mnI (i d j f : Int) : Int := if eC j f i d < 0 then j else i
def mnD (i d j f : Int) : Int := if eC j f i d < 0 then f else d
def mxI (i d j f : Int) : Int := if 0 < eC j f i d then j else i
def mxD (i d j f : Int) : Int := if 0 < eC j f i d then f else d
theorem mn_i64 {i d j f : Int} (hd : I64 d) (hf : I64 f) : I64 (mnD i d j f) := by unfold mnD; split <;> assumption
theorem mx_i64 {i d j f : Int} (hd : I64 d) (hf : I64 f) : I64 (mxD i d j f) := by unfold mxD; split <;> assumption
theorem mn_key {i d j f : Int} (hd : I64 d) (hf : I64 f) : key (mnI i d j f) (mnD i d j f) = min (key i d) (key j f) := by
 have h := eC_lt (i := j) (j := i) hf hd
 unfold mnI mnD
 by_cases hc : eC j f i d < 0
 · rw [if_pos hc, if_pos hc]; omega
 · rw [if_neg hc, if_neg hc]; omega
theorem mx_key {i d j f : Int} (hd : I64 d) (hf : I64 f) : key (mxI i d j f) (mxD i d j f) = max (key i d) (key j f) := by
 have h := eC_gt (i := j) (j := i) hf hd
 unfold mxI mxD
 by_cases hc : 0 < eC j f i d
 · rw [if_pos hc, if_pos hc]; omega
 · rw [if_neg hc, if_neg hc]; omega
def Wi (a b c d e f g h : Int) : Prop := RnOk a b c d /\ RnOk e f g h /\ key e f <= key a b /\ key c d <= key g h
def Tch (a b c d e f g h : Int) : Prop := RnOk a b c d /\ RnOk e f g h /\ key e f <= key c d + 1 /\ key a b <= key g h + 1
def Meet (a b c d e f g h : Int) : Prop := RnOk a b c d /\ RnOk e f g h /\ key e f <= key c d /\ key a b <= key g h
instance decWi (a b c d e f g h : Int) : Decidable (Wi a b c d e f g h) := by unfold Wi; infer_instance
instance decTch (a b c d e f g h : Int) : Decidable (Tch a b c d e f g h) := by unfold Tch; infer_instance
instance decMeet (a b c d e f g h : Int) : Decidable (Meet a b c d e f g h) := by unfold Meet; infer_instance
theorem mn_ok {i d j f : Int} (h : eOk i d) (k : eOk j f) : eOk (mnI i d j f) (mnD i d j f) := by unfold mnI mnD; split <;> assumption
theorem mx_ok {i d j f : Int} (h : eOk i d) (k : eOk j f) : eOk (mxI i d j f) (mxD i d j f) := by unfold mxI mxD; split <;> assumption
theorem common_ok {a b c d e f g h : Int} (hb : I64 b) (hd : I64 d) (hf : I64 f) (hh : I64 h) (h1 : RnOk a b c d) (h2 : RnOk e f g h) :
   RnOk (mxI a b e f) (mxD a b e f) (mnI c d g h) (mnD c d g h) ↔ Meet a b c d e f g h := by
 have k1 := mx_key (i := a) (j := e) hb hf
 have k2 := mn_key (i := c) (j := g) hd hh
 unfold Meet
 constructor
 · rintro ⟨_, _, _, _, hk⟩
   rw [k1, k2] at hk; have := h1.2.2.2.2; have := h2.2.2.2.2; exact ⟨h1, h2, by omega, by omega⟩
 · rintro ⟨_, _, _, _⟩
   refine ⟨mx_ok h1.1 h2.1, mn_ok h1.2.1 h2.2.1, ?_, ?_, ?_⟩
   · have := h1.2.2.1; have := h2.2.2.1; unfold mxI; split <;> assumption
   · have := h1.2.2.2.1; have := h2.2.2.2.1; unfold mnI; split <;> assumption
   · rw [k1, k2]
     have := h1.2.2.2.2; have := h2.2.2.2.2; omega
set_option maxHeartbeats 4000000
structure CB (w : World) (B : Nat) (u v : Value) : Prop where
 c0 : w.cell? ⟨B, 0, none⟩ = some u
 c1 : w.cell? ⟨B, 1, none⟩ = some v
 f0 : w.frozen? ⟨B, 0, none⟩ = false
 f1 : w.frozen? ⟨B, 1, none⟩ = false
 lt : B < w.heap.size
theorem CB.dn {w w' : World} {B : Nat} {u v : Value} (h : CB w B u v) (k : Dn w w') : CB w' B u v :=
 ⟨k.cell h.c0, k.cell h.c1, by rw [k.frozen h.lt]; exact h.f0, by rw [k.frozen h.lt]; exact h.f1, Nat.lt_of_lt_of_le h.lt k.size⟩
theorem CB.up {w w' : World} {B : Nat} {u v : Value} (h : CB w B u v) (k : Up w w') : CB w' B u v := h.dn k.dn
theorem CB.alloc {w : World} {B : Nat} {u v : Value} (h : CB w B u v) (o : Obj) : CB (w.alloc o) B u v := h.dn ((Dn.refl _).alloc o)
theorem CB.drew {w : World} {B : Nat} {u v : Value} (h : CB w B u v) : CB w.drew B u v := h.dn (Dn.refl _).drew
theorem CB.new (w : World) (u v : Value) (t : TypeId) : CB (w.alloc (.cells #[u, v] t)) w.heap.size u v := by
 refine ⟨?_, ?_, ?_, ?_, ?_⟩ <;> simp [go_sem]
theorem CB.new1 (w : World) (o : Obj) (u v : Value) (t : TypeId) : CB ((w.alloc o).alloc (.cells #[u, v] t)) (w.heap.size + 1) u v := by
 have := CB.new (w.alloc o) u v t
 simpa using this
theorem CB.new2 (w : World) (o o2 : Obj) (u v : Value) (t : TypeId) : CB (((w.alloc o).alloc o2).alloc (.cells #[u, v] t)) (w.heap.size + 1 + 1) u v := by
 have := CB.new ((w.alloc o).alloc o2) u v t
 simpa using this
def Mv (i d k i' d' e : Int) : Prop := (¬ eOk i d /\ i' = 0 /\ d' = 0 /\ e = 5) \/ (eOk i d /\ i ≠ 0 /\ i' = i /\ d' = d /\ e = 0) \/ (i = 0 /\ i' = 0 /\ Fits (d + k) d' e)
theorem eChk_ok (i d : Int) (w : World) (h : eOk i d) : Calls Tryz.prog 83 #[.agg #[.int .i8 i, .int .i64 d]] w fun e w' => e = .returned (.int .i64 0) /\ Up w w' := by
 have := eChk i d w; rwa [eErr_ok h] at this
theorem eChk_bad (i d : Int) (w : World) (h : ¬ eOk i d) : Calls Tryz.prog 83 #[.agg #[.int .i8 i, .int .i64 d]] w fun e w' => e = .returned (.int .i64 5) /\ Up w w' := by
 have := eChk i d w; rwa [eErr_bad h] at this
theorem rChk8_ok (i d : Int) (w : World) (h : eOk i d) : Calls Tryz.prog 88 #[.agg #[.int .i8 i, .int .i64 d]] w fun e w' => e = .returned (.int .i64 0) /\ Up w w' := by
 have := rChk8 i d w; rwa [eErr_ok h] at this
theorem rChk8_bad (i d : Int) (w : World) (h : ¬ eOk i d) : Calls Tryz.prog 88 #[.agg #[.int .i8 i, .int .i64 d]] w fun e w' => e = .returned (.int .i64 5) /\ Up w w' := by
 have := rChk8 i d w; rwa [eErr_bad h] at this
set_option linter.unusedSimpArgs false in
theorem eMoved (i d k i' d' r : Int) (w : World) (hd : I64 d) (hk : I64 k) (h : Mv i d k i' d' r) :
   Calls Tryz.prog 127 #[.agg #[.int .i8 i, .int .i64 d], .int .i64 k] w fun e w' => e = .returned (.tuple #[.agg #[.int .i8 i', .int .i64 d'], .int .i64 r]) /\ Up w w' := by
 have b0 := (CB.new w (.int .i8 i) (.int .i64 d) 41).alloc (.cells #[.int .i8 0, .int .i64 0] 41)
 have b1 := CB.new1 w (.cells #[.int .i8 i, .int .i64 d] 41) (.int .i8 0) (.int .i64 0) 41
 have u0 : Up w _ := ((Up.refl w).alloc (.cells #[.int .i8 i, .int .i64 d] 41)).alloc (.cells #[.int .i8 0, .int .i64 0] 41)
 have B0 := Lib.hid b0
 have B1 := Lib.hid b1
 have U0 := Lib.hid u0
 clear b0 b1 u0
 rcases h with ⟨h, rfl, rfl, rfl⟩ | ⟨h, h0, rfl, rfl, rfl⟩ | ⟨rfl, rfl, hf⟩
 · have HE := Lib.hid (fun W => eChk_bad i d W h)
   clear h; go_enter Tryz.func127, Tryz.ntmps127; go_wp2_with fail; refine (HE.out _).mono ?_; rintro e w1 ⟨rfl, q1⟩; obtain ⟨c0, c1, f0, f1, l0⟩ := B0.out.up q1; obtain ⟨c2, c3, f2, f3, l1⟩ := B1.out.up q1; have u1 := U0.out.trans q1; clear q1; go_wp2_with fail; exact bodyPost_ret (v := .tuple #[.agg #[.int .i8 0, .int .i64 0], .int .i64 5]) (by simp [results, Tryz.results127, go_sem, c0, c1, c2, c3, f0, f1, f2, f3] <;> omega) rfl ⟨rfl, ((((u1.sC).sC).sC).sC)⟩
 · have HE := Lib.hid (fun W => eChk_ok _ _ W h)
   have n0 : (i' != 0) = true := by simpa using h0
   clear h h0; go_enter Tryz.func127, Tryz.ntmps127; go_wp2_with fail; refine (HE.out _).mono ?_; rintro e w1 ⟨rfl, q1⟩; obtain ⟨c0, c1, f0, f1, l0⟩ := B0.out.up q1; obtain ⟨c2, c3, f2, f3, l1⟩ := B1.out.up q1; have u1 := U0.out.trans q1; clear q1; go_wp2_with fail; exact bodyPost_ret (v := .tuple #[.agg #[.int .i8 _, .int .i64 _], .int .i64 0]) (by simp [results, Tryz.results127, go_sem, c0, c1, c2, c3, f0, f1, f2, f3] <;> omega) rfl ⟨rfl, ((u1.sC).sC)⟩
 · have HE := Lib.hid (fun W => eChk_ok 0 d W (Or.inl rfl))
   have HA := Lib.hid (fun W => add_any d k _ d' r W hd hk rfl hf); clear hf; go_enter Tryz.func127, Tryz.ntmps127; go_wp2_with fail; refine (HE.out _).mono ?_; rintro e w1 ⟨rfl, q1⟩; have k0 := B0.out.up q1; have k1 := B1.out.up q1; have u1 := U0.out.trans q1; clear q1; have K0 := Lib.hid k0; have K1 := Lib.hid k1; obtain ⟨c0, c1, _, _, _⟩ := k0; clear k1; go_wp2_with fail; refine (HA.out _).mono ?_; rintro e w2 ⟨rfl, q2⟩; go_wp2_with fail; refine (eOf d' _).mono ?_; rintro e w3 ⟨rfl, q3⟩; have u3 := (u1.trans q2).trans q3; obtain ⟨c2, c3, f2, f3, l1⟩ := (K1.out.up q2).up q3; clear q2 q3 u1 c0 c1; go_wp2_with fail; exact bodyPost_ret (v := .tuple #[.agg #[.int .i8 0, .int .i64 d'], .int .i64 r]) (by simp [results, Tryz.results127, go_sem, c2, c3, f2, f3] <;> omega) rfl ⟨rfl, ((u3.sC).sC)⟩
set_option linter.unusedSimpArgs false in
theorem eNext (i d i' d' r : Int) (w : World) (hd : I64 d) (h : Mv i d 1 i' d' r) :
  Calls Tryz.prog 90 #[.agg #[.int .i8 i, .int .i64 d]] w fun e w' => e = .returned (.tuple #[.agg #[.int .i8 i', .int .i64 d'], .int .i64 r]) /\ Up w w' := by
 have b1 := CB.new1 w (.cells #[.int .i8 i, .int .i64 d] 41) (.int .i8 0) (.int .i64 0) 41
 have u0 : Up w _ := ((Up.refl w).alloc (.cells #[.int .i8 i, .int .i64 d] 41)).alloc (.cells #[.int .i8 0, .int .i64 0] 41)
 have B1 := Lib.hid b1
 have U0 := Lib.hid u0
 have HM := Lib.hid (fun W => eMoved i d 1 i' d' r W hd (by decide) h)
 clear b1 u0 h
 go_enter Tryz.func90, Tryz.ntmps90
 go_wp2_with fail
 refine (HM.out _).mono ?_
 rintro e w1 ⟨rfl, q1⟩
 obtain ⟨c2, c3, f2, f3, l1⟩ := B1.out.up q1
 have u1 := U0.out.trans q1
 clear q1
 go_wp2_with fail
 exact bodyPost_ret (v := .tuple #[.agg #[.int .i8 i', .int .i64 d'], .int .i64 r]) (by simp [results, Tryz.results90, go_sem, c2, c3, f2, f3] <;> omega) rfl ⟨rfl, ((u1.sC).sC)⟩
set_option linter.unusedSimpArgs false in
theorem ePrev (i d i' d' r : Int) (w : World) (hd : I64 d) (h : Mv i d (-1) i' d' r) :
  Calls Tryz.prog 94 #[.agg #[.int .i8 i, .int .i64 d]] w fun e w' => e = .returned (.tuple #[.agg #[.int .i8 i', .int .i64 d'], .int .i64 r]) /\ Up w w' := by
 have b1 := CB.new1 w (.cells #[.int .i8 i, .int .i64 d] 41) (.int .i8 0) (.int .i64 0) 41
 have u0 : Up w _ := ((Up.refl w).alloc (.cells #[.int .i8 i, .int .i64 d] 41)).alloc (.cells #[.int .i8 0, .int .i64 0] 41)
 have B1 := Lib.hid b1
 have U0 := Lib.hid u0
 have HM := Lib.hid (fun W => eMoved i d (-1) i' d' r W hd (by decide) h)
 clear b1 u0 h
 go_enter Tryz.func94, Tryz.ntmps94
 go_wp2_with fail
 refine (HM.out _).mono ?_
 rintro e w1 ⟨rfl, q1⟩
 obtain ⟨c2, c3, f2, f3, l1⟩ := B1.out.up q1
 have u1 := U0.out.trans q1
 clear q1
 go_wp2_with fail
 exact bodyPost_ret (v := .tuple #[.agg #[.int .i8 i', .int .i64 d'], .int .i64 r]) (by simp [results, Tryz.results94, go_sem, c2, c3, f2, f3] <;> omega) rfl ⟨rfl, ((u1.sC).sC)⟩
set_option linter.unusedSimpArgs false in
theorem rNext8 (i d i' d' r : Int) (w : World) (hd : I64 d) (h : Mv i d 1 i' d' r) :
   Calls Tryz.prog 112 #[.agg #[.int .i8 i, .int .i64 d]] w fun e w' => e = .returned (.tuple #[.agg #[.int .i8 i', .int .i64 d'], .int .i64 r]) /\ Up w w' := by
 have b0 := (CB.new w (.int .i8 i) (.int .i64 d) 41).alloc (.cells #[.int .i8 0, .int .i64 0] 41)
 have b1 := CB.new1 w (.cells #[.int .i8 i, .int .i64 d] 41) (.int .i8 0) (.int .i64 0) 41
 have u0 : Up w _ := ((Up.refl w).alloc (.cells #[.int .i8 i, .int .i64 d] 41)).alloc (.cells #[.int .i8 0, .int .i64 0] 41)
 have B0 := Lib.hid b0
 have B1 := Lib.hid b1
 have U0 := Lib.hid u0
 clear b0 b1 u0
 rcases h with ⟨h, rfl, rfl, rfl⟩ | ⟨h, h0, rfl, rfl, rfl⟩ | ⟨rfl, rfl, hf⟩
 · have HE := Lib.hid (fun W => rChk8_bad i d W h)
   clear h; go_enter Tryz.func112, Tryz.ntmps112; go_wp2_with fail; refine (HE.out _).mono ?_; rintro e w1 ⟨rfl, q1⟩; obtain ⟨c0, c1, f0, f1, l0⟩ := B0.out.up q1; obtain ⟨c2, c3, f2, f3, l1⟩ := B1.out.up q1; have u1 := U0.out.trans q1; clear q1; go_wp2_with fail; exact bodyPost_ret (v := .tuple #[.agg #[.int .i8 0, .int .i64 0], .int .i64 5]) (by simp [results, Tryz.results112, go_sem, c0, c1, c2, c3, f0, f1, f2, f3] <;> omega) rfl ⟨rfl, ((u1.sC).sC)⟩
 · have HE := Lib.hid (fun W => rChk8_ok _ _ W h)
   have n0 : (i' != 0) = true := by simpa using h0
   clear h h0; go_enter Tryz.func112, Tryz.ntmps112; go_wp2_with fail; refine (HE.out _).mono ?_; rintro e w1 ⟨rfl, q1⟩; obtain ⟨c0, c1, f0, f1, l0⟩ := B0.out.up q1; obtain ⟨c2, c3, f2, f3, l1⟩ := B1.out.up q1; have u1 := U0.out.trans q1; clear q1; go_wp2_with fail; exact bodyPost_ret (v := .tuple #[.agg #[.int .i8 _, .int .i64 _], .int .i64 0]) (by simp [results, Tryz.results112, go_sem, c0, c1, c2, c3, f0, f1, f2, f3] <;> omega) rfl ⟨rfl, ((u1.sC).sC)⟩
 · have HE := Lib.hid (fun W => rChk8_ok 0 d W (Or.inl rfl))
   obtain ⟨hd1, hd2⟩ := hd; rcases hf with ⟨hi, rfl, rfl⟩ | ⟨hi, rfl, rfl⟩
   · have n0 : (d == 9223372036854775807) = false := by unfold I64 at hi; simp; omega
     obtain ⟨hi1, hi2⟩ := hi; go_enter Tryz.func112, Tryz.ntmps112; go_wp2_with fail; refine (HE.out _).mono ?_; rintro e w1 ⟨rfl, q1⟩; obtain ⟨c0, c1, f0, f1, l0⟩ := B0.out.up q1; obtain ⟨c2, c3, f2, f3, l1⟩ := B1.out.up q1; have u1 := U0.out.trans q1; clear q1; go_wp2_with fail; exact bodyPost_ret (v := .tuple #[.agg #[.int .i8 0, .int .i64 (d + 1)], .int .i64 0]) (by simp [results, Tryz.results112, go_sem, c0, c1, c2, c3, f0, f1, f2, f3] <;> omega) rfl ⟨rfl, ((u1.sC).sC)⟩
   · have hl : d = 9223372036854775807 := by unfold I64 at hi; omega
     clear hi hd1 hd2; subst hl; go_enter Tryz.func112, Tryz.ntmps112; go_wp2_with fail; refine (HE.out _).mono ?_; rintro e w1 ⟨rfl, q1⟩; obtain ⟨c0, c1, f0, f1, l0⟩ := B0.out.up q1; obtain ⟨c2, c3, f2, f3, l1⟩ := B1.out.up q1; have u1 := U0.out.trans q1; clear q1; go_wp2_with fail; exact bodyPost_ret (v := .tuple #[.agg #[.int .i8 0, .int .i64 0], .int .i64 15]) (by simp [results, Tryz.results112, go_sem, c0, c1, c2, c3, f0, f1, f2, f3] <;> omega) rfl ⟨rfl, ((u1.sC).sC)⟩
set_option linter.unusedSimpArgs false in
theorem rPrev8 (i d i' d' r : Int) (w : World) (hd : I64 d) (h : Mv i d (-1) i' d' r) :
   Calls Tryz.prog 111 #[.agg #[.int .i8 i, .int .i64 d]] w fun e w' => e = .returned (.tuple #[.agg #[.int .i8 i', .int .i64 d'], .int .i64 r]) /\ Up w w' := by
 have b0 := (CB.new w (.int .i8 i) (.int .i64 d) 41).alloc (.cells #[.int .i8 0, .int .i64 0] 41)
 have b1 := CB.new1 w (.cells #[.int .i8 i, .int .i64 d] 41) (.int .i8 0) (.int .i64 0) 41
 have u0 : Up w _ := ((Up.refl w).alloc (.cells #[.int .i8 i, .int .i64 d] 41)).alloc (.cells #[.int .i8 0, .int .i64 0] 41)
 have B0 := Lib.hid b0
 have B1 := Lib.hid b1
 have U0 := Lib.hid u0
 clear b0 b1 u0
 rcases h with ⟨h, rfl, rfl, rfl⟩ | ⟨h, h0, rfl, rfl, rfl⟩ | ⟨rfl, rfl, hf⟩
 · have HE := Lib.hid (fun W => rChk8_bad i d W h)
   clear h; go_enter Tryz.func111, Tryz.ntmps111; go_wp2_with fail; refine (HE.out _).mono ?_; rintro e w1 ⟨rfl, q1⟩; obtain ⟨c0, c1, f0, f1, l0⟩ := B0.out.up q1; obtain ⟨c2, c3, f2, f3, l1⟩ := B1.out.up q1; have u1 := U0.out.trans q1; clear q1; go_wp2_with fail; exact bodyPost_ret (v := .tuple #[.agg #[.int .i8 0, .int .i64 0], .int .i64 5]) (by simp [results, Tryz.results111, go_sem, c0, c1, c2, c3, f0, f1, f2, f3] <;> omega) rfl ⟨rfl, ((u1.sC).sC)⟩
 · have HE := Lib.hid (fun W => rChk8_ok _ _ W h)
   have n0 : (i' != 0) = true := by simpa using h0
   clear h h0; go_enter Tryz.func111, Tryz.ntmps111; go_wp2_with fail; refine (HE.out _).mono ?_; rintro e w1 ⟨rfl, q1⟩; obtain ⟨c0, c1, f0, f1, l0⟩ := B0.out.up q1; obtain ⟨c2, c3, f2, f3, l1⟩ := B1.out.up q1; have u1 := U0.out.trans q1; clear q1; go_wp2_with fail; exact bodyPost_ret (v := .tuple #[.agg #[.int .i8 _, .int .i64 _], .int .i64 0]) (by simp [results, Tryz.results111, go_sem, c0, c1, c2, c3, f0, f1, f2, f3] <;> omega) rfl ⟨rfl, ((u1.sC).sC)⟩
 · have HE := Lib.hid (fun W => rChk8_ok 0 d W (Or.inl rfl))
   obtain ⟨hd1, hd2⟩ := hd; rcases hf with ⟨hi, rfl, rfl⟩ | ⟨hi, rfl, rfl⟩
   · have n0 : (d == -9223372036854775808) = false := by unfold I64 at hi; simp; omega
     obtain ⟨hi1, hi2⟩ := hi; go_enter Tryz.func111, Tryz.ntmps111; go_wp2_with fail; refine (HE.out _).mono ?_; rintro e w1 ⟨rfl, q1⟩; obtain ⟨c0, c1, f0, f1, l0⟩ := B0.out.up q1; obtain ⟨c2, c3, f2, f3, l1⟩ := B1.out.up q1; have u1 := U0.out.trans q1; clear q1; go_wp2_with fail; exact bodyPost_ret (v := .tuple #[.agg #[.int .i8 0, .int .i64 (d + (-1))], .int .i64 0]) (by simp [results, Tryz.results111, go_sem, c0, c1, c2, c3, f0, f1, f2, f3] <;> omega) rfl ⟨rfl, ((u1.sC).sC)⟩
   · have hl : d = -9223372036854775808 := by unfold I64 at hi; omega
     clear hi hd1 hd2; subst hl; go_enter Tryz.func111, Tryz.ntmps111; go_wp2_with fail; refine (HE.out _).mono ?_; rintro e w1 ⟨rfl, q1⟩; obtain ⟨c0, c1, f0, f1, l0⟩ := B0.out.up q1; obtain ⟨c2, c3, f2, f3, l1⟩ := B1.out.up q1; have u1 := U0.out.trans q1; clear q1; go_wp2_with fail; exact bodyPost_ret (v := .tuple #[.agg #[.int .i8 0, .int .i64 0], .int .i64 15]) (by simp [results, Tryz.results111, go_sem, c0, c1, c2, c3, f0, f1, f2, f3] <;> omega) rfl ⟨rfl, ((u1.sC).sC)⟩
set_option linter.unusedSimpArgs false in
theorem eMin_2 (i d j f : Int) (w : World) (h : eC j f i d < 0) :
  Calls Tryz.prog 124 #[.agg #[.int .i8 i, .int .i64 d], .agg #[.int .i8 j, .int .i64 f]] w fun e w' => e = .returned (.agg #[.int .i8 j, .int .i64 f]) /\ Up w w' := by
 have b0 := ((CB.new w (.int .i8 i) (.int .i64 d) 41).alloc (.cells #[.int .i8 j, .int .i64 f] 41)).alloc (.cells #[.int .i8 0, .int .i64 0] 41)
 have b1 := (CB.new1 w (.cells #[.int .i8 i, .int .i64 d] 41) (.int .i8 j) (.int .i64 f) 41).alloc (.cells #[.int .i8 0, .int .i64 0] 41)
 have b2 := CB.new2 w (.cells #[.int .i8 i, .int .i64 d] 41) (.cells #[.int .i8 j, .int .i64 f] 41) (.int .i8 0) (.int .i64 0) 41
 have u0 : Up w _ := (((Up.refl w).alloc (.cells #[.int .i8 i, .int .i64 d] 41)).alloc (.cells #[.int .i8 j, .int .i64 f] 41)).alloc (.cells #[.int .i8 0, .int .i64 0] 41)
 have B0 := Lib.hid b0
 have B1 := Lib.hid b1
 have B2 := Lib.hid b2
 have U0 := Lib.hid u0
 clear b0 b1 b2 u0
 have HC := Lib.hid (fun W => eCmp j f i d W)
 generalize eC j f i d = c at *
 have t : decide (c < 0) = true := by simpa using h
 clear h
 go_enter Tryz.func124, Tryz.ntmps124
 go_wp2_with fail
 refine (HC.out _).mono ?_
 rintro e w1 ⟨rfl, q1⟩
 obtain ⟨c0, c1, _, _, l0⟩ := B0.out.up q1
 obtain ⟨c2, c3, _, _, l1⟩ := B1.out.up q1
 obtain ⟨c4, c5, f4, f5, l2⟩ := B2.out.up q1
 have u1 := U0.out.trans q1
 clear q1
 go_wp2_with fail
 exact bodyPost_ret (v := .agg #[.int .i8 j, .int .i64 f]) (by simp [results, Tryz.results124, go_sem, c0, c1, c2, c3, c4, c5, f4, f5] <;> omega) rfl ⟨rfl, ((u1.sC).sC)⟩
set_option linter.unusedSimpArgs false in
theorem eMin_1 (i d j f : Int) (w : World) (h : ¬ eC j f i d < 0) :
  Calls Tryz.prog 124 #[.agg #[.int .i8 i, .int .i64 d], .agg #[.int .i8 j, .int .i64 f]] w fun e w' => e = .returned (.agg #[.int .i8 i, .int .i64 d]) /\ Up w w' := by
 have b0 := ((CB.new w (.int .i8 i) (.int .i64 d) 41).alloc (.cells #[.int .i8 j, .int .i64 f] 41)).alloc (.cells #[.int .i8 0, .int .i64 0] 41)
 have b1 := (CB.new1 w (.cells #[.int .i8 i, .int .i64 d] 41) (.int .i8 j) (.int .i64 f) 41).alloc (.cells #[.int .i8 0, .int .i64 0] 41)
 have b2 := CB.new2 w (.cells #[.int .i8 i, .int .i64 d] 41) (.cells #[.int .i8 j, .int .i64 f] 41) (.int .i8 0) (.int .i64 0) 41
 have u0 : Up w _ := (((Up.refl w).alloc (.cells #[.int .i8 i, .int .i64 d] 41)).alloc (.cells #[.int .i8 j, .int .i64 f] 41)).alloc (.cells #[.int .i8 0, .int .i64 0] 41)
 have B0 := Lib.hid b0
 have B1 := Lib.hid b1
 have B2 := Lib.hid b2
 have U0 := Lib.hid u0
 clear b0 b1 b2 u0
 have HC := Lib.hid (fun W => eCmp j f i d W)
 generalize eC j f i d = c at *
 have t : decide (c < 0) = false := by simpa using h
 clear h
 go_enter Tryz.func124, Tryz.ntmps124
 go_wp2_with fail
 refine (HC.out _).mono ?_
 rintro e w1 ⟨rfl, q1⟩
 obtain ⟨c0, c1, _, _, l0⟩ := B0.out.up q1
 obtain ⟨c2, c3, _, _, l1⟩ := B1.out.up q1
 obtain ⟨c4, c5, f4, f5, l2⟩ := B2.out.up q1
 have u1 := U0.out.trans q1
 clear q1
 go_wp2_with fail
 exact bodyPost_ret (v := .agg #[.int .i8 i, .int .i64 d]) (by simp [results, Tryz.results124, go_sem, c0, c1, c2, c3, c4, c5, f4, f5] <;> omega) rfl ⟨rfl, ((u1.sC).sC)⟩
set_option linter.unusedSimpArgs false in
theorem eMax_2 (i d j f : Int) (w : World) (h : 0 < eC j f i d) :
  Calls Tryz.prog 125 #[.agg #[.int .i8 i, .int .i64 d], .agg #[.int .i8 j, .int .i64 f]] w fun e w' => e = .returned (.agg #[.int .i8 j, .int .i64 f]) /\ Up w w' := by
 have b0 := ((CB.new w (.int .i8 i) (.int .i64 d) 41).alloc (.cells #[.int .i8 j, .int .i64 f] 41)).alloc (.cells #[.int .i8 0, .int .i64 0] 41)
 have b1 := (CB.new1 w (.cells #[.int .i8 i, .int .i64 d] 41) (.int .i8 j) (.int .i64 f) 41).alloc (.cells #[.int .i8 0, .int .i64 0] 41)
 have b2 := CB.new2 w (.cells #[.int .i8 i, .int .i64 d] 41) (.cells #[.int .i8 j, .int .i64 f] 41) (.int .i8 0) (.int .i64 0) 41
 have u0 : Up w _ := (((Up.refl w).alloc (.cells #[.int .i8 i, .int .i64 d] 41)).alloc (.cells #[.int .i8 j, .int .i64 f] 41)).alloc (.cells #[.int .i8 0, .int .i64 0] 41)
 have B0 := Lib.hid b0
 have B1 := Lib.hid b1
 have B2 := Lib.hid b2
 have U0 := Lib.hid u0
 clear b0 b1 b2 u0
 have HC := Lib.hid (fun W => eCmp j f i d W)
 generalize eC j f i d = c at *
 have t : decide (0 < c) = true := by simpa using h
 clear h
 go_enter Tryz.func125, Tryz.ntmps125
 go_wp2_with fail
 refine (HC.out _).mono ?_
 rintro e w1 ⟨rfl, q1⟩
 obtain ⟨c0, c1, _, _, l0⟩ := B0.out.up q1
 obtain ⟨c2, c3, _, _, l1⟩ := B1.out.up q1
 obtain ⟨c4, c5, f4, f5, l2⟩ := B2.out.up q1
 have u1 := U0.out.trans q1
 clear q1
 go_wp2_with fail
 exact bodyPost_ret (v := .agg #[.int .i8 j, .int .i64 f]) (by simp [results, Tryz.results125, go_sem, c0, c1, c2, c3, c4, c5, f4, f5] <;> omega) rfl ⟨rfl, ((u1.sC).sC)⟩
set_option linter.unusedSimpArgs false in
theorem eMax_1 (i d j f : Int) (w : World) (h : ¬ 0 < eC j f i d) :
  Calls Tryz.prog 125 #[.agg #[.int .i8 i, .int .i64 d], .agg #[.int .i8 j, .int .i64 f]] w fun e w' => e = .returned (.agg #[.int .i8 i, .int .i64 d]) /\ Up w w' := by
 have b0 := ((CB.new w (.int .i8 i) (.int .i64 d) 41).alloc (.cells #[.int .i8 j, .int .i64 f] 41)).alloc (.cells #[.int .i8 0, .int .i64 0] 41)
 have b1 := (CB.new1 w (.cells #[.int .i8 i, .int .i64 d] 41) (.int .i8 j) (.int .i64 f) 41).alloc (.cells #[.int .i8 0, .int .i64 0] 41)
 have b2 := CB.new2 w (.cells #[.int .i8 i, .int .i64 d] 41) (.cells #[.int .i8 j, .int .i64 f] 41) (.int .i8 0) (.int .i64 0) 41
 have u0 : Up w _ := (((Up.refl w).alloc (.cells #[.int .i8 i, .int .i64 d] 41)).alloc (.cells #[.int .i8 j, .int .i64 f] 41)).alloc (.cells #[.int .i8 0, .int .i64 0] 41)
 have B0 := Lib.hid b0
 have B1 := Lib.hid b1
 have B2 := Lib.hid b2
 have U0 := Lib.hid u0
 clear b0 b1 b2 u0
 have HC := Lib.hid (fun W => eCmp j f i d W)
 generalize eC j f i d = c at *
 have t : decide (0 < c) = false := by simpa using h
 clear h
 go_enter Tryz.func125, Tryz.ntmps125
 go_wp2_with fail
 refine (HC.out _).mono ?_
 rintro e w1 ⟨rfl, q1⟩
 obtain ⟨c0, c1, _, _, l0⟩ := B0.out.up q1
 obtain ⟨c2, c3, _, _, l1⟩ := B1.out.up q1
 obtain ⟨c4, c5, f4, f5, l2⟩ := B2.out.up q1
 have u1 := U0.out.trans q1
 clear q1
 go_wp2_with fail
 exact bodyPost_ret (v := .agg #[.int .i8 i, .int .i64 d]) (by simp [results, Tryz.results125, go_sem, c0, c1, c2, c3, c4, c5, f4, f5] <;> omega) rfl ⟨rfl, ((u1.sC).sC)⟩
end Go.Proofs.YtoghoddjkdoohaaGreatDoor
