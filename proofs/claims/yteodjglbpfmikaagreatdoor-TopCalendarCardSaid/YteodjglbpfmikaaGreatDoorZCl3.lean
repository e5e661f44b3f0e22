/- Walks and laws that the claim's theorem leans on: part 3. -/
import Derived.Test.YteodjglbpfmikaaGreatDoorZCl1
import Derived.Test.YteodjglbpfmikaaGreatDoorZCl2
import Derived.Test.YteodjglbpfmikaaGreatDoorShInts
import Derived.Laws.BytesArg
import Derived.Deep.DeepCutAuto
import Derived.Deep.RegionLaw
import Derived.Lib.Strings
import Derived.Lib.SmallJoins
import Derived.Lib.ItoaLen
import Derived.IntWalk
namespace Go.Proofs.YteodjglbpfmikaaGreatDoor
set_option maxRecDepth 10000
open Go.RowKit
theorem sub_cmp (a b : Int) (ha : I64 a) (hb : I64 b) :
   (I64 (a - b) → wrap64 (a - b) = a - b ∧ decide (a - b < a) = decide (0 < b)) ∧ (¬ I64 (a - b) → decide (wrap64 (a - b) < a) = !decide (0 < b)) := by
 obtain ⟨a1, a2⟩ := ha
 obtain ⟨b1, b2⟩ := hb
 constructor
 · rintro ⟨h1, h2⟩
   refine ⟨by unfold wrap64; omega, ?_⟩
   rw [Bool.eq_iff_iff]; simp only [decide_eq_true_eq]; omega
 · intro h
   unfold I64 at h
   rw [Bool.eq_iff_iff]; simp only [decide_eq_true_eq, Bool.not_eq_true', decide_eq_false_iff_not]
   unfold wrap64
   omega
theorem isub_fits (a b : Int) (w : World) (ha : I64 a) (hb : I64 b) (h : I64 (a - b)) :
   Calls Tryz.prog 72 #[.int .i64 a, .int .i64 b] w fun e w' => e = .returned (.tuple #[.int .i64 (a - b), .int .i64 0]) ∧ w = w' := by
 obtain ⟨h1, h2⟩ := (sub_cmp a b ha hb).1 h
 obtain ⟨k1, k2⟩ := h
 clear h1
 by_cases hb0 : 0 < b
 · have c1 : decide (0 < b) = true := by simpa using hb0
   have c2 : decide (a - b < a) = true := by simp; omega
   clear h2
   go_enter Tryz.func72, Tryz.ntmps72
   go_wp2_with fail
   go_ret2
   exact ⟨rfl, rfl⟩
 · have c1 : decide (0 < b) = false := by simpa using hb0
   have c2 : decide (a - b < a) = false := by simp; omega
   clear h2
   go_enter Tryz.func72, Tryz.ntmps72
   go_wp2_with fail
   go_ret2
   exact ⟨rfl, rfl⟩
theorem isub_over (a b : Int) (w : World) (ha : I64 a) (hb : I64 b) (h : ¬ I64 (a - b)) :
   Calls Tryz.prog 72 #[.int .i64 a, .int .i64 b] w fun e w' => e = .returned (.tuple #[.int .i64 0, .int .i64 15]) ∧ w = w' := by
 have h2 := (sub_cmp a b ha hb).2 h
 generalize hn : wrap64 (a - b) = n at *
 by_cases hb0 : 0 < b
 · have c1 : decide (0 < b) = true := by simpa using hb0
   have c2 : decide (n < a) = false := by rw [h2, c1]; rfl
   clear h2
   go_enter Tryz.func72, Tryz.ntmps72
   go_wp2_with fail
   go_ret2
   exact ⟨rfl, rfl⟩
 · have c1 : decide (0 < b) = false := by simpa using hb0
   have c2 : decide (n < a) = true := by rw [h2, c1]; rfl
   clear h2
   go_enter Tryz.func72, Tryz.ntmps72
   go_wp2_with fail
   go_ret2
   exact ⟨rfl, rfl⟩
theorem u64_back (n : Int) (h0 : 0 ≤ n) (h : n ≤ 9223372036854775808) : wrap64 (IntKind.u64.wrap (-n)) = -n := by
 rw [IntKind.wrap_u64]; unfold wrap64; omega
theorem isigned_neg (n : Int) (w : World) (h0 : 0 ≤ n) (h : n ≤ 9223372036854775808) :
  Calls Tryz.prog 166 #[.int .u64 n, .bool true] w fun e w' => e = .returned (.tuple #[.int .i64 (-n), .int .i64 0]) ∧ w = w' := by
 have c1 : decide (n ≤ 9223372036854775808) = true := by simpa using h
 go_enter Tryz.func166, Tryz.ntmps166
 go_wp2_with fail
 go_ret2
 exact ⟨ret2_i (u64_back n h0 h) rfl, rfl⟩
theorem isigned_pos (n : Int) (w : World) (h0 : 0 ≤ n) (h : n ≤ 9223372036854775807) :
  Calls Tryz.prog 166 #[.int .u64 n, .bool false] w fun e w' => e = .returned (.tuple #[.int .i64 n, .int .i64 0]) ∧ w = w' := by
 have c1 : decide (n ≤ 9223372036854775807) = true := by simpa using h
 go_enter Tryz.func166, Tryz.ntmps166
 go_wp2_with fail
 go_ret2
 exact ⟨rfl, rfl⟩
theorem isigned_no (n : Int) (b : Bool) (w : World) (h : (b = true ∧ 9223372036854775808 < n) ∨ (b = false ∧ 9223372036854775807 < n)) :
   Calls Tryz.prog 166 #[.int .u64 n, .bool b] w fun e w' => e = .returned (.tuple #[.int .i64 0, .int .i64 15]) ∧ w = w' := by
 rcases h with ⟨rfl, h⟩ | ⟨rfl, h⟩
 · have c1 : decide (n ≤ 9223372036854775808) = false := by simp; omega
   go_enter Tryz.func166, Tryz.ntmps166
   go_wp2_with fail
   go_ret2
   exact ⟨rfl, rfl⟩
 · have c1 : decide (n ≤ 9223372036854775807) = false := by simp; omega
   go_enter Tryz.func166, Tryz.ntmps166
   go_wp2_with fail
   go_ret2
   exact ⟨rfl, rfl⟩
set_option maxHeartbeats 1000000
structure DivM (a b q m : Int) : Prop where
 e : q * b + m = a
 p : 0 < b → 0 ≤ m ∧ m < b
 n : b < 0 → b < m ∧ m ≤ 0
theorem DivM.mono {a c b q m q' m' : Int} (h : DivM a b q m) (h' : DivM c b q' m') (hb : 0 < b) (hac : a ≤ c) : q ≤ q' := by
 have p1 := h.p hb
 have p2 := h'.p hb
 have e1 := h.e
 have e2 := h'.e
 by_cases hc : q ≤ q'
 · exact hc
 · have : (q' + 1) * b ≤ q * b := Int.mul_le_mul_of_nonneg_right (by omega) (by omega)
   rw [Int.add_mul] at this
   omega
theorem p10_18 (k : Nat) (h : k ≤ 18) : 1 ≤ Dg.p10 k ∧ Dg.p10 k ≤ 1000000000000000000 := by
 have h1 := Dg.p10_pos k
 have h2 := Dg.p10_mono h
 have h3 : Dg.p10 18 = 1000000000000000000 := by decide
 omega
theorem ipow_yes (n : Nat) (w : World) (h : n ≤ 18) :
  Calls Tryz.prog 168 #[.int .i64 (n : Int)] w fun e w' => e = .returned (.tuple #[.int .i64 (Dg.p10 n), .int .i64 0]) ∧ w = w' := by
 have c1 : decide ((n : Int) < 0) = false := by simp
 have c2 : decide (18 < (n : Int)) = false := by simp; omega
 go_enter Tryz.func168, Tryz.ntmps168
 go_wp2_with fail
 go_loop [4, 10] (fun pv kv => ∃ k : Nat, k ≤ n ∧ kv = .int .i64 k ∧ pv = .int .i64 (Dg.p10 k)) (fun _ kv => n - (intOf kv).toNat)
 case atStart => exact ⟨0, by omega, rfl, rfl⟩
 case round =>
  obtain ⟨k, hk, rfl, rfl⟩ := hrel
  by_cases hlt : k < n
  · have q1 : decide ((k : Int) < n) = true := by simp; omega
    obtain ⟨b1, b2⟩ := p10_18 (k + 1) (by omega)
    have hs : Dg.p10 (k + 1) = 10 * Dg.p10 k := rfl
    rw [hs] at b1 b2
    have HS := Lib.hid hs
    clear hs
    go_wp2
    go_round
    case rel => exact ⟨k + 1, by omega, by go_num, by rw [HS.out]; congr 1; omega⟩
    case measure => simp [intOf]; omega
  · obtain rfl : k = n := by omega
    have t1 : ¬ k < k := by omega
    go_wp2
    go_ret2
    exact ⟨rfl, rfl⟩
theorem SlD.at {w : World} {p : Option Addr} {n cap : Nat} {l : List Int} (h : SlD w (.slice p n cap) l) : ∀ (j : Nat) (x : Int), l[j]? = some x → ∃ g, p = some ⟨g, 0, none⟩ ∧ w.cell? ⟨g, j, none⟩ = some (.int .u8 x) := by
 obtain ⟨p', cap', he, h1, h2, h3⟩ := h
 simp only [Value.slice.injEq] at he
 obtain ⟨rfl, rfl, rfl⟩ := he
 exact h3
def isNeg (l : List UInt8) : Bool := l.head? == some 45
def dsOf (l : List UInt8) : List UInt8 := if isNeg l then l.drop 1 else l
def pOk (l : List UInt8) : Prop := dsOf l ≠ [] ∧ ¬ ((dsOf l).head? = some 48 ∧ 1 < l.length) ∧ ∀ c ∈ dsOf l, Dg.isD c
def pVal (l : List UInt8) : Int := sg (isNeg l) (Dg.nvA 0 (dsOf l))
theorem get_at (s : ByteArray) (k : Nat) (h : k < s.size) : s.data.toList[k]? = some s[k] := by
 rw [Array.getElem?_toList, Array.getElem?_eq_getElem (show k < s.data.size from h)]
 rfl
theorem len_is (s : ByteArray) : s.data.toList.length = s.size := (Lib.size_eq s).symm
def rv (s : ByteArray) (k : Nat) : List Int := (s.data.toList.drop k).reverse.map Dg.dv
set_option maxHeartbeats 2000000
set_option maxRecDepth 10000
structure EnvI (w : World) : Prop where
 tab : Lib.TabIs Tryz.prog w "internal/strconv.uint64pow10" .u64 Lib.pow10Tab
theorem var_dn {w w' : World} {n : String} {cs : Array Value} (h : w.var? Tryz.prog n = some cs) (k : Dn w w') : w'.var? Tryz.prog n = some cs := by
 unfold World.var? at h ⊢
 cases hg : Tryz.prog.globalNamed n with
 | none => rw [hg] at h; simp at h
 | some g =>
   rw [hg] at h
   simp only [Option.bind_some] at h ⊢
   have hlt : g < w.heap.size := by
    rcases Nat.lt_or_ge g w.heap.size with hl | hl
    · exact hl
    · rw [Array.getElem?_eq_none hl] at h; simp at h
   rw [k.below.block g hlt]
   exact h
theorem EnvI.dn {w w' : World} (h : EnvI w) (k : Dn w w') : EnvI w' := ⟨var_dn h.tab k⟩
theorem EnvI.up {w w' : World} (h : EnvI w) (k : Up w w') : EnvI w' := h.dn k.dn
structure EnvJ (w : World) : Prop where
 tab : Lib.TabIs Tryz.prog w "internal/strconv.uint64pow10" .u64 Lib.pow10Tab
 er : ∃ tp p, w.var? Tryz.prog "strconv.ErrRange" = some #[.iface tp p]
theorem EnvJ.dn {w w' : World} (h : EnvJ w) (k : Dn w w') : EnvJ w' := by
 obtain ⟨tp, p, he⟩ := h.er
 exact ⟨var_dn h.tab k, tp, p, var_dn he k⟩
theorem EnvJ.up {w w' : World} (h : EnvJ w) (k : Up w w') : EnvJ w' := h.dn k.dn
theorem itext (n : Int) (w : World) (hn : I64 n) (hE : EnvI w) :
  Calls Tryz.prog 83 #[.int .i64 n] w fun e w' => e = .returned (.string ⟨(Lib.itoa n).toArray⟩) ∧ Up w w' := by
 have HF := Lib.hid (Tryz.strconv_FormatInt_10 n hn.1 hn.2 w hE.tab)
 clear hn hE
 go_enter Tryz.func83, Tryz.ntmps83
 go_wp2_with fail
 refine HF.out.mono ?_
 rintro e w1 ⟨rfl, k, os, rfl⟩
 go_wp2_with fail
 go_ret
 exact ⟨rfl, Up.of_grow k os⟩
theorem has_neg (l : List UInt8) : Lib.hasPrefix l [45] = isNeg l := by
 unfold Lib.hasPrefix isNeg
 cases l with
 | nil => rfl
 | cons c r =>
   by_cases h : c = 45
   · subst h; rfl
   · have h1 : ((45 : UInt8) == c) = false := by rw [beq_eq_false_iff_ne]; exact fun e => h e.symm
     show ((45 : UInt8) == c && List.isPrefixOf [] r) = (some c == some 45)
     rw [h1]
     simp [h]
theorem trim_neg (l : List UInt8) : Lib.trimPrefix l [45] = dsOf l := by
 unfold Lib.trimPrefix dsOf
 rw [has_neg]
 rfl
theorem ds_len (l : List UInt8) : (isNeg l = true → l.length = (dsOf l).length + 1) ∧ (isNeg l = false → dsOf l = l) := by
 unfold dsOf
 constructor
 · intro h
   rw [if_pos h]
   cases l with
   | nil => simp [isNeg] at h
   | cons c r => simp
 · intro h
   rw [if_neg (by rw [h]; simp)]
def IPost (l : List UInt8) (w : World) (e : Ending) (w' : World) : Prop :=
 Dn w w' ∧ ((pOk l ∧ I64 (pVal l) ∧ e = .returned (.tuple #[.int .i64 (pVal l), .int .i64 0])) ∨ (pOk l ∧ ¬ I64 (pVal l) ∧ e = .returned (.tuple #[.int .i64 0, .int .i64 15])) ∨ (¬ pOk l ∧ e = .returned (.tuple #[.int .i64 0, .int .i64 5])))
theorem all_step {D : ByteArray} {k : Nat} (h : k < D.size) (ha : ∀ c ∈ D.data.toList.take k, Dg.isD c) (hd : Dg.isD D[k]) : ∀ c ∈ D.data.toList.take (k + 1), Dg.isD c := by
 have h2 : k < D.data.toList.length := by rw [len_is]; exact h
 intro c hc
 rw [List.take_succ_eq_append_getElem h2] at hc
 rcases List.mem_append.1 hc with hc | hc
 · exact ha c hc
 · have := get_at D k h
   rw [List.getElem?_eq_getElem h2] at this
   rw [Option.some.inj this] at hc
   simp at hc
   subst hc
   exact hd
theorem parse64_ok {l : List UInt8} (hne : l ≠ []) (h : ∀ c ∈ l, Dg.isD c) (hl : Dg.nvA 0 l ≤ 18446744073709551615) : Lib.parseUintB 64 l = .ok (Dg.nvA 0 l) := by
 unfold Lib.parseUintB
 rw [if_neg hne]
 exact Dg.parse_ok l h 0 hl
theorem parse64_range {l : List UInt8} (hne : l ≠ []) (h : ∀ c ∈ l, Dg.isD c) (hl : 18446744073709551615 < Dg.nvA 0 l) : Lib.parseUintB 64 l = .range := by
 unfold Lib.parseUintB
 rw [if_neg hne]
 exact Dg.parse_range l h 0 (by omega) hl
theorem up_uint {w w' : World} {t : TypeId} {s : ByteArray} (h : w' = w ∨ w' = Lib.bytesWorld w t s) : Dn w w' := by
 rcases h with rfl | rfl
 · exact Dn.refl _
 · exact ⟨Joins.below_bytesWorld _ _ _ _ (Nat.le_refl _)⟩
theorem iparse (s : ByteArray) (w : World) (hs : s.size ≤ 1000) (hE : EnvJ w) :
  Calls Tryz.prog 132 #[.string s] w (IPost s.data.toList w) := by
 have hC := fun W => Tryz.strings_CutPrefix s ⟨#[45]⟩ W
 rw [show (⟨#[45]⟩ : ByteArray).data.toList = [45] from rfl, has_neg, trim_neg] at hC
 obtain ⟨hlen1, hlen2⟩ := ds_len s.data.toList
 rw [len_is] at hlen1
 have HL1 := Lib.hid hlen1
 have HL2 := Lib.hid hlen2
 generalize hl : s.data.toList = l at *
 generalize hb : isNeg l = b at *
 obtain ⟨D, hD⟩ : ∃ D : ByteArray, D = ⟨(dsOf l).toArray⟩ := ⟨_, rfl⟩
 have hD2 : D.data.toList = dsOf l := by rw [hD]
 rw [← hD] at hC
 have HC := Lib.hid hC
 have HD := Lib.hid hD2
 have HB := Lib.hid hb
 have HLL := Lib.hid (show l.length = s.size by rw [← hl, len_is])
 have hDs : D.size ≤ 1000 := by
  have e : D.size = (dsOf l).length := by rw [← hD2, len_is]
  have h3 := HLL.out
  cases b
  · rw [e, HL2.out rfl]; omega
  · have := HL1.out rfl; omega
 clear hC hlen1 hlen2 hl hb hD hD2
 go_enter Tryz.func132, Tryz.ntmps132
 go_wp2_with fail
 refine (HC.out _).mono ?_
 rintro e w1 ⟨rfl, hw1⟩
 subst hw1
 go_wp2_with fail
 go_loop [6, 16] (fun iv kv => ∃ k : Nat, k ≤ D.size ∧ kv = .int .i64 k ∧ ∀ c ∈ D.data.toList.take k, Dg.isD c) (fun _ kv => D.size - (intOf kv).toNat)
 case atStart => exact ⟨0, by omega, rfl, by simp⟩
 case round =>
  obtain ⟨k, hk, rfl, hall⟩ := hrel
  have HA := Lib.hid hall
  clear hall
  by_cases hlt : k < D.size
  · have c1 := UInt8.toNat_lt D[k]
    have q1 : decide ((k : Int) < D.size) = true := by simp; omega
    by_cases hd : Dg.isD D[k]
    · have HDD := Lib.hid (all_step hlt HA.out hd)
      obtain ⟨d1, d2⟩ := hd
      have e1 : decide ((D[k].toNat : Int) < 48) = false := by simp; omega
      have e2 : decide (57 < (D[k].toNat : Int)) = false := by simp; omega
      go_wp2_with fail
      go_round
      case rel => exact ⟨k + 1, by omega, by go_num, HDD.out⟩
      case measure => simp [intOf]; omega
    · have NO := Lib.hid (show ¬ pOk l from fun hp => hd (hp.2.2 _ (by rw [← HD.out]; exact List.mem_of_getElem? (get_at D k hlt))))
      by_cases h48 : (D[k].toNat : Int) < 48
      · have e1 : decide ((D[k].toNat : Int) < 48) = true := by simpa using h48
        clear hd
        go_wp2_with fail
        go_ret2
        exact ⟨Dn.refl _, Or.inr (Or.inr ⟨NO.out, rfl⟩)⟩
      · have e1 : decide ((D[k].toNat : Int) < 48) = false := by simpa using h48
        have e2 : decide (57 < (D[k].toNat : Int)) = true := by unfold Dg.isD at hd; simp; omega
        clear hd
        go_wp2_with fail
        go_ret2
        exact ⟨Dn.refl _, Or.inr (Or.inr ⟨NO.out, rfl⟩)⟩
  · obtain rfl : k = D.size := by omega
    have q1 : decide ((D.size : Int) < D.size) = false := by simp
    have hall : ∀ c ∈ dsOf l, Dg.isD c := by
      have := HA.out
      rw [List.take_of_length_le (by rw [len_is]; exact Nat.le_refl _), HD.out] at this
      exact this
    have HALL := Lib.hid hall
    clear hall hk
    by_cases h0 : D.size = 0
    · have NO := Lib.hid (show ¬ pOk l from fun hp => hp.1 (List.length_eq_zero_iff.1 (by rw [← HD.out, len_is]; exact h0)))
      obtain rfl : D = ⟨#[]⟩ := by
        apply ByteArray.ext
        exact Array.eq_empty_of_size_eq_zero h0
      clear h0
      go_wp2_with fail
      go_ret2
      exact ⟨Dn.refl _, Or.inr (Or.inr ⟨NO.out, rfl⟩)⟩
    · have hpos : 0 < D.size := by omega
      have hne : dsOf l ≠ [] := fun e => h0 (by have := congrArg List.length e; rw [← HD.out, len_is] at this; simpa using this)
      have s2 : ¬ D.toList = [] := by rw [ByteArray.toList_eq, HD.out]; exact hne
      have s1 : D.toList.isEmpty = false := by simpa using s2
      have hhead : (dsOf l).head? = some D[0] := by rw [← HD.out, List.head?_eq_getElem?]; exact get_at D 0 hpos
      have HHEAD := Lib.hid hhead
      have HNE := Lib.hid hne
      clear hhead hne
      by_cases hz : D[0] = 48 ∧ (b = true ∨ 1 < D.size)
      · have NO := Lib.hid (show ¬ pOk l from fun hp => hp.2.1 ⟨by rw [HHEAD.out, hz.1], by
          have h3 := HLL.out
          rcases hz.2 with e | e
          · have := HL1.out e; rw [← HD.out, len_is] at this; omega
          · by_cases hb : b = true
            · have := HL1.out hb; rw [← HD.out, len_is] at this; omega
            · have e2 := HL2.out (by simpa using hb)
              rw [← HD.out] at e2
              rw [← e2, len_is]; exact e⟩)
        obtain ⟨z1, z2⟩ := hz
        have q2 : ((D[0].toNat : Int) == 48) = true := by rw [z1]; rfl
        cases b
        · have z3 : 1 < D.size := by simpa using z2
          have q3 : decide (1 < (D.size : Int)) = true := by rw [decide_eq_true_eq]; omega
          clear z1 z2
          go_wp2_with fail
          go_ret2
          exact ⟨Dn.refl _, Or.inr (Or.inr ⟨NO.out, rfl⟩)⟩
        · clear z1 z2
          go_wp2_with fail
          go_ret2
          exact ⟨Dn.refl _, Or.inr (Or.inr ⟨NO.out, rfl⟩)⟩
      · have OK : pOk l := ⟨HNE.out, fun hp => hz ⟨by have := hp.1; rw [HHEAD.out] at this; exact Option.some.inj this, by
          cases b
          · right
            have e2 := HL2.out rfl
            rw [← HD.out] at e2
            have := hp.2
            rw [← e2, len_is] at this; exact this
          · exact Or.inl rfl⟩, HALL.out⟩
        have HOK := Lib.hid OK
        have HPV := Lib.hid (show pVal l = sg b (Dg.nvA 0 (dsOf l)) by unfold pVal; rw [HB.out])
        have hsz : D.size ≤ 281474976710656 := by omega
        have hq : (((D[0].toNat : Int) == 48) = true ∧ b = false ∧ decide (1 < (D.size : Int)) = false ∧ ¬ 1 < D.size) ∨ (((D[0].toNat : Int) == 48) = false) := by
          by_cases z : D[0] = 48
          · left
            have hb : b = false := by
              cases b
              · rfl
              · exact absurd ⟨z, Or.inl rfl⟩ hz
            have h1 : ¬ 1 < D.size := fun h => hz ⟨z, Or.inr h⟩
            exact ⟨by rw [z]; rfl, hb, by rw [decide_eq_false_iff_not]; omega, h1⟩
          · right
            rw [beq_eq_false_iff_ne]; intro e
            exact z (UInt8.toNat_inj.1 (by simpa using (by exact_mod_cast e : D[0].toNat = 48)))
        clear hz OK
        generalize hN : Dg.nvA 0 (dsOf l) = N at *
        have HN := Lib.hid hN
        clear hN
        by_cases hr : N ≤ 18446744073709551615
        · have CP := Lib.hid (fun W => Tryz.strconv_ParseUint_10_at64_ok D (by omega) N (by rw [HD.out, ← HN.out]; exact parse64_ok HNE.out HALL.out (by rw [HN.out]; exact hr)) W)
          have SG : ∃ rx re : Int, (∀ W, Calls Tryz.prog 166 #[.int .u64 (N : Int), .bool b] W fun e w' => e = .returned (.tuple #[.int .i64 rx, .int .i64 re]) ∧ W = w') ∧ ((I64 (sg b N) ∧ rx = sg b N ∧ re = 0) ∨ (¬ I64 (sg b N) ∧ rx = 0 ∧ re = 15)) := by
            cases b
            · by_cases h : (N : Int) ≤ 9223372036854775807
              · exact ⟨N, 0, fun W => isigned_pos N W (by omega) h, Or.inl ⟨⟨by unfold sg; simp; try omega, by simpa [sg] using h⟩, by simp [sg], rfl⟩⟩
              · exact ⟨0, 15, fun W => isigned_no N false W (Or.inr ⟨rfl, by omega⟩), Or.inr ⟨fun hi => h (by have := hi.2; simpa [sg] using this), rfl, rfl⟩⟩
            · by_cases h : (N : Int) ≤ 9223372036854775808
              · exact ⟨-N, 0, fun W => isigned_neg N W (by omega) h, Or.inl ⟨⟨by unfold sg; simp; try omega, by unfold sg; simp; try omega⟩, by simp [sg], rfl⟩⟩
              · exact ⟨0, 15, fun W => isigned_no N true W (Or.inl ⟨rfl, by omega⟩), Or.inr ⟨fun hi => h (by have := hi.1; simp [sg] at this; omega), rfl, rfl⟩⟩
          obtain ⟨rx, re, CS, hcase⟩ := SG
          have HCS := Lib.hid CS
          have HCASE := Lib.hid hcase
          clear CS hcase hr
          generalize (N : Int) = N' at *
          rcases hq with ⟨q2, rfl, q3, q4⟩ | q2
          all_goals
            go_wp2_with fail
            refine (CP.out _).mono ?_
            rintro e w2 ⟨rfl, hw2⟩
            have U2 := Lib.hid (up_uint hw2)
            clear hw2
            go_wp2_with fail
            refine (HCS.out _).mono ?_
            rintro e w3 ⟨rfl, rfl⟩
            go_wp2_with fail
            go_ret2
            refine ⟨U2.out, ?_⟩
            rcases HCASE.out with ⟨g1, rfl, rfl⟩ | ⟨g1, rfl, rfl⟩
            · exact Or.inl ⟨HOK.out, by rw [HPV.out]; exact g1, by rw [HPV.out]; rfl⟩
            · exact Or.inr (Or.inl ⟨HOK.out, by rw [HPV.out]; exact g1, rfl⟩)
        · obtain ⟨tp, pp, her⟩ := hE.er
          have CP := Lib.hid (Tryz.strconv_ParseUint_10_at64_range_var D hsz (by rw [HD.out]; exact parse64_range HNE.out HALL.out (by rw [HN.out]; omega)) tp pp _ her)
          have HNI := Lib.hid (show ¬ I64 (pVal l) from fun hi => by
            rw [HPV.out] at hi
            obtain ⟨i1, i2⟩ := hi
            cases b <;> simp [sg] at i1 i2 <;> omega)
          clear hr her
          rcases hq with ⟨q2, rfl, q3, q4⟩ | q2
          all_goals
            go_wp2_with fail
            refine CP.out.mono ?_
            rintro e w2 ⟨M, rfl, _, _, hB⟩
            go_wp2_with fail
            go_ret2
            exact ⟨⟨hB⟩, Or.inr (Or.inl ⟨HOK.out, HNI.out, rfl⟩)⟩
instance decOk (l : List UInt8) : Decidable (pOk l) := by unfold pOk Dg.isD; infer_instance
theorem iparse_ok (s : ByteArray) (n : Int) (w : World) (hs : s.size ≤ 1000) (hp : pOk s.data.toList) (hv : pVal s.data.toList = n) (hi : I64 n) (hE : EnvJ w) :
   Calls Tryz.prog 132 #[.string s] w fun e w' => e = .returned (.tuple #[.int .i64 n, .int .i64 0]) ∧ Dn w w' := by
 subst hv
 refine (iparse s w hs hE).mono ?_
 rintro e w' ⟨hd, ⟨_, _, h⟩ | ⟨_, h, _⟩ | ⟨h, _⟩⟩
 · exact ⟨h, hd⟩
 · exact absurd hi h
 · exact absurd hp h
theorem iparse_over (s : ByteArray) (w : World) (hs : s.size ≤ 1000) (hp : pOk s.data.toList) (hi : ¬ I64 (pVal s.data.toList)) (hE : EnvJ w) :
   Calls Tryz.prog 132 #[.string s] w fun e w' => e = .returned (.tuple #[.int .i64 0, .int .i64 15]) ∧ Dn w w' := by
 refine (iparse s w hs hE).mono ?_
 rintro e w' ⟨hd, ⟨_, h, _⟩ | ⟨_, _, h⟩ | ⟨h, _⟩⟩
 · exact absurd h hi
 · exact ⟨h, hd⟩
 · exact absurd hp h
theorem iparse_bad (s : ByteArray) (w : World) (hs : s.size ≤ 1000) (hp : ¬ pOk s.data.toList) (hE : EnvJ w) :
   Calls Tryz.prog 132 #[.string s] w fun e w' => e = .returned (.tuple #[.int .i64 0, .int .i64 5]) ∧ Dn w w' := by
 refine (iparse s w hs hE).mono ?_
 rintro e w' ⟨hd, ⟨h, _⟩ | ⟨h, _⟩ | ⟨_, h⟩⟩
 · exact absurd h hp
 · exact absurd h hp
 · exact ⟨h, hd⟩
def rd (u : Nat) : List UInt8 := (Dg.dl u).reverse.map Dg.ch
theorem rd_isD (u : Nat) : ∀ c ∈ rd u, Dg.isD c := by
 intro c hc
 simp only [rd, List.mem_map, List.mem_reverse] at hc
 obtain ⟨d, hd, rfl⟩ := hc
 exact (Dg.ch_isD d (Dg.dl_digs u d hd)).1
theorem map_dv_ch {l : List Int} (h : Dg.Digs l) : (l.map Dg.ch).map Dg.dv = l := by
 rw [List.map_map]
 have : l.map (Dg.dv ∘ Dg.ch) = l.map id := List.map_congr_left (fun d hd => (Dg.ch_isD d (h d hd)).2)
 rw [this, List.map_id]
theorem rd_val (u : Nat) : Dg.nvA 0 (rd u) = u := by
 have h := Dg.nvA_val (rd u) (rd_isD u) 0
 have e : (rd u).reverse.map Dg.dv = Dg.dl u := by
  unfold rd
  rw [← List.map_reverse, List.reverse_reverse]
  exact map_dv_ch (Dg.dl_digs u)
 rw [e, Dg.dl_val] at h
 simp at h
 omega
theorem head_last {α : Type} (l : List α) : l.reverse.head? = l[l.length - 1]? := by
 rw [List.head?_reverse, List.getLast?_eq_getElem?]
theorem rd_head (u : Nat) (h : u ≠ 0) : ∃ d, 1 ≤ d ∧ d ≤ 9 ∧ (rd u).head? = some (Dg.ch d) := by
 have hne : Dg.dl u ≠ [] := fun e => h (Dg.dl_nil e)
 have hlen : 0 < (Dg.dl u).length := List.length_pos_iff.2 hne
 have hc := (Dg.dl_canon u).2
 have hd := Dg.dig_bd (Dg.dl_digs u) ((Dg.dl u).length - 1)
 refine ⟨Dg.dig (Dg.dl u) ((Dg.dl u).length - 1), ?_, hd.2, ?_⟩
 · rcases hc with hc | hc
   · exact absurd hc hne
   · omega
 · unfold rd
   rw [List.head?_map, head_last, Dg.dig_some (by omega)]
   rfl
theorem ch_toNat (d : Int) (h : 0 ≤ d ∧ d ≤ 9) : ((Dg.ch d).toNat : Int) = 48 + d := by
 have := (Dg.ch_isD d h).2
 unfold Dg.dv at this
 omega
theorem neg_of_head {l : List UInt8} {c : UInt8} (h : l.head? = some c) (hc : c.toNat ≠ 45) : isNeg l = false := by
 unfold isNeg
 rw [h]
 show (c == 45) = false
 rw [beq_eq_false_iff_ne]
 intro e
 subst e
 exact hc rfl
theorem rd_ok (u : Nat) (h : u ≠ 0) : pOk (rd u) ∧ pVal (rd u) = u ∧ pOk (45 :: rd u) ∧ pVal (45 :: rd u) = -(u : Int) := by
 obtain ⟨d, d1, d2, hd⟩ := rd_head u h
 have hn := ch_toNat d ⟨by omega, d2⟩
 have hneg : isNeg (rd u) = false := neg_of_head hd (by omega)
 have hds : dsOf (rd u) = rd u := by unfold dsOf; rw [hneg]; rfl
 have hne : rd u ≠ [] := by intro e; rw [e] at hd; simp at hd
 have h48 : ¬ (rd u).head? = some 48 := by
   rw [hd]
   intro e
   have e2 := congrArg UInt8.toNat (Option.some.inj e)
   have : (48 : UInt8).toNat = 48 := rfl
   omega
 have hneg2 : isNeg (45 :: rd u) = true := rfl
 have hds2 : dsOf (45 :: rd u) = rd u := by unfold dsOf; rw [hneg2]; rfl
 refine ⟨⟨by rw [hds]; exact hne, by rw [hds]; exact fun hx => h48 hx.1, by rw [hds]; exact rd_isD u⟩, ?_, ⟨by rw [hds2]; exact hne, by rw [hds2]; exact fun hx => h48 hx.1, by rw [hds2]; exact rd_isD u⟩, ?_⟩
 · unfold pVal; rw [hneg, hds, rd_val]; rfl
 · unfold pVal; rw [hneg2, hds2, rd_val]; rfl
theorem itoa_rd (n : Int) (h : n ≠ 0) : Lib.itoa n = if n < 0 then 45 :: rd n.natAbs else rd n.natAbs := by
 unfold Lib.itoa
 split
 · rw [Dg.decDigits_dl _ (by omega)]; rfl
 · rw [show n.toNat = n.natAbs by omega, Dg.decDigits_dl _ (by omega)]; rfl
theorem itoa_zero : Lib.itoa 0 = [48] := by simp [Lib.itoa, Lib.decDigits]
theorem itoa_ok (n : Int) : pOk (Lib.itoa n) ∧ pVal (Lib.itoa n) = n := by
 by_cases h : n = 0
 · subst h
   rw [itoa_zero]
   refine ⟨⟨?_, ?_, ?_⟩, ?_⟩
   · show dsOf [48] ≠ []
     decide
   · intro hx
     have := hx.2
     simp at this
   · intro c hc
     have : c = 48 := by simpa [dsOf, isNeg] using hc
     subst this
     unfold Dg.isD
     decide
   · decide
 · obtain ⟨a, b, c, d⟩ := rd_ok n.natAbs (by omega)
   rw [itoa_rd n h]
   by_cases hn : n < 0
   · rw [if_pos hn]; exact ⟨c, by rw [d]; omega⟩
   · rw [if_neg hn]; exact ⟨a, by rw [b]; omega⟩
theorem size_itoa (n : Int) (h : I64 n) : (⟨(Lib.itoa n).toArray⟩ : ByteArray).size ≤ 1000 := by
 have := Lib.itoa_length_le n h.1 h.2
 simp [ByteArray.size]; omega
def Fits (z s e : Int) : Prop := (I64 z ∧ s = z ∧ e = 0) ∨ (¬ I64 z ∧ s = 0 ∧ e = 15)
theorem Fits.i64 {z s e : Int} (h : Fits z s e) : I64 s := by
 rcases h with ⟨h, rfl, _⟩ | ⟨_, rfl, _⟩
 · exact h
 · decide
def Len (z : Int) : Prop := (Dg.dl z.natAbs).length ≤ 1000
theorem Len.of {z : Int} (h : z.natAbs ≤ 85070591730234615865843651857942052864) : Len z := by
 unfold Len
 refine Nat.le_trans (Dg.dl_len (k := 39) ?_) (by decide)
 have e : Dg.p10 39 = 1000000000000000000000000000000000000000 := by decide +kernel
 rw [e]; omega
theorem add_any (a b z s e : Int) (w : World) (ha : I64 a) (hb : I64 b) (hz : a + b = z) (hf : Fits z s e) :
   Calls Tryz.prog 41 #[.int .i64 a, .int .i64 b] w fun r w' => r = .returned (.tuple #[.int .i64 s, .int .i64 e]) ∧ Up w w' := by
 subst hz
 rcases hf with ⟨h, rfl, rfl⟩ | ⟨h, rfl, rfl⟩
 · exact add_fits a b w ha hb h
 · exact add_over a b w ha hb h
set_option maxHeartbeats 400000
def c3 (a b : Int) : Int := if a < b then -1 else if b < a then 1 else 0
def eC (i d j f : Int) : Int := if c3 i j ≠ 0 then c3 i j else c3 d f
def eOk (i d : Int) : Prop := i = 0 ∨ (i = 1 ∨ i = -1) ∧ d = 0
instance decEOk (i d : Int) : Decidable (eOk i d) := by unfold eOk; infer_instance
def eErr (i d : Int) : Int := if eOk i d then 0 else 5
theorem c3_lt {a b : Int} (h : a < b) : c3 a b = -1 := by unfold c3; rw [if_pos h]
theorem c3_gt {a b : Int} (h : b < a) : c3 a b = 1 := by unfold c3; rw [if_neg (by omega), if_pos h]
theorem c3_eq (a : Int) : c3 a a = 0 := by unfold c3; simp
theorem isNaN8 (a : Int) (w : World) : Calls Tryz.prog 112 #[.int .i8 a] w fun e w' => e = .returned (.bool false) ∧ w = w' := by
 go_enter Tryz.func112, Tryz.ntmps112
 go_wp2_with fail
 go_ret
 exact ⟨retb (by simp), rfl⟩
theorem isNaN64 (a : Int) (w : World) : Calls Tryz.prog 113 #[.int .i64 a] w fun e w' => e = .returned (.bool false) ∧ w = w' := by
 go_enter Tryz.func113, Tryz.ntmps113
 go_wp2_with fail
 go_ret
 exact ⟨retb (by simp), rfl⟩
theorem cmp8 (a b : Int) (w : World) : Calls Tryz.prog 55 #[.int .i8 a, .int .i8 b] w fun e w' => e = .returned (.int .i64 (c3 a b)) ∧ w = w' := by
 rcases Int.lt_trichotomy a b with h | h | h
 · have d1 : decide (a < b) = true := by simpa using h
   have HC := Lib.hid (c3_lt h)
   go_enter Tryz.func55, Tryz.ntmps55
   go_wp2_with fail
   refine (isNaN8 a _).mono ?_
   rintro e w1 ⟨rfl, rfl⟩
   go_wp2_with fail
   refine (isNaN8 b _).mono ?_
   rintro e w2 ⟨rfl, rfl⟩
   go_wp2_with fail
   go_ret
   exact ⟨ret1_i HC.out.symm, rfl⟩
 · subst h
   have HC := Lib.hid (c3_eq a)
   have d1 : decide (a < a) = false := by simp
   go_enter Tryz.func55, Tryz.ntmps55
   go_wp2_with fail
   refine (isNaN8 a _).mono ?_
   rintro e w1 ⟨rfl, rfl⟩
   go_wp2_with fail
   refine (isNaN8 a _).mono ?_
   rintro e w2 ⟨rfl, rfl⟩
   go_wp2_with fail
   go_ret
   exact ⟨ret1_i HC.out.symm, rfl⟩
 · have d1 : decide (a < b) = false := by simp; omega
   have d2 : decide (b < a) = true := by simpa using h
   have HC := Lib.hid (c3_gt h)
   go_enter Tryz.func55, Tryz.ntmps55
   go_wp2_with fail
   refine (isNaN8 a _).mono ?_
   rintro e w1 ⟨rfl, rfl⟩
   go_wp2_with fail
   refine (isNaN8 b _).mono ?_
   rintro e w2 ⟨rfl, rfl⟩
   go_wp2_with fail
   go_ret
   exact ⟨ret1_i HC.out.symm, rfl⟩
theorem cmp64 (a b : Int) (w : World) : Calls Tryz.prog 56 #[.int .i64 a, .int .i64 b] w fun e w' => e = .returned (.int .i64 (c3 a b)) ∧ w = w' := by
 rcases Int.lt_trichotomy a b with h | h | h
 · have d1 : decide (a < b) = true := by simpa using h
   have HC := Lib.hid (c3_lt h)
   go_enter Tryz.func56, Tryz.ntmps56
   go_wp2_with fail
   refine (isNaN64 a _).mono ?_
   rintro e w1 ⟨rfl, rfl⟩
   go_wp2_with fail
   refine (isNaN64 b _).mono ?_
   rintro e w2 ⟨rfl, rfl⟩
   go_wp2_with fail
   go_ret
   exact ⟨ret1_i HC.out.symm, rfl⟩
 · subst h
   have HC := Lib.hid (c3_eq a)
   have d1 : decide (a < a) = false := by simp
   go_enter Tryz.func56, Tryz.ntmps56
   go_wp2_with fail
   refine (isNaN64 a _).mono ?_
   rintro e w1 ⟨rfl, rfl⟩
   go_wp2_with fail
   refine (isNaN64 a _).mono ?_
   rintro e w2 ⟨rfl, rfl⟩
   go_wp2_with fail
   go_ret
   exact ⟨ret1_i HC.out.symm, rfl⟩
 · have d1 : decide (a < b) = false := by simp; omega
   have d2 : decide (b < a) = true := by simpa using h
   have HC := Lib.hid (c3_gt h)
   go_enter Tryz.func56, Tryz.ntmps56
   go_wp2_with fail
   refine (isNaN64 a _).mono ?_
   rintro e w1 ⟨rfl, rfl⟩
   go_wp2_with fail
   refine (isNaN64 b _).mono ?_
   rintro e w2 ⟨rfl, rfl⟩
   go_wp2_with fail
   go_ret
   exact ⟨ret1_i HC.out.symm, rfl⟩
def or2 (x y : Int) : Int := if x ≠ 0 then x else y
theorem cmpOr (B : Nat) (x y : Int) (w : World) (h0 : w.cell? ⟨B, 0, none⟩ = some (.int .i64 x)) (h1 : w.cell? ⟨B, 1, none⟩ = some (.int .i64 y)) :
  Calls Tryz.prog 54 #[.slice (some ⟨B, 0, none⟩) 2 2] w fun e w' => e = .returned (.int .i64 (or2 x y)) ∧ w = w' := by
 go_enter Tryz.func54, Tryz.ntmps54
 go_wp2_with fail
 go_loop [8] (fun kv => ∃ k : Int, 0 ≤ k ∧ k ≤ 2 ∧ kv = .int .i64 k ∧ (1 ≤ k → x = 0) ∧ (2 ≤ k → y = 0)) (fun kv => (2 - intOf kv).toNat)
 case atStart => exact ⟨0, by omega, by omega, rfl, by omega, by omega⟩
 case round =>
  obtain ⟨k, k0, k2, rfl, hx, hy⟩ := hrel
  have hk : k = 0 ∨ k = 1 ∨ k = 2 := by omega
  clear k0 k2
  rcases hk with rfl | rfl | rfl
  · clear hx hy
    by_cases hx : x = 0
    · subst hx
      go_wp2_with fail
      go_round
      case rel => exact ⟨1, by omega, by omega, rfl, by intros; trivial, by omega⟩
      case measure => simp [intOf]
    · have d : (x != 0) = true := by simpa using hx
      have HC := Lib.hid (show or2 x y = x by unfold or2; rw [if_pos hx])
      go_wp2_with fail
      go_ret
      exact ⟨ret1_i HC.out.symm, rfl⟩
  · obtain rfl := hx (by omega)
    clear hx hy
    by_cases hy : y = 0
    · subst hy
      go_wp2_with fail
      go_round
      case rel => exact ⟨2, by omega, by omega, rfl, by intros; trivial, by intros; trivial⟩
      case measure => simp [intOf]
    · have d : (y != 0) = true := by simpa using hy
      have HC := Lib.hid (show or2 0 y = y by unfold or2; rw [if_neg (by simp)])
      go_wp2_with fail
      go_ret
      exact ⟨ret1_i HC.out.symm, rfl⟩
  · obtain rfl := hx (by omega)
    obtain rfl := hy (by omega)
    clear hx hy
    have HC := Lib.hid (show or2 0 0 = 0 by decide)
    go_wp2_with fail
    go_ret
    exact ⟨ret1_i HC.out.symm, rfl⟩
set_option maxHeartbeats 1000000
theorem eErr_ok {i d : Int} (h : eOk i d) : eErr i d = 0 := by unfold eErr; rw [if_pos h]
theorem eErr_bad {i d : Int} (h : ¬ eOk i d) : eErr i d = 5 := by unfold eErr; rw [if_neg h]
theorem eChk (i d : Int) (w : World) : Calls Tryz.prog 91 #[.agg #[.int .i8 i, .int .i64 d]] w fun e w' => e = .returned (.int .i64 (eErr i d)) ∧ Up w w' := by
 by_cases h0 : i = 0
 · subst h0
   have HE := Lib.hid (eErr_ok (i := 0) (d := d) (Or.inl rfl))
   go_enter Tryz.func91, Tryz.ntmps91
   go_wp2_with fail
   go_ret
   exact ⟨ret1_i HE.out.symm, (Up.refl _).alloc _⟩
 · have c0 : (i == 0) = false := by simpa using h0
   by_cases h1 : i = 1
   · subst h1
     by_cases hd : d = 0
     · subst hd
       have HE := Lib.hid (eErr_ok (i := 1) (d := 0) (Or.inr ⟨Or.inl rfl, rfl⟩))
       go_enter Tryz.func91, Tryz.ntmps91
       go_wp2_with fail
       go_ret
       exact ⟨ret1_i HE.out.symm, (Up.refl _).alloc _⟩
     · have c1 : (d == 0) = false := by simpa using hd
       have HE := Lib.hid (eErr_bad (i := 1) (d := d) (by unfold eOk; omega))
       go_enter Tryz.func91, Tryz.ntmps91
       go_wp2_with fail
       go_ret
       exact ⟨ret1_i HE.out.symm, (Up.refl _).alloc _⟩
   · have c1 : (i == 1) = false := by simpa using h1
     by_cases h2 : i = -1
     · subst h2
       by_cases hd : d = 0
       · subst hd
         have HE := Lib.hid (eErr_ok (i := -1) (d := 0) (Or.inr ⟨Or.inr rfl, rfl⟩))
         go_enter Tryz.func91, Tryz.ntmps91
         go_wp2_with fail
         go_ret
         exact ⟨ret1_i HE.out.symm, (Up.refl _).alloc _⟩
       · have c2 : (d == 0) = false := by simpa using hd
         have HE := Lib.hid (eErr_bad (i := -1) (d := d) (by unfold eOk; omega))
         go_enter Tryz.func91, Tryz.ntmps91
         go_wp2_with fail
         go_ret
         exact ⟨ret1_i HE.out.symm, (Up.refl _).alloc _⟩
     · have c2 : (i == -1) = false := by simpa using h2
       have HE := Lib.hid (eErr_bad (i := i) (d := d) (by unfold eOk; omega))
       go_enter Tryz.func91, Tryz.ntmps91
       go_wp2_with fail
       go_ret
       exact ⟨ret1_i HE.out.symm, (Up.refl _).alloc _⟩
theorem eOf (d : Int) (w : World) : Calls Tryz.prog 16 #[.int .i64 d] w fun e w' => e = .returned (.agg #[.int .i8 0, .int .i64 d]) ∧ Up w w' := by
 go_enter Tryz.func16, Tryz.ntmps16
 go_wp2_with fail
 exact bodyPost_ret (v := .agg #[.int .i8 0, .int .i64 d]) (by simp [results, Tryz.results16, go_sem]) rfl ⟨rfl, (Up.refl _).alloc _⟩
theorem kE2 {W w1 w2 : World} {a0 a1 a2 a3 : Addr} {v0 v1 v2 v3 : Value} (k : Up w1 w2) (h : Up W w1 ∧ w1.cell? a0 = some v0 ∧ w1.cell? a1 = some v1 ∧ w1.cell? a2 = some v2 ∧ w1.cell? a3 = some v3) :
  Up W w2 ∧ w2.cell? a0 = some v0 ∧ w2.cell? a1 = some v1 ∧ w2.cell? a2 = some v2 ∧ w2.cell? a3 = some v3 := by
 obtain ⟨h1, c0, c1, c2, c3⟩ := h
 exact ⟨h1.trans k, k.cell c0, k.cell c1, k.cell c2, k.cell c3⟩
theorem eCmp (i d j f : Int) (w : World) : Calls Tryz.prog 15 #[.agg #[.int .i8 i, .int .i64 d], .agg #[.int .i8 j, .int .i64 f]] w fun e w' => e = .returned (.int .i64 (eC i d j f)) ∧ Up w w' := by
  obtain ⟨W, hW⟩ : ∃ W, W = (w.alloc (.cells #[.int .i8 i, .int .i64 d] 28)).alloc (.cells #[.int .i8 j, .int .i64 f] 28) := ⟨_, rfl⟩
  have u : Up w W := by rw [hW]; exact ((Up.refl _).alloc _).alloc _
  have c0 : W.cell? ⟨w.heap.size, 0, none⟩ = some (.int .i8 i) := by rw [hW]; simp [go_sem]
  have c1 : W.cell? ⟨w.heap.size, 1, none⟩ = some (.int .i64 d) := by rw [hW]; simp [go_sem]
  have c2 : W.cell? ⟨w.heap.size + 1, 0, none⟩ = some (.int .i8 j) := by rw [hW]; simp [go_sem]
  have c3' : W.cell? ⟨w.heap.size + 1, 1, none⟩ = some (.int .i64 f) := by rw [hW]; simp [go_sem]
  have hS := kE2 (W := W) (Up.refl W) ⟨Up.refl _, c0, c1, c2, c3'⟩
  have HW := Lib.hid hW
  have HC := Lib.hid (show or2 (c3 i j) (c3 d f) = eC i d j f from rfl)
  clear hW c0 c1 c2 c3'
  go_enter Tryz.func15, Tryz.ntmps15
  go_wp2_with fail
  rw [← HW.out]
  clear HW
  go_region_held3 (fun w' => Up W w' ∧ w'.cell? ⟨w.heap.size, 0, none⟩ = some (.int .i8 i) ∧ w'.cell? ⟨w.heap.size, 1, none⟩ = some (.int .i64 d) ∧ w'.cell? ⟨w.heap.size + 1, 0, none⟩ = some (.int .i8 j) ∧ w'.cell? ⟨w.heap.size + 1, 1, none⟩ = some (.int .i64 f))
    (first | exact kE2 ((Up.refl _).drew) hS | exact kE2 (((Up.refl _).alloc _).drew) hS | assumption)
    (first
      | (go_at_call 55; refine (cmp8 _ _ _).mono ?_; rintro e wa ⟨rfl, rfl⟩)
      | (go_at_call 56; refine (cmp64 _ _ _).mono ?_; rintro e wa ⟨rfl, rfl⟩)
      | (go_at_call 54; refine (cmpOr _ (c3 i j) (c3 d f) _ ?_ ?_).mono ?_; (simp [go_sem]); (simp [go_sem]); rintro e wa ⟨rfl, rfl⟩))
  all_goals
    clear hS
    go_wp2_with fail
    go_ret
    exact ⟨ret1_i HC.out, u.trans (((Up.refl _).alloc _).drew)⟩
def key (i d : Int) : Int := 36893488147419103232 * i + d
theorem eC_key {i d j f : Int} (hd : I64 d) (hf : I64 f) : eC i d j f = c3 (key i d) (key j f) := by
 unfold I64 at *
 unfold eC c3 key
 repeat' split
 all_goals omega
theorem eC_le {i d j f : Int} (hd : I64 d) (hf : I64 f) : eC i d j f ≤ 0 ↔ key i d ≤ key j f := by
 rw [eC_key hd hf]; unfold c3; repeat' split
 all_goals omega
theorem eC_lt {i d j f : Int} (hd : I64 d) (hf : I64 f) : eC i d j f < 0 ↔ key i d < key j f := by
 rw [eC_key hd hf]; unfold c3; repeat' split
 all_goals omega
theorem eC_gt {i d j f : Int} (hd : I64 d) (hf : I64 f) : 0 < eC i d j f ↔ key j f < key i d := by
 rw [eC_key hd hf]; unfold c3; repeat' split
 all_goals omega
def rnErr (a b c d : Int) : Int := if ¬ (eOk a b ∧ eOk c d) then 5 else if 0 < a ∨ c < 0 then 4 else if 0 < eC a b c d then 12 else 0
def RnOk (a b c d : Int) : Prop := eOk a b ∧ eOk c d ∧ a ≤ 0 ∧ 0 ≤ c ∧ key a b ≤ key c d
instance decRnOk (a b c d : Int) : Decidable (RnOk a b c d) := by unfold RnOk; infer_instance
theorem rnErr_ok {a b c d : Int} (hb : I64 b) (hd : I64 d) : rnErr a b c d = 0 ↔ RnOk a b c d := by
 have h := eC_gt (i := a) (j := c) hb hd
 unfold rnErr RnOk
 by_cases h1 : eOk a b ∧ eOk c d
 · rw [if_neg (by simpa using h1)]
   by_cases h2 : 0 < a ∨ c < 0
   · rw [if_pos h2]; constructor
     · intro h; cases h
     · rintro ⟨_, _, _, _, _⟩; omega
   · rw [if_neg h2]
     by_cases h3 : 0 < eC a b c d
     · rw [if_pos h3]; constructor
       · intro h; cases h
       · rintro ⟨_, _, _, _, _⟩; omega
     · rw [if_neg h3]; simp only [true_iff]; exact ⟨h1.1, h1.2, by omega, by omega, by omega⟩
 · rw [if_pos h1]; constructor
   · intro h; cases h
   · rintro ⟨h2, h3, _⟩; exact absurd ⟨h2, h3⟩ h1
def mnI (i d j f : Int) : Int := if eC j f i d < 0 then j else i
def mnD (i d j f : Int) : Int := if eC j f i d < 0 then f else d
def mxI (i d j f : Int) : Int := if 0 < eC j f i d then j else i
def mxD (i d j f : Int) : Int := if 0 < eC j f i d then f else d
theorem mn_i64 {i d j f : Int} (hd : I64 d) (hf : I64 f) : I64 (mnD i d j f) := by unfold mnD; split <;> assumption
theorem mx_i64 {i d j f : Int} (hd : I64 d) (hf : I64 f) : I64 (mxD i d j f) := by unfold mxD; split <;> assumption
theorem mn_key {i d j f : Int} (hd : I64 d) (hf : I64 f) : key (mnI i d j f) (mnD i d j f) = min (key i d) (key j f) := by
 have h := eC_lt (i := j) (j := i) hf hd
 unfold mnI mnD
 by_cases hc : eC j f i d < 0
 · rw [if_pos hc, if_pos hc]; omega
 · rw [if_neg hc, if_neg hc]; omega
theorem mx_key {i d j f : Int} (hd : I64 d) (hf : I64 f) : key (mxI i d j f) (mxD i d j f) = max (key i d) (key j f) := by
 have h := eC_gt (i := j) (j := i) hf hd
 unfold mxI mxD
 by_cases hc : 0 < eC j f i d
 · rw [if_pos hc, if_pos hc]; omega
 · rw [if_neg hc, if_neg hc]; omega
def Wi (a b c d e f g h : Int) : Prop := RnOk a b c d ∧ RnOk e f g h ∧ key e f ≤ key a b ∧ key c d ≤ key g h
def Tch (a b c d e f g h : Int) : Prop := RnOk a b c d ∧ RnOk e f g h ∧ key e f ≤ key c d + 1 ∧ key a b ≤ key g h + 1
def Meet (a b c d e f g h : Int) : Prop := RnOk a b c d ∧ RnOk e f g h ∧ key e f ≤ key c d ∧ key a b ≤ key g h
instance decWi (a b c d e f g h : Int) : Decidable (Wi a b c d e f g h) := by unfold Wi; infer_instance
instance decTch (a b c d e f g h : Int) : Decidable (Tch a b c d e f g h) := by unfold Tch; infer_instance
instance decMeet (a b c d e f g h : Int) : Decidable (Meet a b c d e f g h) := by unfold Meet; infer_instance
theorem mn_ok {i d j f : Int} (h : eOk i d) (k : eOk j f) : eOk (mnI i d j f) (mnD i d j f) := by unfold mnI mnD; split <;> assumption
theorem mx_ok {i d j f : Int} (h : eOk i d) (k : eOk j f) : eOk (mxI i d j f) (mxD i d j f) := by unfold mxI mxD; split <;> assumption
theorem common_ok {a b c d e f g h : Int} (hb : I64 b) (hd : I64 d) (hf : I64 f) (hh : I64 h) (h1 : RnOk a b c d) (h2 : RnOk e f g h) :
   RnOk (mxI a b e f) (mxD a b e f) (mnI c d g h) (mnD c d g h) ↔ Meet a b c d e f g h := by
 have k1 := mx_key (i := a) (j := e) hb hf
 have k2 := mn_key (i := c) (j := g) hd hh
 unfold Meet
 constructor
 · rintro ⟨_, _, _, _, hk⟩
   rw [k1, k2] at hk
   have := h1.2.2.2.2
   have := h2.2.2.2.2
   exact ⟨h1, h2, by omega, by omega⟩
 · rintro ⟨_, _, _, _⟩
   refine ⟨mx_ok h1.1 h2.1, mn_ok h1.2.1 h2.2.1, ?_, ?_, ?_⟩
   · have := h1.2.2.1; have := h2.2.2.1; unfold mxI; split <;> assumption
   · have := h1.2.2.2.1; have := h2.2.2.2.1; unfold mnI; split <;> assumption
   · rw [k1, k2]
     have := h1.2.2.2.2
     have := h2.2.2.2.2
     omega
set_option maxHeartbeats 800000
theorem rIs_yes (y : Int) (w : World) (hy : IsY y) :
  Calls Tryz.prog 75 #[.int .i64 y] w fun e w' => e = .returned (.bool true) ∧ w = w' := by
 obtain ⟨hy1, hy2⟩ := hy
 have c1 : decide (-10000000000000000 ≤ y) = true := by simp; omega
 have c2 : decide (y ≤ 10000000000000000) = true := by simp; omega
 go_enter Tryz.func75, Tryz.ntmps75
 go_wp2_with fail
 go_ret
 exact ⟨rfl, rfl⟩
theorem rIs_no (y : Int) (w : World) (hy : ¬ IsY y) :
   Calls Tryz.prog 75 #[.int .i64 y] w fun e w' => e = .returned (.bool false) ∧ w = w' := by
 unfold IsY at hy
 by_cases h : y < -10000000000000000
 · have c1 : decide (-10000000000000000 ≤ y) = false := by simp; omega
   go_enter Tryz.func75, Tryz.ntmps75
   go_wp2_with fail
   go_ret
   exact ⟨rfl, rfl⟩
 · have c1 : decide (-10000000000000000 ≤ y) = true := by simp; omega
   have c2 : decide (y ≤ 10000000000000000) = false := by simp; omega
   go_enter Tryz.func75, Tryz.ntmps75
   go_wp2_with fail
   go_ret
   exact ⟨rfl, rfl⟩
theorem lp_mk (y : Int) (b : Bool) (h : (y % 400 = 0 ∨ (y % 4 = 0 ∧ y % 100 ≠ 0)) ↔ b = true) : b = Cal.lp y := by
 unfold Cal.lp
 cases b <;> simp_all
theorem rLeap (y : Int) (w : World) (hy : YrB y) :
   Calls Tryz.prog 124 #[.int .i64 y] w fun e w' => e = .returned (.bool (Cal.lp y)) ∧ w = w' := by
 obtain ⟨hy1, hy2⟩ := hy
 by_cases h0 : 0 ≤ y
 · by_cases h1 : y % 400 = 0
   · have c1 : (y % 400 == 0) = true := by simp [h1]
     go_enter Tryz.func124, Tryz.ntmps124
     go_wp2_with fail
     go_ret
     exact ⟨retb (lp_mk y _ (by simp [h1])), rfl⟩
   · have c1 : (y % 400 == 0) = false := by simp [h1]
     by_cases h2 : y % 4 = 0
     · have c2 : (y % 4 == 0) = true := by simp [h2]
       by_cases h3 : y % 100 = 0
       · have c3 : (y % 100 != 0) = false := by simp [h3]
         go_enter Tryz.func124, Tryz.ntmps124
         go_wp2_with fail
         go_ret
         exact ⟨retb (lp_mk y _ (by simp; omega)), rfl⟩
       · have c3 : (y % 100 != 0) = true := by simp [h3]
         go_enter Tryz.func124, Tryz.ntmps124
         go_wp2_with fail
         go_ret
         exact ⟨retb (lp_mk y _ (by simp; omega)), rfl⟩
     · have c2 : (y % 4 == 0) = false := by simp [h2]
       go_enter Tryz.func124, Tryz.ntmps124
       go_wp2_with fail
       go_ret
       exact ⟨retb (lp_mk y _ (by simp; omega)), rfl⟩
 · have e1 := tmod_neg y 400 (by omega)
   have e2 := tmod_neg y 4 (by omega)
   have e3 := tmod_neg y 100 (by omega)
   by_cases h1 : y % 400 = 0
   · have c1 : (y.tmod 400 == 0) = true := by rw [beq_iff_eq]; omega
     clear e1 e2 e3
     go_enter Tryz.func124, Tryz.ntmps124
     go_wp2_with fail
     go_ret
     exact ⟨retb (lp_mk y _ (by simp [h1])), rfl⟩
   · have c1 : (y.tmod 400 == 0) = false := by rw [beq_eq_false_iff_ne]; omega
     by_cases h2 : y % 4 = 0
     · have c2 : (y.tmod 4 == 0) = true := by rw [beq_iff_eq]; omega
       by_cases h3 : y % 100 = 0
       · have c3 : (y.tmod 100 != 0) = false := by rw [bne_eq_false_iff_eq]; omega
         clear e1 e2 e3
         go_enter Tryz.func124, Tryz.ntmps124
         go_wp2_with fail
         go_ret
         exact ⟨retb (lp_mk y _ (by simp; omega)), rfl⟩
       · have c3 : (y.tmod 100 != 0) = true := by rw [bne_iff_ne]; omega
         clear e1 e2 e3
         go_enter Tryz.func124, Tryz.ntmps124
         go_wp2_with fail
         go_ret
         exact ⟨retb (lp_mk y _ (by simp; omega)), rfl⟩
     · have c2 : (y.tmod 4 == 0) = false := by rw [beq_eq_false_iff_ne]; omega
       clear e1 e2 e3
       go_enter Tryz.func124, Tryz.ntmps124
       go_wp2_with fail
       go_ret
       exact ⟨retb (lp_mk y _ (by simp; omega)), rfl⟩
theorem rLen (y : Int) (w : World) (hy : YrB y) :
   Calls Tryz.prog 74 #[.int .i64 y] w fun e w' => e = .returned (.int .i64 (Cal.len y)) ∧ w = w' := by
 cases hl : Cal.lp y
 · have e : Cal.len y = 365 := by unfold Cal.len Cal.lpN; rw [hl]; rfl
   rw [e]
   go_enter Tryz.func74, Tryz.ntmps74
   go_wp2_with (go_at_call 124; refine (rLeap _ _ hy).mono ?_; rintro e w1 ⟨rfl, rfl⟩)
   go_ret
   exact ⟨rfl, rfl⟩
 · have e : Cal.len y = 366 := by unfold Cal.len Cal.lpN; rw [hl]; rfl
   rw [e]
   go_enter Tryz.func74, Tryz.ntmps74
   go_wp2_with (go_at_call 124; refine (rLeap _ _ hy).mono ?_; rintro e w1 ⟨rfl, rfl⟩)
   go_ret
   exact ⟨rfl, rfl⟩
theorem len_bd (y : Int) : 365 ≤ Cal.len y ∧ Cal.len y ≤ 366 := by
 have := Cal.lpN_bd y; unfold Cal.len; omega
theorem floor_cases (y c : Int) (hc : 1 < c) : ∃ q, q = y / c ∧ c * q ≤ y ∧ y < c * q + c ∧
   ((0 ≤ y ∧ y / c = q ∧ decide (y % c < 0) = false) ∨ (y < 0 ∧ y.tdiv c = q ∧ decide (y.tmod c < 0) = false) ∨ (y < 0 ∧ y.tdiv c = q + 1 ∧ decide (y.tmod c < 0) = true)) := by
 refine ⟨y / c, rfl, ?_, ?_, ?_⟩
 · exact Int.mul_ediv_self_le (by omega)
 · have := Int.lt_mul_ediv_self_add (x := y) (k := c) (by omega); exact this
 · by_cases h : 0 ≤ y
   · left
     exact ⟨h, rfl, by have := Int.emod_nonneg y (show c ≠ 0 by omega); simp; omega⟩
   · right
     have e1 := tdiv_neg y c (by omega)
     have e2 := tmod_neg y c (by omega)
     have h6 := Int.emod_nonneg (-y) (show c ≠ 0 by omega)
     by_cases h3 : (-y) % c = 0
     · left
       have := (fdiv_neg1 y c (by omega) h3).1
       exact ⟨by omega, by omega, by rw [e2, h3]; rfl⟩
     · right
       have := (fdiv_neg2 y c (by omega) h3).1
       exact ⟨by omega, by omega, by simp; omega⟩
theorem sy_small (i : Nat) (h : i ≤ 400) : 0 ≤ Cal.sy i ∧ Cal.sy i ≤ 146097 := by
 have a := Cal.sy_mono 0 i (by omega)
 have b := Cal.sy_mono i 400 (by omega)
 rw [Cal.sy_zero] at a; rw [Cal.sy_400] at b; exact ⟨a, b⟩
theorem yr_fin (d q : Int) (i : Nat) (h1 : Cal.sy i ≤ d - q * 146097) (h2 : d - q * 146097 < Cal.sy (i + 1)) : 400 * q + (i : Int) = Cal.yr d := by
 refine (Cal.yr_of d _ ?_ ?_).symm
 · rw [Cal.sy_cycle]; omega
 · rw [Int.add_assoc, Cal.sy_cycle]; omega
theorem rOf_gen (d : Int) (b : Bool) (w : World) (hd : I64 d)
  (hb : ∀ w : World, Calls Tryz.prog 75 #[.int .i64 (Cal.yr d)] w fun e w' => e = .returned (.bool b) ∧ w = w') :
  Calls Tryz.prog 30 #[.int .i64 d] w fun e w' => e = .returned (.tuple #[.int .i64 (Cal.yr d), .bool b]) ∧ w = w' := by
 have HB := Lib.hid hb
 clear hb
 obtain ⟨hy1, hy2⟩ := hd
 obtain ⟨q, hq, q1, q2, hcase⟩ := floor_cases d 146097 (by omega)
 clear hq
 obtain ⟨r, hr⟩ : ∃ r : Int, r = d - q * 146097 := ⟨_, rfl⟩
 have r1 : 0 ≤ r := by omega
 have r2 : r < 146097 := by omega
 have hr' : d - q * 146097 = r := by omega
 have HR := Lib.hid hr'
 have hw' : wrap64 (d - wrap64 (q * 146097)) = r := by unfold wrap64; omega
 clear hr
 rcases hcase with ⟨h0, e1, c1⟩ | ⟨h0, e1, c1⟩ | ⟨h0, e1, c1⟩
 all_goals
  go_enter Tryz.func30, Tryz.ntmps30
  go_wp2_with fail
  try simp only [e1]
  try simp only [hw']
  try simp only [hr']
  clear e1 hr' hw'
  go_loop [5, 6] (fun l k => ∃ i : Nat, i ≤ 399 ∧ Cal.sy i ≤ r ∧ k = .int .i64 i ∧ l = .int .i64 (r - Cal.sy i)) (fun _ k => 400 - (intOf k).toNat)
  case atStart => exact ⟨0, by omega, by simpa [Cal.sy_zero] using r1, rfl, by simp [Cal.sy_zero]⟩
  case round =>
   obtain ⟨i, hi, hle, rfl, rfl⟩ := hrel
   have hlb := len_bd i
   have hsb := sy_small i (by omega)
   have hs := Lib.hid (Cal.sy_succ i)
   by_cases hlt : Cal.len i ≤ r - Cal.sy i
   · have hi2 : i < 399 := by
      have := Cal.sy_succ i
      have h400 := Cal.sy_400
      apply Decidable.byContradiction
      intro hc
      obtain rfl : i = 399 := by omega
      have : Cal.sy 400 ≤ r := by simp at *; omega
      omega
     go_wp2_with (go_at_call 74; refine (rLen _ _ ⟨by omega, by omega⟩).mono ?_; rintro e w1 ⟨rfl, rfl⟩)
     go_round
     case rel => exact ⟨i + 1, by omega, by push_cast; rw [hs.out]; omega, by go_num, by push_cast; rw [hs.out, Int.sub_sub]⟩
     case measure => simp [intOf]; omega
   · have hfin := yr_fin d q i (by rw [HR.out]; omega) (by rw [HR.out, hs.out]; omega)
     have HF := Lib.hid hfin
     clear hfin
     go_wp2_with (go_at_call 74; refine (rLen _ _ ⟨by omega, by omega⟩).mono ?_; rintro e w1 ⟨rfl, rfl⟩)
     rw [HF.out]
     refine (HB.out _).mono ?_
     rintro e w1 ⟨rfl, rfl⟩
     go_wp2_with fail
     go_ret2
     exact ⟨by simp, rfl⟩
theorem rOf_yes (d : Int) (w : World) (hd : I64 d) (h : IsY (Cal.yr d)) :
  Calls Tryz.prog 30 #[.int .i64 d] w fun e w' => e = .returned (.tuple #[.int .i64 (Cal.yr d), .bool true]) ∧ w = w' :=
 rOf_gen d true w hd fun w => rIs_yes _ w h
theorem rOf_no (d : Int) (w : World) (hd : I64 d) (h : ¬ IsY (Cal.yr d)) :
  Calls Tryz.prog 30 #[.int .i64 d] w fun e w' => e = .returned (.tuple #[.int .i64 (Cal.yr d), .bool false]) ∧ w = w' :=
 rOf_gen d false w hd fun w => rIs_no _ w h
end Go.Proofs.YteodjglbpfmikaaGreatDoor
