/-
  WALKS OF circa/ints: Text, Parse.
-/
import Derived.Test.YtopbbcbpanfigaaGreatDoorIntsC
import Derived.Test.YtopbbcbpanfigaaGreatDoorNatP
import Derived.Lib.SmallJoins
namespace Go.Proofs.YtopbbcbpanfigaaGreatDoor
open Go.RowKit
/-- What the library's variables hold. -/
structure EnvI (w : World) : Prop where
  tab : Lib.TabIs Tryz.prog w "internal/strconv.uint64pow10" .u64 Lib.pow10Tab
  er : ∃ tp p, w.var? Tryz.prog "strconv.ErrRange" = some #[.iface tp p]
theorem var_dn {w w' : World} {n : String} {cs : Array Value} (h : w.var? Tryz.prog n = some cs) (k : Dn w w') : w'.var? Tryz.prog n = some cs := by
  unfold World.var? at h ⊢
  cases hg : Tryz.prog.globalNamed n with
  | none => rw [hg] at h; simp at h
  | some g =>
    rw [hg] at h
    simp only [Option.bind_some] at h ⊢
    have hlt : g < w.heap.size := by
      rcases Nat.lt_or_ge g w.heap.size with hl | hl
      · exact hl
      · rw [Array.getElem?_eq_none hl] at h; simp at h
    rw [k.below.block g hlt]
    exact h
theorem EnvI.dn {w w' : World} (h : EnvI w) (k : Dn w w') : EnvI w' := by
  obtain ⟨tp, p, he⟩ := h.er
  exact ⟨var_dn h.tab k, tp, p, var_dn he k⟩
theorem EnvI.up {w w' : World} (h : EnvI w) (k : Up w w') : EnvI w' := h.dn k.dn
theorem itext (n : Int) (w : World) (hn : I64 n) (hE : EnvI w) :
    Calls Tryz.prog 43 #[.int .i64 n] w fun e w' => e = .returned (.string ⟨(Lib.itoa n).toArray⟩) ∧ Up w w' := by
  have HF := Lib.hid (Tryz.strconv_FormatInt_10 n hn.1 hn.2 w hE.tab)
  clear hn hE
  go_enter Tryz.func43, Tryz.ntmps43
  go_wp2_with fail
  refine HF.out.mono ?_
  rintro e w1 ⟨rfl, k, os, rfl⟩
  go_wp2_with fail
  go_ret
  exact ⟨rfl, Up.of_grow k os⟩
theorem has_neg (l : List UInt8) : Lib.hasPrefix l [45] = isNeg l := by
  unfold Lib.hasPrefix isNeg
  cases l with
  | nil => rfl
  | cons c r =>
    by_cases h : c = 45
    · subst h; rfl
    · have h1 : ((45 : UInt8) == c) = false := by rw [beq_eq_false_iff_ne]; exact fun e => h e.symm
      show ((45 : UInt8) == c && List.isPrefixOf [] r) = (some c == some 45)
      rw [h1]
      simp [h]
theorem trim_neg (l : List UInt8) : Lib.trimPrefix l [45] = dsOf l := by
  unfold Lib.trimPrefix dsOf
  rw [has_neg]
  rfl
theorem ds_len (l : List UInt8) : (isNeg l = true → l.length = (dsOf l).length + 1) ∧ (isNeg l = false → dsOf l = l) := by
  unfold dsOf
  constructor
  · intro h
    rw [if_pos h]
    cases l with
    | nil => simp [isNeg] at h
    | cons c r => simp
  · intro h
    rw [if_neg (by rw [h]; simp)]
/-- What Parse returns. -/
def IPost (l : List UInt8) (w : World) (e : Ending) (w' : World) : Prop :=
  Dn w w' ∧ ((pOk l ∧ I64 (pVal l) ∧ e = .returned (.tuple #[.int .i64 (pVal l), .int .i64 0])) ∨ (pOk l ∧ ¬ I64 (pVal l) ∧ e = .returned (.tuple #[.int .i64 0, .int .i64 15])) ∨ (¬ pOk l ∧ e = .returned (.tuple #[.int .i64 0, .int .i64 5])))
theorem all_step {D : ByteArray} {k : Nat} (h : k < D.size) (ha : ∀ c ∈ D.data.toList.take k, Dg.isD c) (hd : Dg.isD D[k]) : ∀ c ∈ D.data.toList.take (k + 1), Dg.isD c := by
  have h2 : k < D.data.toList.length := by rw [len_is]; exact h
  intro c hc
  rw [List.take_succ_eq_append_getElem h2] at hc
  rcases List.mem_append.1 hc with hc | hc
  · exact ha c hc
  · have := get_at D k h
    rw [List.getElem?_eq_getElem h2] at this
    rw [Option.some.inj this] at hc
    simp at hc
    subst hc
    exact hd
theorem parse64_ok {l : List UInt8} (hne : l ≠ []) (h : ∀ c ∈ l, Dg.isD c) (hl : Dg.nvA 0 l ≤ 18446744073709551615) : Lib.parseUintB 64 l = .ok (Dg.nvA 0 l) := by
  unfold Lib.parseUintB
  rw [if_neg hne]
  exact Dg.parse_ok l h 0 hl
theorem parse64_range {l : List UInt8} (hne : l ≠ []) (h : ∀ c ∈ l, Dg.isD c) (hl : 18446744073709551615 < Dg.nvA 0 l) : Lib.parseUintB 64 l = .range := by
  unfold Lib.parseUintB
  rw [if_neg hne]
  exact Dg.parse_range l h 0 (by omega) hl
theorem up_uint {w w' : World} {t : TypeId} {s : ByteArray} (h : w' = w ∨ w' = Lib.bytesWorld w t s) : Dn w w' := by
  rcases h with rfl | rfl
  · exact Dn.refl _
  · exact ⟨Joins.below_bytesWorld _ _ _ _ (Nat.le_refl _)⟩
set_option maxHeartbeats 2000000 in
set_option maxRecDepth 10000 in
theorem iparse (s : ByteArray) (w : World) (hs : s.size ≤ 1000) (hE : EnvI w) :
    Calls Tryz.prog 73 #[.string s] w (IPost s.data.toList w) := by
  have hC := fun W => Tryz.strings_CutPrefix s ⟨#[45]⟩ W
  rw [show (⟨#[45]⟩ : ByteArray).data.toList = [45] from rfl, has_neg, trim_neg] at hC
  obtain ⟨hlen1, hlen2⟩ := ds_len s.data.toList
  rw [len_is] at hlen1
  have HL1 := Lib.hid hlen1
  have HL2 := Lib.hid hlen2
  generalize hl : s.data.toList = l at *
  generalize hb : isNeg l = b at *
  obtain ⟨D, hD⟩ : ∃ D : ByteArray, D = ⟨(dsOf l).toArray⟩ := ⟨_, rfl⟩
  have hD2 : D.data.toList = dsOf l := by rw [hD]
  rw [← hD] at hC
  have HC := Lib.hid hC
  have HD := Lib.hid hD2
  have HB := Lib.hid hb
  have HLL := Lib.hid (show l.length = s.size by rw [← hl, len_is])
  have hDs : D.size ≤ 1000 := by
    have e : D.size = (dsOf l).length := by rw [← hD2, len_is]
    have h3 := HLL.out
    cases b
    · rw [e, HL2.out rfl]; omega
    · have := HL1.out rfl; omega
  clear hC hlen1 hlen2 hl hb hD hD2
  go_enter Tryz.func73, Tryz.ntmps73
  go_wp2_with fail
  refine (HC.out _).mono ?_
  rintro e w1 ⟨rfl, hw1⟩
  subst hw1
  go_wp2_with fail
  go_loop [6, 16] (fun iv kv => ∃ k : Nat, k ≤ D.size ∧ kv = .int .i64 k ∧ ∀ c ∈ D.data.toList.take k, Dg.isD c) (fun _ kv => D.size - (intOf kv).toNat)
  case atStart => exact ⟨0, by omega, rfl, by simp⟩
  case round =>
    obtain ⟨k, hk, rfl, hall⟩ := hrel
    have HA := Lib.hid hall
    clear hall
    by_cases hlt : k < D.size
    · have c1 := UInt8.toNat_lt D[k]
      have q1 : decide ((k : Int) < D.size) = true := by simp; omega
      by_cases hd : Dg.isD D[k]
      · have HDD := Lib.hid (all_step hlt HA.out hd)
        obtain ⟨d1, d2⟩ := hd
        have e1 : decide ((D[k].toNat : Int) < 48) = false := by simp; omega
        have e2 : decide (57 < (D[k].toNat : Int)) = false := by simp; omega
        go_wp2_with fail
        go_round
        case rel => exact ⟨k + 1, by omega, by go_num, HDD.out⟩
        case measure => simp [intOf]; omega
      · have NO := Lib.hid (show ¬ pOk l from fun hp => hd (hp.2.2 _ (by rw [← HD.out]; exact List.mem_of_getElem? (get_at D k hlt))))
        by_cases h48 : (D[k].toNat : Int) < 48
        · have e1 : decide ((D[k].toNat : Int) < 48) = true := by simpa using h48
          clear hd
          go_wp2_with fail
          go_ret2
          exact ⟨Dn.refl _, Or.inr (Or.inr ⟨NO.out, rfl⟩)⟩
        · have e1 : decide ((D[k].toNat : Int) < 48) = false := by simpa using h48
          have e2 : decide (57 < (D[k].toNat : Int)) = true := by unfold Dg.isD at hd; simp; omega
          clear hd
          go_wp2_with fail
          go_ret2
          exact ⟨Dn.refl _, Or.inr (Or.inr ⟨NO.out, rfl⟩)⟩
    · obtain rfl : k = D.size := by omega
      have q1 : decide ((D.size : Int) < D.size) = false := by simp
      have hall : ∀ c ∈ dsOf l, Dg.isD c := by
        have := HA.out
        rw [List.take_of_length_le (by rw [len_is]; exact Nat.le_refl _), HD.out] at this
        exact this
      have HALL := Lib.hid hall
      clear hall hk
      by_cases h0 : D.size = 0
      · have NO := Lib.hid (show ¬ pOk l from fun hp => hp.1 (List.length_eq_zero_iff.1 (by rw [← HD.out, len_is]; exact h0)))
        obtain rfl : D = ⟨#[]⟩ := by
          apply ByteArray.ext
          exact Array.eq_empty_of_size_eq_zero h0
        clear h0
        go_wp2_with fail
        go_ret2
        exact ⟨Dn.refl _, Or.inr (Or.inr ⟨NO.out, rfl⟩)⟩
      · have hpos : 0 < D.size := by omega
        have hne : dsOf l ≠ [] := fun e => h0 (by have := congrArg List.length e; rw [← HD.out, len_is] at this; simpa using this)
        have s2 : ¬ D.toList = [] := by rw [ByteArray.toList_eq, HD.out]; exact hne
        have s1 : D.toList.isEmpty = false := by simpa using s2
        have hhead : (dsOf l).head? = some D[0] := by rw [← HD.out, List.head?_eq_getElem?]; exact get_at D 0 hpos
        have HHEAD := Lib.hid hhead
        have HNE := Lib.hid hne
        clear hhead hne
        by_cases hz : D[0] = 48 ∧ (b = true ∨ 1 < D.size)
        · have NO := Lib.hid (show ¬ pOk l from fun hp => hp.2.1 ⟨by rw [HHEAD.out, hz.1], by
            have h3 := HLL.out
            rcases hz.2 with e | e
            · have := HL1.out e; rw [← HD.out, len_is] at this; omega
            · by_cases hb : b = true
              · have := HL1.out hb; rw [← HD.out, len_is] at this; omega
              · have e2 := HL2.out (by simpa using hb)
                rw [← HD.out] at e2
                rw [← e2, len_is]; exact e⟩)
          obtain ⟨z1, z2⟩ := hz
          have q2 : ((D[0].toNat : Int) == 48) = true := by rw [z1]; rfl
          cases b
          · have z3 : 1 < D.size := by simpa using z2
            have q3 : decide (1 < (D.size : Int)) = true := by rw [decide_eq_true_eq]; omega
            clear z1 z2
            go_wp2_with fail
            go_ret2
            exact ⟨Dn.refl _, Or.inr (Or.inr ⟨NO.out, rfl⟩)⟩
          · clear z1 z2
            go_wp2_with fail
            go_ret2
            exact ⟨Dn.refl _, Or.inr (Or.inr ⟨NO.out, rfl⟩)⟩
        · have OK : pOk l := ⟨HNE.out, fun hp => hz ⟨by have := hp.1; rw [HHEAD.out] at this; exact Option.some.inj this, by
            cases b
            · right
              have e2 := HL2.out rfl
              rw [← HD.out] at e2
              have := hp.2
              rw [← e2, len_is] at this; exact this
            · exact Or.inl rfl⟩, HALL.out⟩
          have HOK := Lib.hid OK
          have HPV := Lib.hid (show pVal l = sg b (Dg.nvA 0 (dsOf l)) by unfold pVal; rw [HB.out])
          have hsz : D.size ≤ 281474976710656 := by omega
          have hq : (((D[0].toNat : Int) == 48) = true ∧ b = false ∧ decide (1 < (D.size : Int)) = false ∧ ¬ 1 < D.size) ∨ (((D[0].toNat : Int) == 48) = false) := by
            by_cases z : D[0] = 48
            · left
              have hb : b = false := by
                cases b
                · rfl
                · exact absurd ⟨z, Or.inl rfl⟩ hz
              have h1 : ¬ 1 < D.size := fun h => hz ⟨z, Or.inr h⟩
              exact ⟨by rw [z]; rfl, hb, by rw [decide_eq_false_iff_not]; omega, h1⟩
            · right
              rw [beq_eq_false_iff_ne]; intro e
              exact z (UInt8.toNat_inj.1 (by simpa using (by exact_mod_cast e : D[0].toNat = 48)))
          clear hz OK
          generalize hN : Dg.nvA 0 (dsOf l) = N at *
          have HN := Lib.hid hN
          clear hN
          by_cases hr : N ≤ 18446744073709551615
          · have CP := Lib.hid (fun W => Tryz.strconv_ParseUint_10_at64_ok D (by omega) N (by rw [HD.out, ← HN.out]; exact parse64_ok HNE.out HALL.out (by rw [HN.out]; exact hr)) W)
            have SG : ∃ rx re : Int, (∀ W, Calls Tryz.prog 96 #[.int .u64 (N : Int), .bool b] W fun e w' => e = .returned (.tuple #[.int .i64 rx, .int .i64 re]) ∧ W = w') ∧ ((I64 (sg b N) ∧ rx = sg b N ∧ re = 0) ∨ (¬ I64 (sg b N) ∧ rx = 0 ∧ re = 15)) := by
              cases b
              · by_cases h : (N : Int) ≤ 9223372036854775807
                · exact ⟨N, 0, fun W => isigned_pos N W (by omega) h, Or.inl ⟨⟨by unfold sg; simp; try omega, by simpa [sg] using h⟩, by simp [sg], rfl⟩⟩
                · exact ⟨0, 15, fun W => isigned_no N false W (Or.inr ⟨rfl, by omega⟩), Or.inr ⟨fun hi => h (by have := hi.2; simpa [sg] using this), rfl, rfl⟩⟩
              · by_cases h : (N : Int) ≤ 9223372036854775808
                · exact ⟨-N, 0, fun W => isigned_neg N W (by omega) h, Or.inl ⟨⟨by unfold sg; simp; try omega, by unfold sg; simp; try omega⟩, by simp [sg], rfl⟩⟩
                · exact ⟨0, 15, fun W => isigned_no N true W (Or.inl ⟨rfl, by omega⟩), Or.inr ⟨fun hi => h (by have := hi.1; simp [sg] at this; omega), rfl, rfl⟩⟩
            obtain ⟨rx, re, CS, hcase⟩ := SG
            have HCS := Lib.hid CS
            have HCASE := Lib.hid hcase
            clear CS hcase hr
            generalize (N : Int) = N' at *
            rcases hq with ⟨q2, rfl, q3, q4⟩ | q2
            all_goals
              go_wp2_with fail
              refine (CP.out _).mono ?_
              rintro e w2 ⟨rfl, hw2⟩
              have U2 := Lib.hid (up_uint hw2)
              clear hw2
              go_wp2_with fail
              refine (HCS.out _).mono ?_
              rintro e w3 ⟨rfl, rfl⟩
              go_wp2_with fail
              go_ret2
              refine ⟨U2.out, ?_⟩
              rcases HCASE.out with ⟨g1, rfl, rfl⟩ | ⟨g1, rfl, rfl⟩
              · exact Or.inl ⟨HOK.out, by rw [HPV.out]; exact g1, by rw [HPV.out]; rfl⟩
              · exact Or.inr (Or.inl ⟨HOK.out, by rw [HPV.out]; exact g1, rfl⟩)
          · obtain ⟨tp, pp, her⟩ := hE.er
            have CP := Lib.hid (Tryz.strconv_ParseUint_10_at64_range_var D hsz (by rw [HD.out]; exact parse64_range HNE.out HALL.out (by rw [HN.out]; omega)) tp pp _ her)
            have HNI := Lib.hid (show ¬ I64 (pVal l) from fun hi => by
              rw [HPV.out] at hi
              obtain ⟨i1, i2⟩ := hi
              cases b <;> simp [sg] at i1 i2 <;> omega)
            clear hr her
            rcases hq with ⟨q2, rfl, q3, q4⟩ | q2
            all_goals
              go_wp2_with fail
              refine CP.out.mono ?_
              rintro e w2 ⟨M, rfl, _, _, hB⟩
              go_wp2_with fail
              go_ret2
              exact ⟨⟨hB⟩, Or.inr (Or.inl ⟨HOK.out, HNI.out, rfl⟩)⟩
end Go.Proofs.YtopbbcbpanfigaaGreatDoor
