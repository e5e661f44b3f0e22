/- Walks and laws that the claim's theorem leans on: part 2. -/
import Derived.Test.YtoghoddjkdoohaaGreatDoorZOf1
import Derived.Lib.SmallJoins
import Derived.Lib.ItoaLen
import Derived.IntWalk
namespace Go.Proofs.YtoghoddjkdoohaaGreatDoor
set_option maxHeartbeats 2000000
set_option maxRecDepth 10000
open Go.RowKit
structure EnvI (w : World) : Prop where
 tab : Lib.TabIs Tryz.prog w "internal/strconv.uint64pow10" .u64 Lib.pow10Tab
 er : ∃ tp p, w.var? Tryz.prog "strconv.ErrRange" = some #[.iface tp p]
theorem var_dn {w w' : World} {n : String} {cs : Array Value} (h : w.var? Tryz.prog n = some cs) (k : Dn w w') : w'.var? Tryz.prog n = some cs := by
 unfold World.var? at h ⊢
 cases hg : Tryz.prog.globalNamed n with
 | none => rw [hg] at h; simp at h
 | some g =>
   rw [hg] at h
   simp only [Option.bind_some] at h ⊢
   have hlt : g < w.heap.size := by
    rcases Nat.lt_or_ge g w.heap.size with hl | hl
    · exact hl
    · rw [Array.getElem?_eq_none hl] at h; simp at h
   rw [k.below.block g hlt]
   exact h
theorem EnvI.dn {w w' : World} (h : EnvI w) (k : Dn w w') : EnvI w' := by
 obtain ⟨tp, p, he⟩ := h.er
 exact ⟨var_dn h.tab k, tp, p, var_dn he k⟩
theorem EnvI.up {w w' : World} (h : EnvI w) (k : Up w w') : EnvI w' := h.dn k.dn
theorem has_neg (l : List UInt8) : Lib.hasPrefix l [45] = isNeg l := by
 unfold Lib.hasPrefix isNeg
 cases l with
 | nil => rfl
 | cons c r =>
   by_cases h : c = 45
   · subst h; rfl
   · have h1 : ((45 : UInt8) == c) = false := by rw [beq_eq_false_iff_ne]; exact fun e => h e.symm
     show ((45 : UInt8) == c && List.isPrefixOf [] r) = (some c == some 45)
     rw [h1]
     simp [h]
theorem trim_neg (l : List UInt8) : Lib.trimPrefix l [45] = dsOf l := by
 unfold Lib.trimPrefix dsOf
 rw [has_neg]
 rfl
theorem ds_len (l : List UInt8) : (isNeg l = true → l.length = (dsOf l).length + 1) ∧ (isNeg l = false → dsOf l = l) := by
 unfold dsOf
 constructor
 · intro h
   rw [if_pos h]
   cases l with
   | nil => simp [isNeg] at h
   | cons c r => simp
 · intro h
   rw [if_neg (by rw [h]; simp)]
def IPost (l : List UInt8) (w : World) (e : Ending) (w' : World) : Prop :=
 Dn w w' ∧ ((pOk l ∧ I64 (pVal l) ∧ e = .returned (.tuple #[.int .i64 (pVal l), .int .i64 0])) ∨ (pOk l ∧ ¬ I64 (pVal l) ∧ e = .returned (.tuple #[.int .i64 0, .int .i64 15])) ∨ (¬ pOk l ∧ e = .returned (.tuple #[.int .i64 0, .int .i64 5])))
theorem all_step {D : ByteArray} {k : Nat} (h : k < D.size) (ha : ∀ c ∈ D.data.toList.take k, Dg.isD c) (hd : Dg.isD D[k]) : ∀ c ∈ D.data.toList.take (k + 1), Dg.isD c := by
 have h2 : k < D.data.toList.length := by rw [len_is]; exact h
 intro c hc
 rw [List.take_succ_eq_append_getElem h2] at hc
 rcases List.mem_append.1 hc with hc | hc
 · exact ha c hc
 · have := get_at D k h
   rw [List.getElem?_eq_getElem h2] at this
   rw [Option.some.inj this] at hc
   simp at hc
   subst hc
   exact hd
theorem parse64_ok {l : List UInt8} (hne : l ≠ []) (h : ∀ c ∈ l, Dg.isD c) (hl : Dg.nvA 0 l ≤ 18446744073709551615) : Lib.parseUintB 64 l = .ok (Dg.nvA 0 l) := by
 unfold Lib.parseUintB
 rw [if_neg hne]
 exact Dg.parse_ok l h 0 hl
theorem parse64_range {l : List UInt8} (hne : l ≠ []) (h : ∀ c ∈ l, Dg.isD c) (hl : 18446744073709551615 < Dg.nvA 0 l) : Lib.parseUintB 64 l = .range := by
 unfold Lib.parseUintB
 rw [if_neg hne]
 exact Dg.parse_range l h 0 (by omega) hl
theorem up_uint {w w' : World} {t : TypeId} {s : ByteArray} (h : w' = w ∨ w' = Lib.bytesWorld w t s) : Dn w w' := by
 rcases h with rfl | rfl
 · exact Dn.refl _
 · exact ⟨Joins.below_bytesWorld _ _ _ _ (Nat.le_refl _)⟩
theorem iparse (s : ByteArray) (w : World) (hs : s.size ≤ 1000) (hE : EnvI w) :
  Calls Tryz.prog 145 #[.string s] w (IPost s.data.toList w) := by
 have hC := fun W => Tryz.strings_CutPrefix s ⟨#[45]⟩ W
 rw [show (⟨#[45]⟩ : ByteArray).data.toList = [45] from rfl, has_neg, trim_neg] at hC
 obtain ⟨hlen1, hlen2⟩ := ds_len s.data.toList
 rw [len_is] at hlen1
 have HL1 := Lib.hid hlen1
 have HL2 := Lib.hid hlen2
 generalize hl : s.data.toList = l at *
 generalize hb : isNeg l = b at *
 obtain ⟨D, hD⟩ : ∃ D : ByteArray, D = ⟨(dsOf l).toArray⟩ := ⟨_, rfl⟩
 have hD2 : D.data.toList = dsOf l := by rw [hD]
 rw [← hD] at hC
 have HC := Lib.hid hC
 have HD := Lib.hid hD2
 have HB := Lib.hid hb
 have HLL := Lib.hid (show l.length = s.size by rw [← hl, len_is])
 have hDs : D.size ≤ 1000 := by
  have e : D.size = (dsOf l).length := by rw [← hD2, len_is]
  have h3 := HLL.out
  cases b
  · rw [e, HL2.out rfl]; omega
  · have := HL1.out rfl; omega
 clear hC hlen1 hlen2 hl hb hD hD2
 go_enter Tryz.func145, Tryz.ntmps145
 go_wp2_with fail
 refine (HC.out _).mono ?_
 rintro e w1 ⟨rfl, hw1⟩
 subst hw1
 go_wp2_with fail
 go_loop [6, 16] (fun iv kv => ∃ k : Nat, k ≤ D.size ∧ kv = .int .i64 k ∧ ∀ c ∈ D.data.toList.take k, Dg.isD c) (fun _ kv => D.size - (intOf kv).toNat)
 case atStart => exact ⟨0, by omega, rfl, by simp⟩
 case round =>
  obtain ⟨k, hk, rfl, hall⟩ := hrel
  have HA := Lib.hid hall
  clear hall
  by_cases hlt : k < D.size
  · have c1 := UInt8.toNat_lt D[k]
    have q1 : decide ((k : Int) < D.size) = true := by simp; omega
    by_cases hd : Dg.isD D[k]
    · have HDD := Lib.hid (all_step hlt HA.out hd)
      obtain ⟨d1, d2⟩ := hd
      have e1 : decide ((D[k].toNat : Int) < 48) = false := by simp; omega
      have e2 : decide (57 < (D[k].toNat : Int)) = false := by simp; omega
      go_wp2_with fail
      go_round
      case rel => exact ⟨k + 1, by omega, by go_num, HDD.out⟩
      case measure => simp [intOf]; omega
    · have NO := Lib.hid (show ¬ pOk l from fun hp => hd (hp.2.2 _ (by rw [← HD.out]; exact List.mem_of_getElem? (get_at D k hlt))))
      by_cases h48 : (D[k].toNat : Int) < 48
      · have e1 : decide ((D[k].toNat : Int) < 48) = true := by simpa using h48
        clear hd
        go_wp2_with fail
        go_ret2
        exact ⟨Dn.refl _, Or.inr (Or.inr ⟨NO.out, rfl⟩)⟩
      · have e1 : decide ((D[k].toNat : Int) < 48) = false := by simpa using h48
        have e2 : decide (57 < (D[k].toNat : Int)) = true := by unfold Dg.isD at hd; simp; omega
        clear hd
        go_wp2_with fail
        go_ret2
        exact ⟨Dn.refl _, Or.inr (Or.inr ⟨NO.out, rfl⟩)⟩
  · obtain rfl : k = D.size := by omega
    have q1 : decide ((D.size : Int) < D.size) = false := by simp
    have hall : ∀ c ∈ dsOf l, Dg.isD c := by
      have := HA.out
      rw [List.take_of_length_le (by rw [len_is]; exact Nat.le_refl _), HD.out] at this
      exact this
    have HALL := Lib.hid hall
    clear hall hk
    by_cases h0 : D.size = 0
    · have NO := Lib.hid (show ¬ pOk l from fun hp => hp.1 (List.length_eq_zero_iff.1 (by rw [← HD.out, len_is]; exact h0)))
      obtain rfl : D = ⟨#[]⟩ := by
        apply ByteArray.ext
        exact Array.eq_empty_of_size_eq_zero h0
      clear h0
      go_wp2_with fail
      go_ret2
      exact ⟨Dn.refl _, Or.inr (Or.inr ⟨NO.out, rfl⟩)⟩
    · have hpos : 0 < D.size := by omega
      have hne : dsOf l ≠ [] := fun e => h0 (by have := congrArg List.length e; rw [← HD.out, len_is] at this; simpa using this)
      have s2 : ¬ D.toList = [] := by rw [ByteArray.toList_eq, HD.out]; exact hne
      have s1 : D.toList.isEmpty = false := by simpa using s2
      have hhead : (dsOf l).head? = some D[0] := by rw [← HD.out, List.head?_eq_getElem?]; exact get_at D 0 hpos
      have HHEAD := Lib.hid hhead
      have HNE := Lib.hid hne
      clear hhead hne
      by_cases hz : D[0] = 48 ∧ (b = true ∨ 1 < D.size)
      · have NO := Lib.hid (show ¬ pOk l from fun hp => hp.2.1 ⟨by rw [HHEAD.out, hz.1], by
          have h3 := HLL.out
          rcases hz.2 with e | e
          · have := HL1.out e; rw [← HD.out, len_is] at this; omega
          · by_cases hb : b = true
            · have := HL1.out hb; rw [← HD.out, len_is] at this; omega
            · have e2 := HL2.out (by simpa using hb)
              rw [← HD.out] at e2
              rw [← e2, len_is]; exact e⟩)
        obtain ⟨z1, z2⟩ := hz
        have q2 : ((D[0].toNat : Int) == 48) = true := by rw [z1]; rfl
        cases b
        · have z3 : 1 < D.size := by simpa using z2
          have q3 : decide (1 < (D.size : Int)) = true := by rw [decide_eq_true_eq]; omega
          clear z1 z2
          go_wp2_with fail
          go_ret2
          exact ⟨Dn.refl _, Or.inr (Or.inr ⟨NO.out, rfl⟩)⟩
        · clear z1 z2
          go_wp2_with fail
          go_ret2
          exact ⟨Dn.refl _, Or.inr (Or.inr ⟨NO.out, rfl⟩)⟩
      · have OK : pOk l := ⟨HNE.out, fun hp => hz ⟨by have := hp.1; rw [HHEAD.out] at this; exact Option.some.inj this, by
          cases b
          · right
            have e2 := HL2.out rfl
            rw [← HD.out] at e2
            have := hp.2
            rw [← e2, len_is] at this; exact this
          · exact Or.inl rfl⟩, HALL.out⟩
        have HOK := Lib.hid OK
        have HPV := Lib.hid (show pVal l = sg b (Dg.nvA 0 (dsOf l)) by unfold pVal; rw [HB.out])
        have hsz : D.size ≤ 281474976710656 := by omega
        have hq : (((D[0].toNat : Int) == 48) = true ∧ b = false ∧ decide (1 < (D.size : Int)) = false ∧ ¬ 1 < D.size) ∨ (((D[0].toNat : Int) == 48) = false) := by
          by_cases z : D[0] = 48
          · left
            have hb : b = false := by
              cases b
              · rfl
              · exact absurd ⟨z, Or.inl rfl⟩ hz
            have h1 : ¬ 1 < D.size := fun h => hz ⟨z, Or.inr h⟩
            exact ⟨by rw [z]; rfl, hb, by rw [decide_eq_false_iff_not]; omega, h1⟩
          · right
            rw [beq_eq_false_iff_ne]; intro e
            exact z (UInt8.toNat_inj.1 (by simpa using (by exact_mod_cast e : D[0].toNat = 48)))
        clear hz OK
        generalize hN : Dg.nvA 0 (dsOf l) = N at *
        have HN := Lib.hid hN
        clear hN
        by_cases hr : N ≤ 18446744073709551615
        · have CP := Lib.hid (fun W => Tryz.strconv_ParseUint_10_at64_ok D (by omega) N (by rw [HD.out, ← HN.out]; exact parse64_ok HNE.out HALL.out (by rw [HN.out]; exact hr)) W)
          have SG : ∃ rx re : Int, (∀ W, Calls Tryz.prog 160 #[.int .u64 (N : Int), .bool b] W fun e w' => e = .returned (.tuple #[.int .i64 rx, .int .i64 re]) ∧ W = w') ∧ ((I64 (sg b N) ∧ rx = sg b N ∧ re = 0) ∨ (¬ I64 (sg b N) ∧ rx = 0 ∧ re = 15)) := by
            cases b
            · by_cases h : (N : Int) ≤ 9223372036854775807
              · exact ⟨N, 0, fun W => isigned_pos N W (by omega) h, Or.inl ⟨⟨by unfold sg; simp; try omega, by simpa [sg] using h⟩, by simp [sg], rfl⟩⟩
              · exact ⟨0, 15, fun W => isigned_no N false W (Or.inr ⟨rfl, by omega⟩), Or.inr ⟨fun hi => h (by have := hi.2; simpa [sg] using this), rfl, rfl⟩⟩
            · by_cases h : (N : Int) ≤ 9223372036854775808
              · exact ⟨-N, 0, fun W => isigned_neg N W (by omega) h, Or.inl ⟨⟨by unfold sg; simp; try omega, by unfold sg; simp; try omega⟩, by simp [sg], rfl⟩⟩
              · exact ⟨0, 15, fun W => isigned_no N true W (Or.inl ⟨rfl, by omega⟩), Or.inr ⟨fun hi => h (by have := hi.1; simp [sg] at this; omega), rfl, rfl⟩⟩
          obtain ⟨rx, re, CS, hcase⟩ := SG
          have HCS := Lib.hid CS
          have HCASE := Lib.hid hcase
          clear CS hcase hr
          generalize (N : Int) = N' at *
          rcases hq with ⟨q2, rfl, q3, q4⟩ | q2
          all_goals
            go_wp2_with fail
            refine (CP.out _).mono ?_
            rintro e w2 ⟨rfl, hw2⟩
            have U2 := Lib.hid (up_uint hw2)
            clear hw2
            go_wp2_with fail
            refine (HCS.out _).mono ?_
            rintro e w3 ⟨rfl, rfl⟩
            go_wp2_with fail
            go_ret2
            refine ⟨U2.out, ?_⟩
            rcases HCASE.out with ⟨g1, rfl, rfl⟩ | ⟨g1, rfl, rfl⟩
            · exact Or.inl ⟨HOK.out, by rw [HPV.out]; exact g1, by rw [HPV.out]; rfl⟩
            · exact Or.inr (Or.inl ⟨HOK.out, by rw [HPV.out]; exact g1, rfl⟩)
        · obtain ⟨tp, pp, her⟩ := hE.er
          have CP := Lib.hid (Tryz.strconv_ParseUint_10_at64_range_var D hsz (by rw [HD.out]; exact parse64_range HNE.out HALL.out (by rw [HN.out]; omega)) tp pp _ her)
          have HNI := Lib.hid (show ¬ I64 (pVal l) from fun hi => by
            rw [HPV.out] at hi
            obtain ⟨i1, i2⟩ := hi
            cases b <;> simp [sg] at i1 i2 <;> omega)
          clear hr her
          rcases hq with ⟨q2, rfl, q3, q4⟩ | q2
          all_goals
            go_wp2_with fail
            refine CP.out.mono ?_
            rintro e w2 ⟨M, rfl, _, _, hB⟩
            go_wp2_with fail
            go_ret2
            exact ⟨⟨hB⟩, Or.inr (Or.inl ⟨HOK.out, HNI.out, rfl⟩)⟩
instance decOk (l : List UInt8) : Decidable (pOk l) := by unfold pOk Dg.isD; infer_instance
theorem iparse_ok (s : ByteArray) (n : Int) (w : World) (hs : s.size ≤ 1000) (hp : pOk s.data.toList) (hv : pVal s.data.toList = n) (hi : I64 n) (hE : EnvI w) :
   Calls Tryz.prog 145 #[.string s] w fun e w' => e = .returned (.tuple #[.int .i64 n, .int .i64 0]) ∧ Dn w w' := by
 subst hv
 refine (iparse s w hs hE).mono ?_
 rintro e w' ⟨hd, ⟨_, _, h⟩ | ⟨_, h, _⟩ | ⟨h, _⟩⟩
 · exact ⟨h, hd⟩
 · exact absurd hi h
 · exact absurd hp h
theorem iparse_over (s : ByteArray) (w : World) (hs : s.size ≤ 1000) (hp : pOk s.data.toList) (hi : ¬ I64 (pVal s.data.toList)) (hE : EnvI w) :
   Calls Tryz.prog 145 #[.string s] w fun e w' => e = .returned (.tuple #[.int .i64 0, .int .i64 15]) ∧ Dn w w' := by
 refine (iparse s w hs hE).mono ?_
 rintro e w' ⟨hd, ⟨_, h, _⟩ | ⟨_, _, h⟩ | ⟨h, _⟩⟩
 · exact absurd h hi
 · exact ⟨h, hd⟩
 · exact absurd hp h
theorem iparse_bad (s : ByteArray) (w : World) (hs : s.size ≤ 1000) (hp : ¬ pOk s.data.toList) (hE : EnvI w) :
   Calls Tryz.prog 145 #[.string s] w fun e w' => e = .returned (.tuple #[.int .i64 0, .int .i64 5]) ∧ Dn w w' := by
 refine (iparse s w hs hE).mono ?_
 rintro e w' ⟨hd, ⟨h, _⟩ | ⟨h, _⟩ | ⟨_, h⟩⟩
 · exact absurd h hp
 · exact absurd h hp
 · exact ⟨h, hd⟩
def rd (u : Nat) : List UInt8 := (Dg.dl u).reverse.map Dg.ch
def Fits (z s e : Int) : Prop := (I64 z ∧ s = z ∧ e = 0) ∨ (¬ I64 z ∧ s = 0 ∧ e = 15)
theorem Fits.i64 {z s e : Int} (h : Fits z s e) : I64 s := by
 rcases h with ⟨h, rfl, _⟩ | ⟨_, rfl, _⟩
 · exact h
 · decide
def Len (z : Int) : Prop := (Dg.dl z.natAbs).length ≤ 1000
theorem Len.of {z : Int} (h : z.natAbs ≤ 85070591730234615865843651857942052864) : Len z := by
 unfold Len
 refine Nat.le_trans (Dg.dl_len (k := 39) ?_) (by decide)
 have e : Dg.p10 39 = 1000000000000000000000000000000000000000 := by decide +kernel
 rw [e]; omega
theorem add_any (a b z s e : Int) (w : World) (ha : I64 a) (hb : I64 b) (hz : a + b = z) (hf : Fits z s e) :
   Calls Tryz.prog 57 #[.int .i64 a, .int .i64 b] w fun r w' => r = .returned (.tuple #[.int .i64 s, .int .i64 e]) ∧ Up w w' := by
 subst hz
 rcases hf with ⟨h, rfl, rfl⟩ | ⟨h, rfl, rfl⟩
 · exact add_fits a b w ha hb h
 · exact add_over a b w ha hb h
set_option maxHeartbeats 400000
def c3 (a b : Int) : Int := if a < b then -1 else if b < a then 1 else 0
def eC (i d j f : Int) : Int := if c3 i j ≠ 0 then c3 i j else c3 d f
def eOk (i d : Int) : Prop := i = 0 ∨ (i = 1 ∨ i = -1) ∧ d = 0
instance decEOk (i d : Int) : Decidable (eOk i d) := by unfold eOk; infer_instance
def eErr (i d : Int) : Int := if eOk i d then 0 else 5
theorem c3_lt {a b : Int} (h : a < b) : c3 a b = -1 := by unfold c3; rw [if_pos h]
theorem c3_gt {a b : Int} (h : b < a) : c3 a b = 1 := by unfold c3; rw [if_neg (by omega), if_pos h]
theorem c3_eq (a : Int) : c3 a a = 0 := by unfold c3; simp
theorem isNaN8 (a : Int) (w : World) : Calls Tryz.prog 138 #[.int .i8 a] w fun e w' => e = .returned (.bool false) ∧ w = w' := by
 go_enter Tryz.func138, Tryz.ntmps138
 go_wp2_with fail
 go_ret
 exact ⟨retb (by simp), rfl⟩
theorem isNaN64 (a : Int) (w : World) : Calls Tryz.prog 139 #[.int .i64 a] w fun e w' => e = .returned (.bool false) ∧ w = w' := by
 go_enter Tryz.func139, Tryz.ntmps139
 go_wp2_with fail
 go_ret
 exact ⟨retb (by simp), rfl⟩
theorem cmp8 (a b : Int) (w : World) : Calls Tryz.prog 106 #[.int .i8 a, .int .i8 b] w fun e w' => e = .returned (.int .i64 (c3 a b)) ∧ w = w' := by
 rcases Int.lt_trichotomy a b with h | h | h
 · have d1 : decide (a < b) = true := by simpa using h
   have HC := Lib.hid (c3_lt h)
   go_enter Tryz.func106, Tryz.ntmps106
   go_wp2_with fail
   refine (isNaN8 a _).mono ?_
   rintro e w1 ⟨rfl, rfl⟩
   go_wp2_with fail
   refine (isNaN8 b _).mono ?_
   rintro e w2 ⟨rfl, rfl⟩
   go_wp2_with fail
   go_ret
   exact ⟨ret1_i HC.out.symm, rfl⟩
 · subst h
   have HC := Lib.hid (c3_eq a)
   have d1 : decide (a < a) = false := by simp
   go_enter Tryz.func106, Tryz.ntmps106
   go_wp2_with fail
   refine (isNaN8 a _).mono ?_
   rintro e w1 ⟨rfl, rfl⟩
   go_wp2_with fail
   refine (isNaN8 a _).mono ?_
   rintro e w2 ⟨rfl, rfl⟩
   go_wp2_with fail
   go_ret
   exact ⟨ret1_i HC.out.symm, rfl⟩
 · have d1 : decide (a < b) = false := by simp; omega
   have d2 : decide (b < a) = true := by simpa using h
   have HC := Lib.hid (c3_gt h)
   go_enter Tryz.func106, Tryz.ntmps106
   go_wp2_with fail
   refine (isNaN8 a _).mono ?_
   rintro e w1 ⟨rfl, rfl⟩
   go_wp2_with fail
   refine (isNaN8 b _).mono ?_
   rintro e w2 ⟨rfl, rfl⟩
   go_wp2_with fail
   go_ret
   exact ⟨ret1_i HC.out.symm, rfl⟩
theorem cmp64 (a b : Int) (w : World) : Calls Tryz.prog 107 #[.int .i64 a, .int .i64 b] w fun e w' => e = .returned (.int .i64 (c3 a b)) ∧ w = w' := by
 rcases Int.lt_trichotomy a b with h | h | h
 · have d1 : decide (a < b) = true := by simpa using h
   have HC := Lib.hid (c3_lt h)
   go_enter Tryz.func107, Tryz.ntmps107
   go_wp2_with fail
   refine (isNaN64 a _).mono ?_
   rintro e w1 ⟨rfl, rfl⟩
   go_wp2_with fail
   refine (isNaN64 b _).mono ?_
   rintro e w2 ⟨rfl, rfl⟩
   go_wp2_with fail
   go_ret
   exact ⟨ret1_i HC.out.symm, rfl⟩
 · subst h
   have HC := Lib.hid (c3_eq a)
   have d1 : decide (a < a) = false := by simp
   go_enter Tryz.func107, Tryz.ntmps107
   go_wp2_with fail
   refine (isNaN64 a _).mono ?_
   rintro e w1 ⟨rfl, rfl⟩
   go_wp2_with fail
   refine (isNaN64 a _).mono ?_
   rintro e w2 ⟨rfl, rfl⟩
   go_wp2_with fail
   go_ret
   exact ⟨ret1_i HC.out.symm, rfl⟩
 · have d1 : decide (a < b) = false := by simp; omega
   have d2 : decide (b < a) = true := by simpa using h
   have HC := Lib.hid (c3_gt h)
   go_enter Tryz.func107, Tryz.ntmps107
   go_wp2_with fail
   refine (isNaN64 a _).mono ?_
   rintro e w1 ⟨rfl, rfl⟩
   go_wp2_with fail
   refine (isNaN64 b _).mono ?_
   rintro e w2 ⟨rfl, rfl⟩
   go_wp2_with fail
   go_ret
   exact ⟨ret1_i HC.out.symm, rfl⟩
def or2 (x y : Int) : Int := if x ≠ 0 then x else y
theorem cmpOr (B : Nat) (x y : Int) (w : World) (h0 : w.cell? ⟨B, 0, none⟩ = some (.int .i64 x)) (h1 : w.cell? ⟨B, 1, none⟩ = some (.int .i64 y)) :
  Calls Tryz.prog 87 #[.slice (some ⟨B, 0, none⟩) 2 2] w fun e w' => e = .returned (.int .i64 (or2 x y)) ∧ w = w' := by
 go_enter Tryz.func87, Tryz.ntmps87
 go_wp2_with fail
 go_loop [8] (fun kv => ∃ k : Int, 0 ≤ k ∧ k ≤ 2 ∧ kv = .int .i64 k ∧ (1 ≤ k → x = 0) ∧ (2 ≤ k → y = 0)) (fun kv => (2 - intOf kv).toNat)
 case atStart => exact ⟨0, by omega, by omega, rfl, by omega, by omega⟩
 case round =>
  obtain ⟨k, k0, k2, rfl, hx, hy⟩ := hrel
  have hk : k = 0 ∨ k = 1 ∨ k = 2 := by omega
  clear k0 k2
  rcases hk with rfl | rfl | rfl
  · clear hx hy
    by_cases hx : x = 0
    · subst hx
      go_wp2_with fail
      go_round
      case rel => exact ⟨1, by omega, by omega, rfl, by intros; trivial, by omega⟩
      case measure => simp [intOf]
    · have d : (x != 0) = true := by simpa using hx
      have HC := Lib.hid (show or2 x y = x by unfold or2; rw [if_pos hx])
      go_wp2_with fail
      go_ret
      exact ⟨ret1_i HC.out.symm, rfl⟩
  · obtain rfl := hx (by omega)
    clear hx hy
    by_cases hy : y = 0
    · subst hy
      go_wp2_with fail
      go_round
      case rel => exact ⟨2, by omega, by omega, rfl, by intros; trivial, by intros; trivial⟩
      case measure => simp [intOf]
    · have d : (y != 0) = true := by simpa using hy
      have HC := Lib.hid (show or2 0 y = y by unfold or2; rw [if_neg (by simp)])
      go_wp2_with fail
      go_ret
      exact ⟨ret1_i HC.out.symm, rfl⟩
  · obtain rfl := hx (by omega)
    obtain rfl := hy (by omega)
    clear hx hy
    have HC := Lib.hid (show or2 0 0 = 0 by decide)
    go_wp2_with fail
    go_ret
    exact ⟨ret1_i HC.out.symm, rfl⟩
set_option maxHeartbeats 1000000
theorem eErr_ok {i d : Int} (h : eOk i d) : eErr i d = 0 := by unfold eErr; rw [if_pos h]
theorem eErr_bad {i d : Int} (h : ¬ eOk i d) : eErr i d = 5 := by unfold eErr; rw [if_neg h]
theorem eChk (i d : Int) (w : World) : Calls Tryz.prog 83 #[.agg #[.int .i8 i, .int .i64 d]] w fun e w' => e = .returned (.int .i64 (eErr i d)) ∧ Up w w' := by
 by_cases h0 : i = 0
 · subst h0
   have HE := Lib.hid (eErr_ok (i := 0) (d := d) (Or.inl rfl))
   go_enter Tryz.func83, Tryz.ntmps83
   go_wp2_with fail
   go_ret
   exact ⟨ret1_i HE.out.symm, (Up.refl _).alloc _⟩
 · have c0 : (i == 0) = false := by simpa using h0
   by_cases h1 : i = 1
   · subst h1
     by_cases hd : d = 0
     · subst hd
       have HE := Lib.hid (eErr_ok (i := 1) (d := 0) (Or.inr ⟨Or.inl rfl, rfl⟩))
       go_enter Tryz.func83, Tryz.ntmps83
       go_wp2_with fail
       go_ret
       exact ⟨ret1_i HE.out.symm, (Up.refl _).alloc _⟩
     · have c1 : (d == 0) = false := by simpa using hd
       have HE := Lib.hid (eErr_bad (i := 1) (d := d) (by unfold eOk; omega))
       go_enter Tryz.func83, Tryz.ntmps83
       go_wp2_with fail
       go_ret
       exact ⟨ret1_i HE.out.symm, (Up.refl _).alloc _⟩
   · have c1 : (i == 1) = false := by simpa using h1
     by_cases h2 : i = -1
     · subst h2
       by_cases hd : d = 0
       · subst hd
         have HE := Lib.hid (eErr_ok (i := -1) (d := 0) (Or.inr ⟨Or.inr rfl, rfl⟩))
         go_enter Tryz.func83, Tryz.ntmps83
         go_wp2_with fail
         go_ret
         exact ⟨ret1_i HE.out.symm, (Up.refl _).alloc _⟩
       · have c2 : (d == 0) = false := by simpa using hd
         have HE := Lib.hid (eErr_bad (i := -1) (d := d) (by unfold eOk; omega))
         go_enter Tryz.func83, Tryz.ntmps83
         go_wp2_with fail
         go_ret
         exact ⟨ret1_i HE.out.symm, (Up.refl _).alloc _⟩
     · have c2 : (i == -1) = false := by simpa using h2
       have HE := Lib.hid (eErr_bad (i := i) (d := d) (by unfold eOk; omega))
       go_enter Tryz.func83, Tryz.ntmps83
       go_wp2_with fail
       go_ret
       exact ⟨ret1_i HE.out.symm, (Up.refl _).alloc _⟩
theorem rChk8 (i d : Int) (w : World) : Calls Tryz.prog 88 #[.agg #[.int .i8 i, .int .i64 d]] w fun e w' => e = .returned (.int .i64 (eErr i d)) ∧ Up w w' := by
 by_cases h0 : i = 0
 · subst h0
   have HE := Lib.hid (eErr_ok (i := 0) (d := d) (Or.inl rfl))
   go_enter Tryz.func88, Tryz.ntmps88
   go_wp2_with fail
   go_ret
   exact ⟨ret1_i HE.out.symm, (Up.refl _).alloc _⟩
 · have c0 : (i == 0) = false := by simpa using h0
   by_cases hd : d = 0
   · subst hd
     by_cases h1 : i = 1
     · subst h1
       have HE := Lib.hid (eErr_ok (i := 1) (d := 0) (Or.inr ⟨Or.inl rfl, rfl⟩))
       go_enter Tryz.func88, Tryz.ntmps88
       go_wp2_with fail
       go_ret
       exact ⟨ret1_i HE.out.symm, (Up.refl _).alloc _⟩
     · have c1 : (i == 1) = false := by simpa using h1
       by_cases h2 : i = -1
       · subst h2
         have HE := Lib.hid (eErr_ok (i := -1) (d := 0) (Or.inr ⟨Or.inr rfl, rfl⟩))
         go_enter Tryz.func88, Tryz.ntmps88
         go_wp2_with fail
         go_ret
         exact ⟨ret1_i HE.out.symm, (Up.refl _).alloc _⟩
       · have c2 : (i == -1) = false := by simpa using h2
         have HE := Lib.hid (eErr_bad (i := i) (d := 0) (by unfold eOk; omega))
         go_enter Tryz.func88, Tryz.ntmps88
         go_wp2_with fail
         go_ret
         exact ⟨ret1_i HE.out.symm, (Up.refl _).alloc _⟩
   · have c3 : (d == 0) = false := by simpa using hd
     have HE := Lib.hid (eErr_bad (i := i) (d := d) (by unfold eOk; omega))
     by_cases h1 : i = 1
     · subst h1
       go_enter Tryz.func88, Tryz.ntmps88
       go_wp2_with fail
       go_ret
       exact ⟨ret1_i HE.out.symm, (Up.refl _).alloc _⟩
     · have c1 : (i == 1) = false := by simpa using h1
       by_cases h2 : i = -1
       · subst h2
         go_enter Tryz.func88, Tryz.ntmps88
         go_wp2_with fail
         go_ret
         exact ⟨ret1_i HE.out.symm, (Up.refl _).alloc _⟩
       · have c2 : (i == -1) = false := by simpa using h2
         go_enter Tryz.func88, Tryz.ntmps88
         go_wp2_with fail
         go_ret
         exact ⟨ret1_i HE.out.symm, (Up.refl _).alloc _⟩
theorem eOf (d : Int) (w : World) : Calls Tryz.prog 93 #[.int .i64 d] w fun e w' => e = .returned (.agg #[.int .i8 0, .int .i64 d]) ∧ Up w w' := by
 go_enter Tryz.func93, Tryz.ntmps93
 go_wp2_with fail
 exact bodyPost_ret (v := .agg #[.int .i8 0, .int .i64 d]) (by simp [results, Tryz.results93, go_sem]) rfl ⟨rfl, (Up.refl _).alloc _⟩
theorem kE2 {W w1 w2 : World} {a0 a1 a2 a3 : Addr} {v0 v1 v2 v3 : Value} (k : Up w1 w2) (h : Up W w1 ∧ w1.cell? a0 = some v0 ∧ w1.cell? a1 = some v1 ∧ w1.cell? a2 = some v2 ∧ w1.cell? a3 = some v3) :
  Up W w2 ∧ w2.cell? a0 = some v0 ∧ w2.cell? a1 = some v1 ∧ w2.cell? a2 = some v2 ∧ w2.cell? a3 = some v3 := by
 obtain ⟨h1, c0, c1, c2, c3⟩ := h
 exact ⟨h1.trans k, k.cell c0, k.cell c1, k.cell c2, k.cell c3⟩
theorem eCmp (i d j f : Int) (w : World) : Calls Tryz.prog 66 #[.agg #[.int .i8 i, .int .i64 d], .agg #[.int .i8 j, .int .i64 f]] w fun e w' => e = .returned (.int .i64 (eC i d j f)) ∧ Up w w' := by
  obtain ⟨W, hW⟩ : ∃ W, W = (w.alloc (.cells #[.int .i8 i, .int .i64 d] 41)).alloc (.cells #[.int .i8 j, .int .i64 f] 41) := ⟨_, rfl⟩
  have u : Up w W := by rw [hW]; exact ((Up.refl _).alloc _).alloc _
  have c0 : W.cell? ⟨w.heap.size, 0, none⟩ = some (.int .i8 i) := by rw [hW]; simp [go_sem]
  have c1 : W.cell? ⟨w.heap.size, 1, none⟩ = some (.int .i64 d) := by rw [hW]; simp [go_sem]
  have c2 : W.cell? ⟨w.heap.size + 1, 0, none⟩ = some (.int .i8 j) := by rw [hW]; simp [go_sem]
  have c3' : W.cell? ⟨w.heap.size + 1, 1, none⟩ = some (.int .i64 f) := by rw [hW]; simp [go_sem]
  have hS := kE2 (W := W) (Up.refl W) ⟨Up.refl _, c0, c1, c2, c3'⟩
  have HW := Lib.hid hW
  have HC := Lib.hid (show or2 (c3 i j) (c3 d f) = eC i d j f from rfl)
  clear hW c0 c1 c2 c3'
  go_enter Tryz.func66, Tryz.ntmps66
  go_wp2_with fail
  rw [← HW.out]
  clear HW
  go_region_held3 (fun w' => Up W w' ∧ w'.cell? ⟨w.heap.size, 0, none⟩ = some (.int .i8 i) ∧ w'.cell? ⟨w.heap.size, 1, none⟩ = some (.int .i64 d) ∧ w'.cell? ⟨w.heap.size + 1, 0, none⟩ = some (.int .i8 j) ∧ w'.cell? ⟨w.heap.size + 1, 1, none⟩ = some (.int .i64 f))
    (first | exact kE2 ((Up.refl _).drew) hS | exact kE2 (((Up.refl _).alloc _).drew) hS | assumption)
    (first
      | (go_at_call 106; refine (cmp8 _ _ _).mono ?_; rintro e wa ⟨rfl, rfl⟩)
      | (go_at_call 107; refine (cmp64 _ _ _).mono ?_; rintro e wa ⟨rfl, rfl⟩)
      | (go_at_call 87; refine (cmpOr _ (c3 i j) (c3 d f) _ ?_ ?_).mono ?_; (simp [go_sem]); (simp [go_sem]); rintro e wa ⟨rfl, rfl⟩))
  all_goals
    clear hS
    go_wp2_with fail
    go_ret
    exact ⟨ret1_i HC.out, u.trans (((Up.refl _).alloc _).drew)⟩
theorem eC_lt1 {i d j f : Int} (h : i < j) : eC i d j f = -1 := by unfold eC; rw [c3_lt h]; simp
theorem eC_gt1 {i d j f : Int} (h : j < i) : eC i d j f = 1 := by unfold eC; rw [c3_gt h]; simp
theorem eC_eq1 (i d f : Int) : eC i d i f = c3 d f := by unfold eC; rw [c3_eq]; simp
theorem rCmp8 (i d j f : Int) (w : World) : Calls Tryz.prog 48 #[.agg #[.int .i8 i, .int .i64 d], .agg #[.int .i8 j, .int .i64 f]] w fun e w' => e = .returned (.int .i64 (eC i d j f)) ∧ Up w w' := by
 rcases Int.lt_trichotomy i j with h | h | h
 · have d1 : decide (i < j) = true := by simpa using h
   have HC := Lib.hid (eC_lt1 (d := d) (f := f) h)
   clear h
   go_enter Tryz.func48, Tryz.ntmps48
   go_wp2_with fail
   go_ret
   exact ⟨ret1_i HC.out.symm, ((Up.refl _).alloc _).alloc _⟩
 · subst h
   have e0 := eC_eq1 i d f
   have d0 : decide (i < i) = false := by simp
   rcases Int.lt_trichotomy d f with h | h | h
   · have d1 : decide (d < f) = true := by simpa using h
     have HC := Lib.hid (e0.trans (c3_lt h))
     clear h e0
     go_enter Tryz.func48, Tryz.ntmps48
     go_wp2_with fail
     go_ret
     exact ⟨ret1_i HC.out.symm, ((Up.refl _).alloc _).alloc _⟩
   · subst h
     have HC := Lib.hid (e0.trans (c3_eq d))
     have d1 : decide (d < d) = false := by simp
     clear e0
     go_enter Tryz.func48, Tryz.ntmps48
     go_wp2_with fail
     go_ret
     exact ⟨ret1_i HC.out.symm, ((Up.refl _).alloc _).alloc _⟩
   · have d1 : decide (d < f) = false := by simp; omega
     have d2 : decide (f < d) = true := by simpa using h
     have HC := Lib.hid (e0.trans (c3_gt h))
     clear h e0
     go_enter Tryz.func48, Tryz.ntmps48
     go_wp2_with fail
     go_ret
     exact ⟨ret1_i HC.out.symm, ((Up.refl _).alloc _).alloc _⟩
 · have d1 : decide (i < j) = false := by simp; omega
   have d2 : decide (j < i) = true := by simpa using h
   have HC := Lib.hid (eC_gt1 (d := d) (f := f) h)
   clear h
   go_enter Tryz.func48, Tryz.ntmps48
   go_wp2_with fail
   go_ret
   exact ⟨ret1_i HC.out.symm, ((Up.refl _).alloc _).alloc _⟩
def key (i d : Int) : Int := 36893488147419103232 * i + d
theorem eC_key {i d j f : Int} (hd : I64 d) (hf : I64 f) : eC i d j f = c3 (key i d) (key j f) := by
 unfold I64 at *
 unfold eC c3 key
 repeat' split
 all_goals omega
theorem eC_le {i d j f : Int} (hd : I64 d) (hf : I64 f) : eC i d j f ≤ 0 ↔ key i d ≤ key j f := by
 rw [eC_key hd hf]; unfold c3; repeat' split
 all_goals omega
theorem eC_lt {i d j f : Int} (hd : I64 d) (hf : I64 f) : eC i d j f < 0 ↔ key i d < key j f := by
 rw [eC_key hd hf]; unfold c3; repeat' split
 all_goals omega
theorem eC_gt {i d j f : Int} (hd : I64 d) (hf : I64 f) : 0 < eC i d j f ↔ key j f < key i d := by
 rw [eC_key hd hf]; unfold c3; repeat' split
 all_goals omega
theorem key_inj {i d j f : Int} (hd : I64 d) (hf : I64 f) : key i d = key j f ↔ i = j ∧ d = f := by
 unfold I64 at *
 unfold key
 omega
def rnErr (a b c d : Int) : Int := if ¬ (eOk a b ∧ eOk c d) then 5 else if 0 < a ∨ c < 0 then 4 else if 0 < eC a b c d then 12 else 0
def RnOk (a b c d : Int) : Prop := eOk a b ∧ eOk c d ∧ a ≤ 0 ∧ 0 ≤ c ∧ key a b ≤ key c d
instance decRnOk (a b c d : Int) : Decidable (RnOk a b c d) := by unfold RnOk; infer_instance
theorem rnErr_ok {a b c d : Int} (hb : I64 b) (hd : I64 d) : rnErr a b c d = 0 ↔ RnOk a b c d := by
 have h := eC_gt (i := a) (j := c) hb hd
 unfold rnErr RnOk
 by_cases h1 : eOk a b ∧ eOk c d
 · rw [if_neg (by simpa using h1)]
   by_cases h2 : 0 < a ∨ c < 0
   · rw [if_pos h2]; constructor
     · intro h; cases h
     · rintro ⟨_, _, _, _, _⟩; omega
   · rw [if_neg h2]
     by_cases h3 : 0 < eC a b c d
     · rw [if_pos h3]; constructor
       · intro h; cases h
       · rintro ⟨_, _, _, _, _⟩; omega
     · rw [if_neg h3]; simp only [true_iff]; exact ⟨h1.1, h1.2, by omega, by omega, by omega⟩
 · rw [if_pos h1]; constructor
   · intro h; cases h
   · rintro ⟨h2, h3, _⟩; exact absurd ⟨h2, h3⟩ h1
def mnI (i d j f : Int) : Int := if eC j f i d < 0 then j else i
def mnD (i d j f : Int) : Int := if eC j f i d < 0 then f else d
def mxI (i d j f : Int) : Int := if 0 < eC j f i d then j else i
def mxD (i d j f : Int) : Int := if 0 < eC j f i d then f else d
theorem mn_i64 {i d j f : Int} (hd : I64 d) (hf : I64 f) : I64 (mnD i d j f) := by unfold mnD; split <;> assumption
theorem mx_i64 {i d j f : Int} (hd : I64 d) (hf : I64 f) : I64 (mxD i d j f) := by unfold mxD; split <;> assumption
theorem mn_key {i d j f : Int} (hd : I64 d) (hf : I64 f) : key (mnI i d j f) (mnD i d j f) = min (key i d) (key j f) := by
 have h := eC_lt (i := j) (j := i) hf hd
 unfold mnI mnD
 by_cases hc : eC j f i d < 0
 · rw [if_pos hc, if_pos hc]; omega
 · rw [if_neg hc, if_neg hc]; omega
theorem mx_key {i d j f : Int} (hd : I64 d) (hf : I64 f) : key (mxI i d j f) (mxD i d j f) = max (key i d) (key j f) := by
 have h := eC_gt (i := j) (j := i) hf hd
 unfold mxI mxD
 by_cases hc : 0 < eC j f i d
 · rw [if_pos hc, if_pos hc]; omega
 · rw [if_neg hc, if_neg hc]; omega
def Wi (a b c d e f g h : Int) : Prop := RnOk a b c d ∧ RnOk e f g h ∧ key e f ≤ key a b ∧ key c d ≤ key g h
def Tch (a b c d e f g h : Int) : Prop := RnOk a b c d ∧ RnOk e f g h ∧ key e f ≤ key c d + 1 ∧ key a b ≤ key g h + 1
def Meet (a b c d e f g h : Int) : Prop := RnOk a b c d ∧ RnOk e f g h ∧ key e f ≤ key c d ∧ key a b ≤ key g h
instance decWi (a b c d e f g h : Int) : Decidable (Wi a b c d e f g h) := by unfold Wi; infer_instance
instance decTch (a b c d e f g h : Int) : Decidable (Tch a b c d e f g h) := by unfold Tch; infer_instance
instance decMeet (a b c d e f g h : Int) : Decidable (Meet a b c d e f g h) := by unfold Meet; infer_instance
theorem mn_ok {i d j f : Int} (h : eOk i d) (k : eOk j f) : eOk (mnI i d j f) (mnD i d j f) := by unfold mnI mnD; split <;> assumption
theorem mx_ok {i d j f : Int} (h : eOk i d) (k : eOk j f) : eOk (mxI i d j f) (mxD i d j f) := by unfold mxI mxD; split <;> assumption
theorem common_ok {a b c d e f g h : Int} (hb : I64 b) (hd : I64 d) (hf : I64 f) (hh : I64 h) (h1 : RnOk a b c d) (h2 : RnOk e f g h) :
   RnOk (mxI a b e f) (mxD a b e f) (mnI c d g h) (mnD c d g h) ↔ Meet a b c d e f g h := by
 have k1 := mx_key (i := a) (j := e) hb hf
 have k2 := mn_key (i := c) (j := g) hd hh
 unfold Meet
 constructor
 · rintro ⟨_, _, _, _, hk⟩
   rw [k1, k2] at hk
   have := h1.2.2.2.2
   have := h2.2.2.2.2
   exact ⟨h1, h2, by omega, by omega⟩
 · rintro ⟨_, _, _, _⟩
   refine ⟨mx_ok h1.1 h2.1, mn_ok h1.2.1 h2.2.1, ?_, ?_, ?_⟩
   · have := h1.2.2.1; have := h2.2.2.1; unfold mxI; split <;> assumption
   · have := h1.2.2.2.1; have := h2.2.2.2.1; unfold mnI; split <;> assumption
   · rw [k1, k2]
     have := h1.2.2.2.2
     have := h2.2.2.2.2
     omega
set_option maxHeartbeats 4000000
structure CB (w : World) (B : Nat) (u v : Value) : Prop where
 c0 : w.cell? ⟨B, 0, none⟩ = some u
 c1 : w.cell? ⟨B, 1, none⟩ = some v
 f0 : w.frozen? ⟨B, 0, none⟩ = false
 f1 : w.frozen? ⟨B, 1, none⟩ = false
 lt : B < w.heap.size
theorem CB.dn {w w' : World} {B : Nat} {u v : Value} (h : CB w B u v) (k : Dn w w') : CB w' B u v :=
 ⟨k.cell h.c0, k.cell h.c1, by rw [k.frozen h.lt]; exact h.f0, by rw [k.frozen h.lt]; exact h.f1, Nat.lt_of_lt_of_le h.lt k.size⟩
theorem CB.up {w w' : World} {B : Nat} {u v : Value} (h : CB w B u v) (k : Up w w') : CB w' B u v := h.dn k.dn
theorem CB.alloc {w : World} {B : Nat} {u v : Value} (h : CB w B u v) (o : Obj) : CB (w.alloc o) B u v := h.dn ((Dn.refl _).alloc o)
theorem CB.drew {w : World} {B : Nat} {u v : Value} (h : CB w B u v) : CB w.drew B u v := h.dn (Dn.refl _).drew
theorem CB.new (w : World) (u v : Value) (t : TypeId) : CB (w.alloc (.cells #[u, v] t)) w.heap.size u v := by
 refine ⟨?_, ?_, ?_, ?_, ?_⟩ <;> simp [go_sem]
theorem CB.new1 (w : World) (o : Obj) (u v : Value) (t : TypeId) : CB ((w.alloc o).alloc (.cells #[u, v] t)) (w.heap.size + 1) u v := by
 have := CB.new (w.alloc o) u v t
 simpa using this
theorem CB.new2 (w : World) (o o2 : Obj) (u v : Value) (t : TypeId) : CB (((w.alloc o).alloc o2).alloc (.cells #[u, v] t)) (w.heap.size + 1 + 1) u v := by
 have := CB.new ((w.alloc o).alloc o2) u v t
 simpa using this
def Mv (i d k i' d' e : Int) : Prop := (¬ eOk i d ∧ i' = 0 ∧ d' = 0 ∧ e = 5) ∨ (eOk i d ∧ i ≠ 0 ∧ i' = i ∧ d' = d ∧ e = 0) ∨ (i = 0 ∧ i' = 0 ∧ Fits (d + k) d' e)
theorem eChk_ok (i d : Int) (w : World) (h : eOk i d) : Calls Tryz.prog 83 #[.agg #[.int .i8 i, .int .i64 d]] w fun e w' => e = .returned (.int .i64 0) ∧ Up w w' := by
 have := eChk i d w; rwa [eErr_ok h] at this
theorem eChk_bad (i d : Int) (w : World) (h : ¬ eOk i d) : Calls Tryz.prog 83 #[.agg #[.int .i8 i, .int .i64 d]] w fun e w' => e = .returned (.int .i64 5) ∧ Up w w' := by
 have := eChk i d w; rwa [eErr_bad h] at this
theorem rChk8_ok (i d : Int) (w : World) (h : eOk i d) : Calls Tryz.prog 88 #[.agg #[.int .i8 i, .int .i64 d]] w fun e w' => e = .returned (.int .i64 0) ∧ Up w w' := by
 have := rChk8 i d w; rwa [eErr_ok h] at this
theorem rChk8_bad (i d : Int) (w : World) (h : ¬ eOk i d) : Calls Tryz.prog 88 #[.agg #[.int .i8 i, .int .i64 d]] w fun e w' => e = .returned (.int .i64 5) ∧ Up w w' := by
 have := rChk8 i d w; rwa [eErr_bad h] at this
set_option linter.unusedSimpArgs false in
theorem eMoved (i d k i' d' r : Int) (w : World) (hd : I64 d) (hk : I64 k) (h : Mv i d k i' d' r) :
   Calls Tryz.prog 127 #[.agg #[.int .i8 i, .int .i64 d], .int .i64 k] w fun e w' => e = .returned (.tuple #[.agg #[.int .i8 i', .int .i64 d'], .int .i64 r]) ∧ Up w w' := by
 have b0 := (CB.new w (.int .i8 i) (.int .i64 d) 41).alloc (.cells #[.int .i8 0, .int .i64 0] 41)
 have b1 := CB.new1 w (.cells #[.int .i8 i, .int .i64 d] 41) (.int .i8 0) (.int .i64 0) 41
 have u0 : Up w _ := ((Up.refl w).alloc (.cells #[.int .i8 i, .int .i64 d] 41)).alloc (.cells #[.int .i8 0, .int .i64 0] 41)
 have B0 := Lib.hid b0
 have B1 := Lib.hid b1
 have U0 := Lib.hid u0
 clear b0 b1 u0
 rcases h with ⟨h, rfl, rfl, rfl⟩ | ⟨h, h0, rfl, rfl, rfl⟩ | ⟨rfl, rfl, hf⟩
 · have HE := Lib.hid (fun W => eChk_bad i d W h)
   clear h
   go_enter Tryz.func127, Tryz.ntmps127
   go_wp2_with fail
   refine (HE.out _).mono ?_
   rintro e w1 ⟨rfl, q1⟩
   obtain ⟨c0, c1, f0, f1, l0⟩ := B0.out.up q1
   obtain ⟨c2, c3, f2, f3, l1⟩ := B1.out.up q1
   have u1 := U0.out.trans q1
   clear q1
   go_wp2_with fail
   exact bodyPost_ret (v := .tuple #[.agg #[.int .i8 0, .int .i64 0], .int .i64 5]) (by simp [results, Tryz.results127, go_sem, c0, c1, c2, c3, f0, f1, f2, f3] <;> omega) rfl ⟨rfl, ((((u1.setCell (by simp <;> omega) _).setCell (by simp <;> omega) _).setCell (by simp <;> omega) _).setCell (by simp <;> omega) _)⟩
 · have HE := Lib.hid (fun W => eChk_ok _ _ W h)
   have n0 : (i' != 0) = true := by simpa using h0
   clear h h0
   go_enter Tryz.func127, Tryz.ntmps127
   go_wp2_with fail
   refine (HE.out _).mono ?_
   rintro e w1 ⟨rfl, q1⟩
   obtain ⟨c0, c1, f0, f1, l0⟩ := B0.out.up q1
   obtain ⟨c2, c3, f2, f3, l1⟩ := B1.out.up q1
   have u1 := U0.out.trans q1
   clear q1
   go_wp2_with fail
   exact bodyPost_ret (v := .tuple #[.agg #[.int .i8 _, .int .i64 _], .int .i64 0]) (by simp [results, Tryz.results127, go_sem, c0, c1, c2, c3, f0, f1, f2, f3] <;> omega) rfl ⟨rfl, ((u1.setCell (by simp <;> omega) _).setCell (by simp <;> omega) _)⟩
 · have HE := Lib.hid (fun W => eChk_ok 0 d W (Or.inl rfl))
   have HA := Lib.hid (fun W => add_any d k _ d' r W hd hk rfl hf)
   clear hf
   go_enter Tryz.func127, Tryz.ntmps127
   go_wp2_with fail
   refine (HE.out _).mono ?_
   rintro e w1 ⟨rfl, q1⟩
   have k0 := B0.out.up q1
   have k1 := B1.out.up q1
   have u1 := U0.out.trans q1
   clear q1
   have K0 := Lib.hid k0
   have K1 := Lib.hid k1
   obtain ⟨c0, c1, _, _, _⟩ := k0
   clear k1
   go_wp2_with fail
   refine (HA.out _).mono ?_
   rintro e w2 ⟨rfl, q2⟩
   go_wp2_with fail
   refine (eOf d' _).mono ?_
   rintro e w3 ⟨rfl, q3⟩
   have u3 := (u1.trans q2).trans q3
   obtain ⟨c2, c3, f2, f3, l1⟩ := (K1.out.up q2).up q3
   clear q2 q3 u1 c0 c1
   go_wp2_with fail
   exact bodyPost_ret (v := .tuple #[.agg #[.int .i8 0, .int .i64 d'], .int .i64 r]) (by simp [results, Tryz.results127, go_sem, c2, c3, f2, f3] <;> omega) rfl ⟨rfl, ((u3.setCell (by simp <;> omega) _).setCell (by simp <;> omega) _)⟩
set_option linter.unusedSimpArgs false in
theorem eNext (i d i' d' r : Int) (w : World) (hd : I64 d) (h : Mv i d 1 i' d' r) :
  Calls Tryz.prog 90 #[.agg #[.int .i8 i, .int .i64 d]] w fun e w' => e = .returned (.tuple #[.agg #[.int .i8 i', .int .i64 d'], .int .i64 r]) ∧ Up w w' := by
 have b1 := CB.new1 w (.cells #[.int .i8 i, .int .i64 d] 41) (.int .i8 0) (.int .i64 0) 41
 have u0 : Up w _ := ((Up.refl w).alloc (.cells #[.int .i8 i, .int .i64 d] 41)).alloc (.cells #[.int .i8 0, .int .i64 0] 41)
 have B1 := Lib.hid b1
 have U0 := Lib.hid u0
 have HM := Lib.hid (fun W => eMoved i d 1 i' d' r W hd (by decide) h)
 clear b1 u0 h
 go_enter Tryz.func90, Tryz.ntmps90
 go_wp2_with fail
 refine (HM.out _).mono ?_
 rintro e w1 ⟨rfl, q1⟩
 obtain ⟨c2, c3, f2, f3, l1⟩ := B1.out.up q1
 have u1 := U0.out.trans q1
 clear q1
 go_wp2_with fail
 exact bodyPost_ret (v := .tuple #[.agg #[.int .i8 i', .int .i64 d'], .int .i64 r]) (by simp [results, Tryz.results90, go_sem, c2, c3, f2, f3] <;> omega) rfl ⟨rfl, ((u1.setCell (by simp <;> omega) _).setCell (by simp <;> omega) _)⟩
set_option linter.unusedSimpArgs false in
theorem ePrev (i d i' d' r : Int) (w : World) (hd : I64 d) (h : Mv i d (-1) i' d' r) :
  Calls Tryz.prog 94 #[.agg #[.int .i8 i, .int .i64 d]] w fun e w' => e = .returned (.tuple #[.agg #[.int .i8 i', .int .i64 d'], .int .i64 r]) ∧ Up w w' := by
 have b1 := CB.new1 w (.cells #[.int .i8 i, .int .i64 d] 41) (.int .i8 0) (.int .i64 0) 41
 have u0 : Up w _ := ((Up.refl w).alloc (.cells #[.int .i8 i, .int .i64 d] 41)).alloc (.cells #[.int .i8 0, .int .i64 0] 41)
 have B1 := Lib.hid b1
 have U0 := Lib.hid u0
 have HM := Lib.hid (fun W => eMoved i d (-1) i' d' r W hd (by decide) h)
 clear b1 u0 h
 go_enter Tryz.func94, Tryz.ntmps94
 go_wp2_with fail
 refine (HM.out _).mono ?_
 rintro e w1 ⟨rfl, q1⟩
 obtain ⟨c2, c3, f2, f3, l1⟩ := B1.out.up q1
 have u1 := U0.out.trans q1
 clear q1
 go_wp2_with fail
 exact bodyPost_ret (v := .tuple #[.agg #[.int .i8 i', .int .i64 d'], .int .i64 r]) (by simp [results, Tryz.results94, go_sem, c2, c3, f2, f3] <;> omega) rfl ⟨rfl, ((u1.setCell (by simp <;> omega) _).setCell (by simp <;> omega) _)⟩
set_option linter.unusedSimpArgs false in
theorem eMin_2 (i d j f : Int) (w : World) (h : eC j f i d < 0) :
  Calls Tryz.prog 124 #[.agg #[.int .i8 i, .int .i64 d], .agg #[.int .i8 j, .int .i64 f]] w fun e w' => e = .returned (.agg #[.int .i8 j, .int .i64 f]) ∧ Up w w' := by
 have b0 := ((CB.new w (.int .i8 i) (.int .i64 d) 41).alloc (.cells #[.int .i8 j, .int .i64 f] 41)).alloc (.cells #[.int .i8 0, .int .i64 0] 41)
 have b1 := (CB.new1 w (.cells #[.int .i8 i, .int .i64 d] 41) (.int .i8 j) (.int .i64 f) 41).alloc (.cells #[.int .i8 0, .int .i64 0] 41)
 have b2 := CB.new2 w (.cells #[.int .i8 i, .int .i64 d] 41) (.cells #[.int .i8 j, .int .i64 f] 41) (.int .i8 0) (.int .i64 0) 41
 have u0 : Up w _ := (((Up.refl w).alloc (.cells #[.int .i8 i, .int .i64 d] 41)).alloc (.cells #[.int .i8 j, .int .i64 f] 41)).alloc (.cells #[.int .i8 0, .int .i64 0] 41)
 have B0 := Lib.hid b0
 have B1 := Lib.hid b1
 have B2 := Lib.hid b2
 have U0 := Lib.hid u0
 clear b0 b1 b2 u0
 have HC := Lib.hid (fun W => eCmp j f i d W)
 generalize eC j f i d = c at *
 have t : decide (c < 0) = true := by simpa using h
 clear h
 go_enter Tryz.func124, Tryz.ntmps124
 go_wp2_with fail
 refine (HC.out _).mono ?_
 rintro e w1 ⟨rfl, q1⟩
 obtain ⟨c0, c1, _, _, l0⟩ := B0.out.up q1
 obtain ⟨c2, c3, _, _, l1⟩ := B1.out.up q1
 obtain ⟨c4, c5, f4, f5, l2⟩ := B2.out.up q1
 have u1 := U0.out.trans q1
 clear q1
 go_wp2_with fail
 exact bodyPost_ret (v := .agg #[.int .i8 j, .int .i64 f]) (by simp [results, Tryz.results124, go_sem, c0, c1, c2, c3, c4, c5, f4, f5] <;> omega) rfl ⟨rfl, ((u1.setCell (by simp <;> omega) _).setCell (by simp <;> omega) _)⟩
set_option linter.unusedSimpArgs false in
theorem eMin_1 (i d j f : Int) (w : World) (h : ¬ eC j f i d < 0) :
  Calls Tryz.prog 124 #[.agg #[.int .i8 i, .int .i64 d], .agg #[.int .i8 j, .int .i64 f]] w fun e w' => e = .returned (.agg #[.int .i8 i, .int .i64 d]) ∧ Up w w' := by
 have b0 := ((CB.new w (.int .i8 i) (.int .i64 d) 41).alloc (.cells #[.int .i8 j, .int .i64 f] 41)).alloc (.cells #[.int .i8 0, .int .i64 0] 41)
 have b1 := (CB.new1 w (.cells #[.int .i8 i, .int .i64 d] 41) (.int .i8 j) (.int .i64 f) 41).alloc (.cells #[.int .i8 0, .int .i64 0] 41)
 have b2 := CB.new2 w (.cells #[.int .i8 i, .int .i64 d] 41) (.cells #[.int .i8 j, .int .i64 f] 41) (.int .i8 0) (.int .i64 0) 41
 have u0 : Up w _ := (((Up.refl w).alloc (.cells #[.int .i8 i, .int .i64 d] 41)).alloc (.cells #[.int .i8 j, .int .i64 f] 41)).alloc (.cells #[.int .i8 0, .int .i64 0] 41)
 have B0 := Lib.hid b0
 have B1 := Lib.hid b1
 have B2 := Lib.hid b2
 have U0 := Lib.hid u0
 clear b0 b1 b2 u0
 have HC := Lib.hid (fun W => eCmp j f i d W)
 generalize eC j f i d = c at *
 have t : decide (c < 0) = false := by simpa using h
 clear h
 go_enter Tryz.func124, Tryz.ntmps124
 go_wp2_with fail
 refine (HC.out _).mono ?_
 rintro e w1 ⟨rfl, q1⟩
 obtain ⟨c0, c1, _, _, l0⟩ := B0.out.up q1
 obtain ⟨c2, c3, _, _, l1⟩ := B1.out.up q1
 obtain ⟨c4, c5, f4, f5, l2⟩ := B2.out.up q1
 have u1 := U0.out.trans q1
 clear q1
 go_wp2_with fail
 exact bodyPost_ret (v := .agg #[.int .i8 i, .int .i64 d]) (by simp [results, Tryz.results124, go_sem, c0, c1, c2, c3, c4, c5, f4, f5] <;> omega) rfl ⟨rfl, ((u1.setCell (by simp <;> omega) _).setCell (by simp <;> omega) _)⟩
set_option linter.unusedSimpArgs false in
theorem eMax_2 (i d j f : Int) (w : World) (h : 0 < eC j f i d) :
  Calls Tryz.prog 125 #[.agg #[.int .i8 i, .int .i64 d], .agg #[.int .i8 j, .int .i64 f]] w fun e w' => e = .returned (.agg #[.int .i8 j, .int .i64 f]) ∧ Up w w' := by
 have b0 := ((CB.new w (.int .i8 i) (.int .i64 d) 41).alloc (.cells #[.int .i8 j, .int .i64 f] 41)).alloc (.cells #[.int .i8 0, .int .i64 0] 41)
 have b1 := (CB.new1 w (.cells #[.int .i8 i, .int .i64 d] 41) (.int .i8 j) (.int .i64 f) 41).alloc (.cells #[.int .i8 0, .int .i64 0] 41)
 have b2 := CB.new2 w (.cells #[.int .i8 i, .int .i64 d] 41) (.cells #[.int .i8 j, .int .i64 f] 41) (.int .i8 0) (.int .i64 0) 41
 have u0 : Up w _ := (((Up.refl w).alloc (.cells #[.int .i8 i, .int .i64 d] 41)).alloc (.cells #[.int .i8 j, .int .i64 f] 41)).alloc (.cells #[.int .i8 0, .int .i64 0] 41)
 have B0 := Lib.hid b0
 have B1 := Lib.hid b1
 have B2 := Lib.hid b2
 have U0 := Lib.hid u0
 clear b0 b1 b2 u0
 have HC := Lib.hid (fun W => eCmp j f i d W)
 generalize eC j f i d = c at *
 have t : decide (0 < c) = true := by simpa using h
 clear h
 go_enter Tryz.func125, Tryz.ntmps125
 go_wp2_with fail
 refine (HC.out _).mono ?_
 rintro e w1 ⟨rfl, q1⟩
 obtain ⟨c0, c1, _, _, l0⟩ := B0.out.up q1
 obtain ⟨c2, c3, _, _, l1⟩ := B1.out.up q1
 obtain ⟨c4, c5, f4, f5, l2⟩ := B2.out.up q1
 have u1 := U0.out.trans q1
 clear q1
 go_wp2_with fail
 exact bodyPost_ret (v := .agg #[.int .i8 j, .int .i64 f]) (by simp [results, Tryz.results125, go_sem, c0, c1, c2, c3, c4, c5, f4, f5] <;> omega) rfl ⟨rfl, ((u1.setCell (by simp <;> omega) _).setCell (by simp <;> omega) _)⟩
set_option linter.unusedSimpArgs false in
theorem eMax_1 (i d j f : Int) (w : World) (h : ¬ 0 < eC j f i d) :
  Calls Tryz.prog 125 #[.agg #[.int .i8 i, .int .i64 d], .agg #[.int .i8 j, .int .i64 f]] w fun e w' => e = .returned (.agg #[.int .i8 i, .int .i64 d]) ∧ Up w w' := by
 have b0 := ((CB.new w (.int .i8 i) (.int .i64 d) 41).alloc (.cells #[.int .i8 j, .int .i64 f] 41)).alloc (.cells #[.int .i8 0, .int .i64 0] 41)
 have b1 := (CB.new1 w (.cells #[.int .i8 i, .int .i64 d] 41) (.int .i8 j) (.int .i64 f) 41).alloc (.cells #[.int .i8 0, .int .i64 0] 41)
 have b2 := CB.new2 w (.cells #[.int .i8 i, .int .i64 d] 41) (.cells #[.int .i8 j, .int .i64 f] 41) (.int .i8 0) (.int .i64 0) 41
 have u0 : Up w _ := (((Up.refl w).alloc (.cells #[.int .i8 i, .int .i64 d] 41)).alloc (.cells #[.int .i8 j, .int .i64 f] 41)).alloc (.cells #[.int .i8 0, .int .i64 0] 41)
 have B0 := Lib.hid b0
 have B1 := Lib.hid b1
 have B2 := Lib.hid b2
 have U0 := Lib.hid u0
 clear b0 b1 b2 u0
 have HC := Lib.hid (fun W => eCmp j f i d W)
 generalize eC j f i d = c at *
 have t : decide (0 < c) = false := by simpa using h
 clear h
 go_enter Tryz.func125, Tryz.ntmps125
 go_wp2_with fail
 refine (HC.out _).mono ?_
 rintro e w1 ⟨rfl, q1⟩
 obtain ⟨c0, c1, _, _, l0⟩ := B0.out.up q1
 obtain ⟨c2, c3, _, _, l1⟩ := B1.out.up q1
 obtain ⟨c4, c5, f4, f5, l2⟩ := B2.out.up q1
 have u1 := U0.out.trans q1
 clear q1
 go_wp2_with fail
 exact bodyPost_ret (v := .agg #[.int .i8 i, .int .i64 d]) (by simp [results, Tryz.results125, go_sem, c0, c1, c2, c3, c4, c5, f4, f5] <;> omega) rfl ⟨rfl, ((u1.setCell (by simp <;> omega) _).setCell (by simp <;> omega) _)⟩
end Go.Proofs.YtoghoddjkdoohaaGreatDoor
