/- Walks and laws that the claim's theorem leans on: part 26. -/
import Derived.Test.YtoghoddjkdoohaaGreatDoorZTx1
import Derived.Test.YtoghoddjkdoohaaGreatDoorZTx4
import Derived.Test.YtoghoddjkdoohaaGreatDoorZTx10
import Derived.Test.YtoghoddjkdoohaaGreatDoorZTx11
import Derived.Test.YtoghoddjkdoohaaGreatDoorZTx15
import Derived.Test.YtoghoddjkdoohaaGreatDoorZTx18
import Derived.Test.YtoghoddjkdoohaaGreatDoorZTx19
import Derived.Test.YtoghoddjkdoohaaGreatDoorZTx21
import Derived.Test.YtoghoddjkdoohaaGreatDoorZTx24
import Derived.Test.YtoghoddjkdoohaaGreatDoorZTx25
import Derived.ProofKit
import Derived.OpenShut
import Derived.Lib.SmallJoins
import Derived.ChangeMaps5
import Derived.LaidMore
import Derived.Stop.Joined
import Derived.Lib.LaidTab
import Derived.Shelf.Vars
namespace Go.Proofs.YtoghoddjkdoohaaGreatDoor
set_option maxHeartbeats 20000000
set_option maxRecDepth 100000
open Go.RowKit
set_option linter.unusedVariables false
set_option linter.unusedSimpArgs false
def AtP (s : ByteArray) (k f i : Nat) : Prop :=
 (i ≤ s.size ∧ f ≤ i ∧ (∀ j, f ≤ j → j < i → s.data.toList[j]? ≠ some 44) ∧ spl (s.data.toList.drop f) = (spl s.data.toList).drop k ∧ k < (spl s.data.toList).length) ∨ (i = s.size + 1 ∧ f ≤ i ∧ k = (spl s.data.toList).length)
theorem atP_start (s : ByteArray) : AtP s 0 0 0 :=
 .inl ⟨Nat.zero_le _, Nat.le_refl _, fun j h1 h2 => by omega, rfl, List.length_pos_iff.2 (spl_ne _)⟩
theorem atP_skip {s : ByteArray} {k f i : Nat} (h : AtP s k f i) (hi : i < s.size) (hc : s[i] ≠ 44) : AtP s k f (i + 1) := by
 rcases h with ⟨h1, h2, h3, h4, h5⟩ | ⟨h1, _⟩
 · refine .inl ⟨by omega, by omega, fun j hj1 hj2 => ?_, h4, h5⟩
   by_cases e : j = i
   · subst e; rw [dl_at s j hi]; intro e2; exact hc (Option.some.inj e2)
   · exact h3 j hj1 (by omega)
 · omega
theorem atP_comma {s : ByteArray} {k f i : Nat} (h : AtP s k f i) (hi : i < s.size) (hc : s[i] = 44) : (spl s.data.toList)[k]? = some (s.extract f i).data.toList ∧ k + 1 < (spl s.data.toList).length ∧ AtP s (k + 1) (i + 1) (i + 1) := by
 rcases h with ⟨h1, h2, h3, h4, h5⟩ | ⟨h1, _⟩
 · have h6 := spl_at h2 (by rw [dl_len]; exact hi) h3 (by rw [dl_at s i hi, hc])
   rw [h4] at h6
   obtain ⟨g1, g2, g3⟩ := drop_cons h6
   have g4 : k + 1 < (spl s.data.toList).length := by
    by_cases hk : k + 1 < (spl s.data.toList).length
    · exact hk
    · rw [List.drop_eq_nil_of_le (by omega)] at g2; exact absurd g2.symm (spl_ne _)
   exact ⟨by rw [part_list]; exact g1, g4, .inl ⟨by omega, Nat.le_refl _, fun j a b => by omega, g2.symm, g4⟩⟩
 · omega
theorem atP_last {s : ByteArray} {k f i : Nat} (h : AtP s k f i) (hi : i = s.size) : (spl s.data.toList)[k]? = some (s.extract f i).data.toList ∧ AtP s (k + 1) (i + 1) (i + 1) := by
 subst hi
 rcases h with ⟨h1, h2, h3, h4, h5⟩ | ⟨h1, _⟩
 · have h6 := spl_last (l := s.data.toList) (a := f) (fun j a b => h3 j a (by rw [← dl_len]; exact b))
   rw [h4] at h6
   obtain ⟨g1, g2, g3⟩ := drop_cons h6
   refine ⟨?_, .inr ⟨rfl, Nat.le_refl _, ?_⟩⟩
   · rw [part_list, g1]
     congr 1
     rw [List.take_of_length_le (by simp)]
   · have := congrArg List.length g2
     simp at this; omega
 · omega
theorem atP_le {s : ByteArray} {k f i : Nat} (h : AtP s k f i) (hi : i ≤ s.size) : f ≤ i := by
 rcases h with ⟨_, h2, _⟩ | ⟨h1, _⟩
 · exact h2
 · omega
theorem atP_b {s : ByteArray} {k f i : Nat} (h : AtP s k f i) : f ≤ i ∧ i ≤ s.size + 1 := by
 rcases h with ⟨h1, h2, _⟩ | ⟨h1, h2, _⟩ <;> omega
theorem atP_end {s : ByteArray} {k f i : Nat} (h : AtP s k f i) (hi : ¬ i ≤ s.size) : i = s.size + 1 ∧ k = (spl s.data.toList).length := by
 rcases h with ⟨h1, _⟩ | ⟨h1, _, h3⟩
 · omega
 · exact ⟨h1, h3⟩
theorem ne44 {s : ByteArray} {k : Nat} (h : k < s.size) (hne : s[k] ≠ 44) : ((s[k].toNat : Int) != 44) = true := by
 rw [bne_iff_ne]; intro e; exact hne (UInt8.toNat_inj.1 (by simpa using (by exact_mod_cast e : s[k].toNat = 44)))
theorem eq44 {s : ByteArray} {k : Nat} (h : k < s.size) (he : s[k] = 44) : ((s[k].toNat : Int) != 44) = false := by
 rw [he]; rfl
theorem rfParseS (s : ByteArray) (R : List Rq) (E : Int) (w : World) (hs : s.size ≤ 60000) (hsp : ∀ f ∈ spl s.data.toList, f.length ≤ 1000) (h : SP s R E) :
   Calls Tryz.prog 35 #[.string s] w fun ro w' => ∃ p' cap', ro = .returned (.tuple #[.slice p' R.length cap', .int .i64 E]) ∧ Row w' p' R ∧ Dn w w' := by
 rcases h with ⟨rfl, rfl, rfl⟩ | ⟨hne, ys, hy, rfl, rfl⟩
 · unfold noneS at *
   go_enter Tryz.func35, Tryz.ntmps35
   go_wp2_with fail
   go_ret2
   first | exact ⟨none, 0, rfl, rownil _, Dn.refl _⟩ | exact ⟨none, by simp, rownil _, Dn.refl _⟩
 have e0 : (s.toList == [110, 111, 110, 101]) = false := by
   rw [Bool.eq_false_iff]; intro e
   apply hne
   apply ByteArray.ext
   apply Array.toList_inj.1
   rw [← Lib.toList_data]
   exact eq_of_beq e
 have hlen := hy.len
 have hn1 : (spl s.data.toList).length ≤ s.size + 1 := by have := spl_len s.data.toList; rw [dl_len] at this; exact this
 have HLE := Lib.hid hlen
 clear hlen
 have HY := Lib.hid hy
 have HI6 := Lib.hid (psL_i6 hy)
 have HSP := Lib.hid hsp
 clear hy hsp hne
 go_enter Tryz.func35, Tryz.ntmps35
 go_wp2_with fail
 go_loopw [2, 3, 4, 5, 6, 7] (fun r2 r3 ov ev fv iv wr => r2 = .slice none 0 0 ∧ r3 = .int .i64 0 ∧ ∃ (k f i : Nat), AtP s k f i ∧ k ≤ ys.length ∧ iv = .int .i64 i ∧ fv = .int .i64 f ∧ ev = .int .i64 (firstE (ys.take k)) ∧ Gat ys k ∧ OwnQ wr w.heap.size ov ((ys.take k).map (·.1)) ∧ Dn w wr) (fun _ _ _ _ _ iv _ => s.size + 1 - (intOf iv).toNat)
 case atStart => exact ⟨rfl, rfl, 0, 0, 0, atP_start s, Nat.zero_le _, rfl, rfl, rfl, (fun y hy => by simp at hy), OwnQ.nil _ _, Dn.refl _⟩
 case round =>
   obtain ⟨rfl, rfl, k, f, i, hat, hk, rfl, rfl, rfl, hg, hown, hu⟩ := hrel
   have hfi := atP_b hat
   have HAT := Lib.hid hat
   have HG := Lib.hid hg
   have hfe : firstE (ys.take k) = firstE (ys.take k) := rfl
   clear hat hg hfe
   by_cases hle : i ≤ s.size
   · have d1 : decide ((i : Int) ≤ s.size) = true := by simp; omega
     have hle2 : f ≤ i := atP_le HAT.out hle
     by_cases hlt : i < s.size
     · have d2 : decide ((i : Int) < s.size) = true := by simp; omega
       by_cases hec : s[i] = 44
       rotate_left
       · have d3 := ne44 hlt hec
         have HA2 := Lib.hid (atP_skip HAT.out hlt hec)
         clear hec HAT
         go_wp2_with fail
         go_roundw
         case rel => exact ⟨rfl, rfl, k, f, i + 1, HA2.out, hk, by simp, rfl, rfl, HG.out, hown, hu⟩
         case measure => simp [intOf]; omega
       · have d3 := eq44 hlt hec
         obtain ⟨hf, hk2, hat2⟩ := atP_comma HAT.out hlt hec
         have hkl : k < ys.length := by have := (List.getElem?_eq_some_iff.1 hf).1; have := HLE.out; omega
         obtain ⟨y, hy⟩ : ∃ y, ys[k]? = some y := ⟨ys[k], by simp [hkl]⟩
         have hrp : RP (s.extract f i) y.1.a y.1.b y.1.c y.1.d y.2 := by
           have := HY.out.at_ k _ y hf hy
           unfold PsP at this
           rwa [toArrS] at this
         have hsz : (s.extract f i).size ≤ 1000 := by
           have := HSP.out _ (List.mem_of_getElem? hf)
           rw [Lib.size_eq]; simpa using this
         have HP := Lib.hid (fun W => rfParse (s.extract f i) y.1.a y.1.b y.1.c y.1.d y.2 W hsz hrp)
         have HYK := Lib.hid hy
         have HA2 := Lib.hid hat2
         obtain ⟨⟨xa, xb, xc, xd⟩, r⟩ := y
         dsimp only at HP
         have hol : ((ys.take k).map (·.1)).length ≤ 1000000 := by have := HLE.out; simp; omega
         obtain ⟨fe, hfe0⟩ : ∃ fe, fe = firstE (ys.take k) := ⟨_, rfl⟩
         have hfe := firstE_at HYK.out
         rw [← hfe0] at hfe ⊢
         clear hf hrp hsz hy hat2 hfe0
         by_cases h5 : r = 5
         · subst h5
           have HBAD := Lib.hid (gat_bad HYK.out rfl)
           clear hfe hown
           go_wp2_with fail
           refine (HP.out _).mono ?_
           rintro e w1 ⟨rfl, qw1⟩
           have uw1 := hu.trans qw1
           clear qw1 hu
           go_wp2_with fail
           rw [HBAD.out.1, HBAD.out.2]
           go_ret2
           first | exact ⟨none, 0, rfl, rownil _, (uw1).alloc _⟩ | exact ⟨none, by simp, rownil _, (uw1).alloc _⟩
         have d5 : (r == 5) = false := by simpa using h5
         have d5' : decide (r = 5) = false := by simpa using h5
         have H5 := Lib.hid h5
         clear h5
         by_cases hf0 : fe = 0
         · subst hf0
           rw [if_pos rfl] at hfe
           have HFE := Lib.hid hfe
           clear hfe
           go_wp2_with fail
           refine (HP.out _).mono ?_
           rintro e w1 ⟨rfl, qw1⟩
           replace hown := hown.dn qw1
           have uw1 := hu.trans qw1
           clear qw1 hu
           go_upto_region 10 with fail
           obtain ⟨W1, hW1⟩ : ∃ W1, W1 = w1.alloc (.cells #[.int .i8 xa, .int .i64 xb, .int .i8 xc, .int .i64 xd] 45) := ⟨_, rfl⟩
           have uW1 : Dn w1 W1 := by rw [hW1]; exact (Dn.refl _).alloc _
           replace hown := hown.dn uW1
           have c2 : W1.cell? ⟨w1.heap.size, 0, none⟩ = some (.int .i8 xa) := by rw [hW1]; simp [go_sem]
           have c3 : W1.cell? ⟨w1.heap.size, 1, none⟩ = some (.int .i64 xb) := by rw [hW1]; simp [go_sem]
           have c4 : W1.cell? ⟨w1.heap.size, 2, none⟩ = some (.int .i8 xc) := by rw [hW1]; simp [go_sem]
           have c5 : W1.cell? ⟨w1.heap.size, 3, none⟩ = some (.int .i64 xd) := by rw [hW1]; simp [go_sem]
           have l6 : w1.heap.size < W1.heap.size := by rw [hW1]; simp <;> omega
           rw [← hW1]
           clear hW1
           have vW1 := uw1.trans uW1
           clear uW1 uw1
           go_wp2_with (at_builtin; refine list_run rfl _ _ rfl W1 w.heap.size u4 _ xa xb xc xd rfl hown rfl hol vW1.size ?_)
           intro v' w' hown' hold hdn
           replace hdn := hdn w vW1 rfl
           clear hold vW1 hown
           go_wp2_with fail
           go_roundw
           case rel => exact ⟨rfl, rfl, k + 1, i + 1, i + 1, HA2.out, by omega, by simp, by simp, by rw [HFE.out], gat_step HG.out HYK.out H5.out, by rw [fst_at HYK.out, List.map_take]; exact hown', hdn⟩
           case measure => simp [intOf]; omega
         · rw [if_neg hf0] at hfe
           have HFE := Lib.hid hfe
           have d6 : (fe == 0) = false := by simpa using hf0
           have d6' : decide (fe = 0) = false := by simpa using hf0
           clear hfe hf0
           go_wp2_with fail
           refine (HP.out _).mono ?_
           rintro e w1 ⟨rfl, qw1⟩
           replace hown := hown.dn qw1
           have uw1 := hu.trans qw1
           clear qw1 hu
           go_upto_region 10 with fail
           obtain ⟨W1, hW1⟩ : ∃ W1, W1 = w1.alloc (.cells #[.int .i8 xa, .int .i64 xb, .int .i8 xc, .int .i64 xd] 45) := ⟨_, rfl⟩
           have uW1 : Dn w1 W1 := by rw [hW1]; exact (Dn.refl _).alloc _
           replace hown := hown.dn uW1
           have c2 : W1.cell? ⟨w1.heap.size, 0, none⟩ = some (.int .i8 xa) := by rw [hW1]; simp [go_sem]
           have c3 : W1.cell? ⟨w1.heap.size, 1, none⟩ = some (.int .i64 xb) := by rw [hW1]; simp [go_sem]
           have c4 : W1.cell? ⟨w1.heap.size, 2, none⟩ = some (.int .i8 xc) := by rw [hW1]; simp [go_sem]
           have c5 : W1.cell? ⟨w1.heap.size, 3, none⟩ = some (.int .i64 xd) := by rw [hW1]; simp [go_sem]
           have l6 : w1.heap.size < W1.heap.size := by rw [hW1]; simp <;> omega
           rw [← hW1]
           clear hW1
           have vW1 := uw1.trans uW1
           clear uW1 uw1
           go_wp2_with (at_builtin; refine list_run rfl _ _ rfl W1 w.heap.size u4 _ xa xb xc xd rfl hown rfl hol vW1.size ?_)
           intro v' w' hown' hold hdn
           replace hdn := hdn w vW1 rfl
           clear hold vW1 hown
           go_wp2_with fail
           go_roundw
           case rel => exact ⟨rfl, rfl, k + 1, i + 1, i + 1, HA2.out, by omega, by simp, by simp, by rw [HFE.out], gat_step HG.out HYK.out H5.out, by rw [fst_at HYK.out, List.map_take]; exact hown', hdn⟩
           case measure => simp [intOf]; omega
     · have d2 : decide ((i : Int) < s.size) = false := by simp; omega
       have HEI := Lib.hid (show i = s.size by omega)
       obtain ⟨hf, hat2⟩ := atP_last HAT.out HEI.out
       have hkl : k < ys.length := by have := (List.getElem?_eq_some_iff.1 hf).1; have := HLE.out; omega
       obtain ⟨y, hy⟩ : ∃ y, ys[k]? = some y := ⟨ys[k], by simp [hkl]⟩
       have hrp : RP (s.extract f i) y.1.a y.1.b y.1.c y.1.d y.2 := by
         have := HY.out.at_ k _ y hf hy
         unfold PsP at this
         rwa [toArrS] at this
       have hsz : (s.extract f i).size ≤ 1000 := by
         have := HSP.out _ (List.mem_of_getElem? hf)
         rw [Lib.size_eq]; simpa using this
       have HP := Lib.hid (fun W => rfParse (s.extract f i) y.1.a y.1.b y.1.c y.1.d y.2 W hsz hrp)
       have HYK := Lib.hid hy
       have HA2 := Lib.hid hat2
       obtain ⟨⟨xa, xb, xc, xd⟩, r⟩ := y
       dsimp only at HP
       have hol : ((ys.take k).map (·.1)).length ≤ 1000000 := by have := HLE.out; simp; omega
       obtain ⟨fe, hfe0⟩ : ∃ fe, fe = firstE (ys.take k) := ⟨_, rfl⟩
       have hfe := firstE_at HYK.out
       rw [← hfe0] at hfe ⊢
       clear hf hrp hsz hy hat2 hfe0
       by_cases h5 : r = 5
       · subst h5
         have HBAD := Lib.hid (gat_bad HYK.out rfl)
         clear hfe hown
         go_wp2_with fail
         refine (HP.out _).mono ?_
         rintro e w1 ⟨rfl, qw1⟩
         have uw1 := hu.trans qw1
         clear qw1 hu
         go_wp2_with fail
         rw [HBAD.out.1, HBAD.out.2]
         go_ret2
         first | exact ⟨none, 0, rfl, rownil _, (uw1).alloc _⟩ | exact ⟨none, by simp, rownil _, (uw1).alloc _⟩
       have d5 : (r == 5) = false := by simpa using h5
       have d5' : decide (r = 5) = false := by simpa using h5
       have H5 := Lib.hid h5
       clear h5
       by_cases hf0 : fe = 0
       · subst hf0
         rw [if_pos rfl] at hfe
         have HFE := Lib.hid hfe
         clear hfe
         go_wp2_with fail
         refine (HP.out _).mono ?_
         rintro e w1 ⟨rfl, qw1⟩
         replace hown := hown.dn qw1
         have uw1 := hu.trans qw1
         clear qw1 hu
         go_upto_region 10 with fail
         obtain ⟨W1, hW1⟩ : ∃ W1, W1 = w1.alloc (.cells #[.int .i8 xa, .int .i64 xb, .int .i8 xc, .int .i64 xd] 45) := ⟨_, rfl⟩
         have uW1 : Dn w1 W1 := by rw [hW1]; exact (Dn.refl _).alloc _
         replace hown := hown.dn uW1
         have c2 : W1.cell? ⟨w1.heap.size, 0, none⟩ = some (.int .i8 xa) := by rw [hW1]; simp [go_sem]
         have c3 : W1.cell? ⟨w1.heap.size, 1, none⟩ = some (.int .i64 xb) := by rw [hW1]; simp [go_sem]
         have c4 : W1.cell? ⟨w1.heap.size, 2, none⟩ = some (.int .i8 xc) := by rw [hW1]; simp [go_sem]
         have c5 : W1.cell? ⟨w1.heap.size, 3, none⟩ = some (.int .i64 xd) := by rw [hW1]; simp [go_sem]
         have l6 : w1.heap.size < W1.heap.size := by rw [hW1]; simp <;> omega
         rw [← hW1]
         clear hW1
         have vW1 := uw1.trans uW1
         clear uW1 uw1
         go_wp2_with (at_builtin; refine list_run rfl _ _ rfl W1 w.heap.size u4 _ xa xb xc xd rfl hown rfl hol vW1.size ?_)
         intro v' w' hown' hold hdn
         replace hdn := hdn w vW1 rfl
         clear hold vW1 hown
         go_wp2_with fail
         go_roundw
         case rel => exact ⟨rfl, rfl, k + 1, i + 1, i + 1, HA2.out, by omega, by simp, by simp, by rw [HFE.out], gat_step HG.out HYK.out H5.out, by rw [fst_at HYK.out, List.map_take]; exact hown', hdn⟩
         case measure => simp [intOf]; omega
       · rw [if_neg hf0] at hfe
         have HFE := Lib.hid hfe
         have d6 : (fe == 0) = false := by simpa using hf0
         have d6' : decide (fe = 0) = false := by simpa using hf0
         clear hfe hf0
         go_wp2_with fail
         refine (HP.out _).mono ?_
         rintro e w1 ⟨rfl, qw1⟩
         replace hown := hown.dn qw1
         have uw1 := hu.trans qw1
         clear qw1 hu
         go_upto_region 10 with fail
         obtain ⟨W1, hW1⟩ : ∃ W1, W1 = w1.alloc (.cells #[.int .i8 xa, .int .i64 xb, .int .i8 xc, .int .i64 xd] 45) := ⟨_, rfl⟩
         have uW1 : Dn w1 W1 := by rw [hW1]; exact (Dn.refl _).alloc _
         replace hown := hown.dn uW1
         have c2 : W1.cell? ⟨w1.heap.size, 0, none⟩ = some (.int .i8 xa) := by rw [hW1]; simp [go_sem]
         have c3 : W1.cell? ⟨w1.heap.size, 1, none⟩ = some (.int .i64 xb) := by rw [hW1]; simp [go_sem]
         have c4 : W1.cell? ⟨w1.heap.size, 2, none⟩ = some (.int .i8 xc) := by rw [hW1]; simp [go_sem]
         have c5 : W1.cell? ⟨w1.heap.size, 3, none⟩ = some (.int .i64 xd) := by rw [hW1]; simp [go_sem]
         have l6 : w1.heap.size < W1.heap.size := by rw [hW1]; simp <;> omega
         rw [← hW1]
         clear hW1
         have vW1 := uw1.trans uW1
         clear uW1 uw1
         go_wp2_with (at_builtin; refine list_run rfl _ _ rfl W1 w.heap.size u4 _ xa xb xc xd rfl hown rfl hol vW1.size ?_)
         intro v' w' hown' hold hdn
         replace hdn := hdn w vW1 rfl
         clear hold vW1 hown
         go_wp2_with fail
         go_roundw
         case rel => exact ⟨rfl, rfl, k + 1, i + 1, i + 1, HA2.out, by omega, by simp, by simp, by rw [HFE.out], gat_step HG.out HYK.out H5.out, by rw [fst_at HYK.out, List.map_take]; exact hown', hdn⟩
         case measure => simp [intOf]; omega
   · have d1 : decide ((i : Int) ≤ s.size) = false := by simp; omega
     obtain ⟨hie, hke⟩ := atP_end HAT.out hle
     have hkk : k = ys.length := by rw [hke, HLE.out]
     have hol : (ys.map (·.1)).length ≤ 1000000 := by have := HLE.out; simp; omega
     rw [hkk, List.take_length] at hown ⊢
     have hg : NoF ys := by have := HG.out; unfold Gat at this; rwa [hkk, List.take_length] at this
     obtain ⟨fe, hfe⟩ : ∃ fe, fe = firstE ys := ⟨_, rfl⟩
     rw [← hfe]
     clear hie hkk hfi hke
     by_cases hf0 : fe = 0
     · have he := prsE_chk hg (hfe.symm.trans hf0)
       subst hf0
       have hI6 := HI6.out
       have hr0 : prsE ys = 0 → prsR ys = ys.map (·.1) := fun h => by unfold prsR; rw [if_pos h]
       generalize ys.map (·.1) = M at hown hI6 hol he hr0
       have HR0 := Lib.hid hr0
       clear hr0
       obtain ⟨p', cap', rfl, hpc, hrow⟩ := hown.rowOf
       have HB := Lib.hid (fun W (q : Dn wr W) => rfCheck p' cap' M W hol hI6 (hrow.dn q))
       obtain ⟨c, hc⟩ : ∃ c, c = chkL M := ⟨_, rfl⟩
       rw [← hc] at he HB
       have HRW := Lib.hid hrow
       clear hown hg hfe hrow hc HG HAT hpc hI6
       by_cases hc0 : c = 0
       · subst hc0
         have hr : prsR ys = M := HR0.out he
         have HEE := Lib.hid he
         have HRR := Lib.hid hr
         clear he hr
         go_wp2_with fail
         refine (HB.out _ (Dn.refl _)).mono ?_
         rintro e w1 ⟨rfl, q1⟩
         have u1 := hu.trans q1
         go_wp2_with fail
         rw [HEE.out, HRR.out]
         go_ret2
         first | exact ⟨_, _, rfl, HRW.out.dn q1, u1⟩ | exact ⟨_, ⟨_, rfl⟩, HRW.out.dn q1, u1⟩ | exact ⟨_, ⟨_, rfl, rfl⟩, HRW.out.dn q1, u1⟩
       · have hr : prsR ys = [] := prsR_bad (by rw [he]; exact hc0)
         have d6 : (c != 0) = true := by simpa using hc0
         have HEE := Lib.hid he
         have HRR := Lib.hid hr
         clear he hr hc0
         go_wp2_with fail
         refine (HB.out _ (Dn.refl _)).mono ?_
         rintro e w1 ⟨rfl, q1⟩
         have u1 := hu.trans q1
         go_wp2_with fail
         rw [HEE.out, HRR.out]
         go_ret2
         first | exact ⟨none, 0, rfl, rownil _, u1⟩ | exact ⟨none, by simp, rownil _, u1⟩
     · have he := prsE_first hg (by rw [← hfe]; exact hf0)
       rw [← hfe] at he
       have hr : prsR ys = [] := prsR_bad (by rw [he]; exact hf0)
       have d6 : (fe == 0) = false := by simpa using hf0
       have d7 : (fe != 0) = true := by simpa using hf0
       have HEE := Lib.hid he
       have HRR := Lib.hid hr
       clear he hr hfe hf0 hg hown HG HAT
       go_wp2_with fail
       rw [HEE.out, HRR.out]
       go_ret2
       first | exact ⟨none, 0, rfl, rownil _, hu⟩ | exact ⟨none, by simp, rownil _, hu⟩
set_option maxHeartbeats 4000000
set_option maxRecDepth 100000
theorem gvT_same {R : List Rq} {E : Int} (h : E ≠ 0 → R = []) : GvT R R.length E R E := by
 by_cases he : E = 0
 · exact Or.inl ⟨he, rfl, rfl, he⟩
 · exact Or.inr ⟨he, h he, rfl⟩
theorem sp_len {s : ByteArray} {R : List Rq} {E : Int} (h : SP s R E) (hs : s.size ≤ 1000) : R.length ≤ 100000 := by
 rcases h with ⟨_, rfl, _⟩ | ⟨_, ys, hy, rfl, _⟩
 · simp
 · have h1 := hy.len
   have h2 := spl_len s.data.toList
   rw [dl_len] at h2
   unfold prsR
   split
   · simp; omega
   · simp
theorem runsetsText_true (p : Option Addr) (cap : Nat) (L : List Rq) (s : ByteArray) (w : World) (hR : Rl w p cap L) (hI : I6 L) (hs : s.size ≤ 9223372036854775807) (hE : EnvR w) :
   Calls Tryz.prog 7 #[.slice p L.length cap, .string s] w fun ro w' => ro = .returned (.bool true) ∧ Dn w w' := by
 have hLb : L.length ≤ 9223372036854775807 := Nat.le_trans hR.le hR.mx
 by_cases h20 : 20 < L.length
 · have d1 : decide ((L.length : Int) > 20) = true := by simp; omega
   have d2 : (20 : Int) < L.length := by omega
   clear hR hI
   go_enter Tryz.func7, Tryz.ntmps7
   go_wp2_with fail
   refine (lives10 _ hE).mono ?_
   rintro e w1 ⟨rfl, qw1⟩
   have uw1 := qw1
   clear qw1
   go_wp2_with fail
   go_ret
   exact ⟨rfl, uw1⟩
 have d1 : decide ((L.length : Int) > 20) = false := by simp; omega
 have d2 : ¬ (20 : Int) < L.length := by omega
 by_cases h200 : 200 < s.size
 · have d3 : decide ((s.size : Int) > 200) = true := by simp; omega
   have d4 : (200 : Int) < s.size := by omega
   clear hR hI
   go_enter Tryz.func7, Tryz.ntmps7
   go_wp2_with fail
   refine (lives10 _ hE).mono ?_
   rintro e w1 ⟨rfl, qw1⟩
   have uw1 := qw1
   clear qw1
   go_wp2_with fail
   go_ret
   exact ⟨rfl, uw1⟩
 have d3 : decide ((s.size : Int) > 200) = false := by simp; omega
 have d4 : ¬ (200 : Int) < s.size := by omega
 obtain ⟨R, E, hsp⟩ := sp_ex s
 have hprt : ∀ f ∈ spl s.data.toList, f.length ≤ 1000 := fun f hf => by have := spl_sub _ f hf; rw [dl_len] at this; omega
 have HP1 := Lib.hid (fun W hW => rsParse s R E W (by omega) hprt hsp hW)
 have HP2 := Lib.hid (fun W => rfParseS s R E W (by omega) hprt hsp)
 have hgv : GvT R R.length E R E := gvT_same (fun he => sp_bad hsp he)
 have hRl : R.length ≤ 100000 := sp_len hsp (by omega)
 have HG := Lib.hid (fun W q q2 c (h : Row W q R) (k : Row W q2 R) => gv10 q R.length R E q2 c R E W hgv hRl h (fun _ => k))
 have HCK := Lib.hid (fun W (k : Dn w W) => rfCheckE p cap L (chkL L) W rfl (by omega) hI (hR.row.dn k))
 have HTX := Lib.hid (fun W (k : Dn w W) (e : EnvR W) => rsTextS p cap L (if chkL L = 0 then txtL L else ⟨#[]⟩) W rfl e (by omega) hI (hR.row.dn k))
 by_cases hc : chkL L = 0
 rotate_left
 · rw [if_neg hc] at HTX
   have d5 : (chkL L != 0) = true := by simpa using hc
   have d6 : (chkL L == chkL L) = true := by simp
   clear hc hgv hRl hprt hsp hR hI
   generalize chkL L = c at *
   go_enter Tryz.func7, Tryz.ntmps7
   go_wp2_with fail
   refine (HP1.out _ hE).mono ?_
   rintro e w1 ⟨p1, rfl, r1, qw1⟩
   have uw1 := qw1
   clear qw1
   go_wp2_with fail
   refine (HP2.out _).mono ?_
   rintro e w2 ⟨p2, c2, rfl, r2, qw2⟩
   replace r1 := r1.dn qw2
   have uw2 := uw1.trans qw2
   clear qw2 uw1
   go_wp2_with fail
   refine (HG.out _ _ _ _ r1 r2).mono ?_
   rintro e w3 ⟨rfl, qw3⟩
   replace r1 := r1.dn qw3
   replace r2 := r2.dn qw3
   have uw3 := uw2.trans qw3
   clear qw3 uw2
   clear r1 r2
   go_wp2_with fail
   refine (HTX.out _ uw3 (hE.dn uw3)).mono ?_
   rintro e w4 ⟨rfl, qw4⟩
   have uw4 := uw3.trans qw4
   clear qw4 uw3
   go_wp2_with fail
   refine (HCK.out _ uw4).mono ?_
   rintro e w5 ⟨rfl, qw5⟩
   have uw5 := uw4.trans qw5
   clear qw5 uw4
   go_wp2_with fail
   refine (lives10 _ (hE.dn uw5)).mono ?_
   rintro e w6 ⟨rfl, qw6⟩
   have uw6 := uw5.trans qw6
   clear qw6 uw5
   go_wp2_with fail
   go_ret
   exact ⟨rfl, uw6⟩
 rw [if_pos hc] at HTX
 have HTR := Lib.hid (fun W (k : Dn w W) => rfTextS p cap L W (fun x hx => (Sep.all (chk_ok hI hc) x hx).2.2) (by omega) hI (hR.row.dn k))
 have hts : (txtL L).size ≤ 60000 := by
   unfold txtL; split
   · decide
   · have := jnT_size hI; omega
 have HP3 := Lib.hid (fun W hW => rsParse (txtL L) L 0 W hts (txt_parts hI hc) (txt_back hI hc) hW)
 have HG2 := Lib.hid (fun W q (h : Row W q L) (k : Dn w W) => gv10 q L.length L 0 p cap L 0 W (Or.inl ⟨rfl, rfl, rfl, rfl⟩) (by omega) h (fun _ => hR.row.dn k))
 rw [hc] at HTX HCK
 have d7 : ((txtL L).toList == (txtL L).toList) = true := by simp
 clear hc hgv hRl hprt hsp hR hI hts
 generalize txtL L = T at *
 go_enter Tryz.func7, Tryz.ntmps7
 go_wp2_with fail
 refine (HP1.out _ hE).mono ?_
 rintro e w1 ⟨p1, rfl, r1, qw1⟩
 have uw1 := qw1
 clear qw1
 go_wp2_with fail
 refine (HP2.out _).mono ?_
 rintro e w2 ⟨p2, c2, rfl, r2, qw2⟩
 replace r1 := r1.dn qw2
 have uw2 := uw1.trans qw2
 clear qw2 uw1
 go_wp2_with fail
 refine (HG.out _ _ _ _ r1 r2).mono ?_
 rintro e w3 ⟨rfl, qw3⟩
 replace r1 := r1.dn qw3
 replace r2 := r2.dn qw3
 have uw3 := uw2.trans qw3
 clear qw3 uw2
 clear r1 r2
 go_wp2_with fail
 refine (HTX.out _ uw3 (hE.dn uw3)).mono ?_
 rintro e w4 ⟨rfl, qw4⟩
 have uw4 := uw3.trans qw4
 clear qw4 uw3
 go_wp2_with fail
 refine (HCK.out _ uw4).mono ?_
 rintro e w5 ⟨rfl, qw5⟩
 have uw5 := uw4.trans qw5
 clear qw5 uw4
 go_wp2_with fail
 refine (HP3.out _ (hE.dn uw5)).mono ?_
 rintro e w6 ⟨p3, rfl, r3, qw6⟩
 have uw6 := uw5.trans qw6
 clear qw6 uw5
 go_wp2_with fail
 refine (HTR.out _ uw6).mono ?_
 rintro e w7 ⟨rfl, qw7⟩
 replace r3 := r3.dn qw7
 have uw7 := uw6.trans qw7
 clear qw7 uw6
 go_wp2_with fail
 refine (HG2.out _ _ r3 uw7).mono ?_
 rintro e w8 ⟨rfl, qw8⟩
 replace r3 := r3.dn qw8
 have uw8 := uw7.trans qw8
 clear qw8 uw7
 go_wp2_with fail
 refine (lives10 _ (hE.dn uw8)).mono ?_
 rintro e w9 ⟨rfl, qw9⟩
 replace r3 := r3.dn qw9
 have uw9 := uw8.trans qw9
 clear qw9 uw8
 go_wp2_with fail
 go_ret
 exact ⟨rfl, uw9⟩
open Go.ChangeShapes Go.WideShapes Go.ChangeAt Go.RowKit Go.Joins Go.Deep
variable {H : Type} {enc : TypeId × Value → H} {P : Program} {W : World} {r : Reach} {b0 : Nat} {t e : TypeId} {v : Value} {d : DataW H} {p : List MemPlace} {sp : Nat → Bool} {hd : Bool} {base : Nat}
theorem cell_i64 {n : Nat} {c : Value} {y : DataW H × List MemPlace} (he : P.underlying e = some (.int .i64)) (h : DataW.trod enc P W base sp hd n e [c] = some y) : ∃ a, c = .int .i64 a ∧ I64 a := by
 obtain ⟨a, ha, _, w⟩ := DataW.trod_int he h
 simp at ha
 exact ⟨a, ha, i64_of_wf w⟩
open Go.ChangeShapes Go.WideShapes Go.ChangeAt Go.RowKit Go.Joins Go.Deep
variable {H : Type} {enc : TypeId × Value → H} {P : Program} {W : World} {r : Reach} {b0 : Nat} {t e : TypeId} {v : Value} {d : DataW H} {p : List MemPlace} {sp : Nat → Bool} {hd : Bool} {base : Nat}
theorem open_str (ht : P.underlying t = some .string) (hv : Value.okWide P W r b0 t v) (h : DataW.Trod enc P W base sp hd t v d p) : ∃ s : ByteArray, v = .string s ∧ s.size ≤ 9223372036854775807 := by
 obtain ⟨s, rfl, _, _, hs⟩ := Go.ChangeMaps.open_string ht hv h
 exact ⟨s, rfl, hs⟩
open Go.ChangeShapes Go.WideShapes Go.ChangeAt Go.RowKit Go.Joins Go.Deep
variable {H : Type} {enc : TypeId × Value → H} {P : Program} {W : World} {r : Reach} {b0 : Nat} {t e : TypeId} {v : Value} {d : DataW H} {p : List MemPlace} {sp : Nat → Bool} {hd : Bool} {base : Nat}
theorem cell_i8 {n : Nat} {c : Value} {y : DataW H × List MemPlace} (he : P.underlying e = some (.int .i8)) (h : DataW.trod enc P W base sp hd n e [c] = some y) : ∃ a, c = .int .i8 a := by
 obtain ⟨a, ha, _, _⟩ := DataW.trod_int he h
 simp at ha
 exact ⟨a, ha⟩
open Go.ChangeShapes Go.WideShapes Go.ChangeAt Go.RowKit Go.Joins Go.Deep
variable {H : Type} {enc : TypeId × Value → H} {P : Program} {W : World} {r : Reach} {b0 : Nat} {t e : TypeId} {v : Value} {d : DataW H} {p : List MemPlace} {sp : Nat → Bool} {hd : Bool} {base : Nat}
theorem end_cells {n : Nat} {g0 g1 : Field} {c0 c1 : Value} {y : DataW H × List MemPlace} (ht : P.underlying e = some (.struct #[g0, g1])) (o0 : g0.offset = 0) (o1 : g1.offset = 1) (k0 : P.cellsOf g0.type = 1) (k1 : P.cellsOf g1.type = 1)
   (h0 : P.underlying g0.type = some (.int .i8)) (h1 : P.underlying g1.type = some (.int .i64)) (h : DataW.trod enc P W base sp hd n e [c0, c1] = some y) :
   ∃ i a, c0 = .int .i8 i ∧ c1 = .int .i64 a ∧ I64 a := by
 obtain ⟨xs, m, _, _, _, hl, hel⟩ := DataW.trod_struct ht h
 match xs, hl with
 | [y0, y1], _ =>
   have z0 := hel 0 g0 rfl
   have z1 := hel 1 g1 rfl
   rw [o0, k0] at z0
   rw [o1, k1] at z1
   simp at z0 z1
   obtain ⟨i, rfl⟩ := cell_i8 h0 z0
   obtain ⟨a, rfl, ha⟩ := cell_i64 h1 z1
   exact ⟨i, a, rfl, rfl, ha⟩
open Go.ChangeShapes Go.WideShapes Go.ChangeAt Go.RowKit Go.Joins Go.Deep
variable {H : Type} {enc : TypeId × Value → H} {P : Program} {W : World} {r : Reach} {b0 : Nat} {t e : TypeId} {v : Value} {d : DataW H} {p : List MemPlace} {sp : Nat → Bool} {hd : Bool} {base : Nat}
theorem list4 {l : List Value} (h : l.length = 4) : ∃ a b c d, l = [a, b, c, d] := by
 match l, h with
 | [a, b, c, d], _ => exact ⟨a, b, c, d, rfl⟩
theorem open_runs {f0 f1 g0 g1 q0 q1 : Field} (hs : P.underlying t = some (.slice e)) (ht : P.underlying e = some (.struct #[f0, f1])) (hct : P.cellsOf e = 4) (o0 : f0.offset = 0) (o1 : f1.offset = 2) (k0 : P.cellsOf f0.type = 2) (k1 : P.cellsOf f1.type = 2)
   (he0 : P.underlying f0.type = some (.struct #[g0, g1])) (a0 : g0.offset = 0) (a1 : g1.offset = 1) (b0 : P.cellsOf g0.type = 1) (b1 : P.cellsOf g1.type = 1) (h0 : P.underlying g0.type = some (.int .i8)) (h1 : P.underlying g1.type = some (.int .i64))
   (he1 : P.underlying f1.type = some (.struct #[q0, q1])) (a2 : q0.offset = 0) (a3 : q1.offset = 1) (b2 : P.cellsOf q0.type = 1) (b3 : P.cellsOf q1.type = 1) (h2 : P.underlying q0.type = some (.int .i8)) (h3 : P.underlying q1.type = some (.int .i64))
   {bb : Nat} (hv : Value.okWide P W r bb t v) (h : DataW.Trod enc P W base sp hd t v d p) :
   ∃ pp cap L, v = .slice pp L.length cap ∧ Rl W pp cap L ∧ I6 L := by
 obtain ⟨aa, ll, cc, rfl⟩ := okWide_slice hs hv
 obtain ⟨fuel, hf⟩ := h
 rcases DataW.trod_slice hs hf with ⟨hc, _⟩ | ⟨a, len, cap, elems, rest, n, _, hc, _, hb, hl, hm, hlen, hel, _, _⟩
 · simp [Value.cells] at hc
   obtain ⟨rfl, rfl, rfl⟩ := hc
   exact ⟨none, 0, [], rfl, ⟨Row.nil _ _, Nat.le_refl _, by decide, fun _ => rfl⟩, fun x hx => by cases hx⟩
 · simp [Value.cells] at hc
   obtain ⟨rfl, rfl, rfl⟩ := hc
   rw [hct] at hel
   have each : ∀ i, i < ll → ∃ x : Rq, (I64 x.b ∧ I64 x.d) ∧ W.cell? (a.add (i * 4)) = some (.int .i8 x.a) ∧ W.cell? ((a.add (i * 4)).add 1) = some (.int .i64 x.b) ∧ W.cell? ((a.add (i * 4)).add 2) = some (.int .i8 x.c) ∧ W.cell? ((a.add (i * 4)).add 3) = some (.int .i64 x.d) := by
     intro i hi
     have h4 := hel i hi
     obtain ⟨y, hy⟩ : ∃ y, elems[i]? = some y := ⟨elems[i], by simp [hlen, hi]⟩
     rw [hy, Option.bind_eq_some_iff] at h4
     obtain ⟨cs, hcs, hy4⟩ := h4
     obtain ⟨_, hcl, hcc⟩ := World.cells?_some hcs
     obtain ⟨c0, c1, c2, c3, rfl⟩ := list4 hcl
     obtain ⟨xs, m, _, _, _, hxl, hxe⟩ := DataW.trod_struct ht hy4
     match xs, hxl with
     | [y0, y1], _ =>
       have z0 := hxe 0 f0 rfl
       have z1 := hxe 1 f1 rfl
       rw [o0, k0] at z0
       rw [o1, k1] at z1
       simp at z0 z1
       obtain ⟨u, b, rfl, rfl, hb1⟩ := end_cells he0 a0 a1 b0 b1 h0 h1 z0
       obtain ⟨s, c, rfl, rfl, hc1⟩ := end_cells he1 a2 a3 b2 b3 h2 h3 z1
       refine ⟨⟨u, b, s, c⟩, ⟨hb1, hc1⟩, ?_, ?_, ?_, ?_⟩
       · simpa [Addr.add] using hcc 0 (by decide)
       · simpa using hcc 1 (by decide)
       · simpa using hcc 2 (by decide)
       · simpa using hcc 3 (by decide)
   have hex : ∀ n, n ≤ ll → ∃ L : List Rq, L.length = n ∧ I6 L ∧ ∀ i x, L[i]? = some x → W.cell? (a.add (i * 4)) = some (.int .i8 x.a) ∧ W.cell? ((a.add (i * 4)).add 1) = some (.int .i64 x.b) ∧ W.cell? ((a.add (i * 4)).add 2) = some (.int .i8 x.c) ∧ W.cell? ((a.add (i * 4)).add 3) = some (.int .i64 x.d) := by
     intro n
     induction n with
     | zero => exact fun _ => ⟨[], rfl, (fun x hx => by cases hx), fun i x hx => by simp at hx⟩
     | succ n ih =>
       intro hn
       obtain ⟨L, hL, hI, hx⟩ := ih (by omega)
       obtain ⟨x, hx6, hxc⟩ := each n (by omega)
       refine ⟨L ++ [x], by simp [hL], fun y hy => ?_, fun i y hy => ?_⟩
       · rcases List.mem_append.1 hy with hy | hy
         · exact hI y hy
         · simp at hy; subst hy; exact hx6
       · by_cases hi : i < L.length
         · rw [List.getElem?_append_left hi] at hy; exact hx i y hy
         · have hi2 : i = n := by
            have := (List.getElem?_eq_some_iff.1 hy).1
            simp at this; omega
           subst hi2
           rw [List.getElem?_append_right (by omega)] at hy
           have e0 : i - L.length = 0 := by omega
           rw [e0] at hy; simp at hy; subst hy
           exact hxc
   obtain ⟨L, hL, hI, hx⟩ := hex ll (Nat.le_refl _)
   subst hL
   refine ⟨_, _, L, rfl, ⟨?_, hl, by unfold maxLen at hm; omega, fun e => by cases e⟩, hI⟩
   cases hLL : L with
   | nil => exact Row.nil _ _
   | cons x t =>
     rw [← hLL]
     have hz := hx 0 x (by rw [hLL]; rfl)
     have hsp : a.spot = none := by
       have h0 := hz.1
       simp [Addr.add, World.cell?] at h0
       split at h0
       · split at h0
         · cases h0
         · rename_i hn; simpa using hn
       · cases h0
     obtain ⟨g, o, sp⟩ := a
     simp only at hsp
     subst hsp
     have hlt : g < W.heap.size := World.block_lt_of_cell? _ _ hz.1
     refine ⟨.inr ⟨g, o, rfl, hlt, fun k y hy => ?_⟩⟩
     obtain ⟨e0, e1, e2, e3⟩ := hx k y hy
     have ha : (⟨g, o, none⟩ : Addr).add (k * 4) = ⟨g, o + k * 4, none⟩ := by unfold Addr.add; split <;> simp_all
     rw [ha] at e0 e1 e2 e3
     have hn : ∀ j, (⟨g, o + k * 4, none⟩ : Addr).add j = ⟨g, o + k * 4 + j, none⟩ := fun j => by unfold Addr.add; split <;> simp_all
     rw [hn] at e1 e2 e3
     exact ⟨e0, e1, e2, e3⟩
open Go.ChangeShapes Go.WideShapes Go.ChangeAt Go.RowKit
theorem gTab : Tryz.prog.globalNamed "internal/strconv.uint64pow10" = some 5 := by kernel_rfl
theorem tTab : (Tryz.prog.globals[5]?).map (·.type) = some 230 := by kernel_rfl
theorem gErr : Tryz.prog.globalNamed "strconv.ErrRange" = some 4 := by kernel_rfl
theorem tErr : (Tryz.prog.globals[4]?).map (·.type) = some 153 := by kernel_rfl
theorem cU64 : Tryz.prog.cellsOf 172 = 1 := by kernel_rfl
theorem cTab : Tryz.prog.cellsOf 230 = 20 := by kernel_rfl
theorem iface_cells {P : Program} {W : World} {t : TypeId} {ms : Array (String × TypeId)} {sp : Nat → Bool} {fuel : Nat} {cs : List Value} {nm : String} {d : DataW Unit} {pl : List MemPlace}
   (ht : P.underlying t = some (.interface ms)) (h : DataW.trod (fun _ => ()) P W 0 sp false fuel t cs = some (.iface nm d, pl)) : ∃ u v, cs = [.iface u v] := by
 cases fuel with
 | zero => simp [DataW.trod] at h
 | succ fuel =>
   unfold DataW.trod at h
   rw [ht] at h
   split at h <;> simp_all
open Go.ChangeShapes Go.WideShapes Go.ChangeAt Go.RowKit
theorem handed_shaped {H : Type} {enc : TypeId × Value → H} {a : Assume} {C : Checked} {os : Os} {f : FuncId} {fn : Func} {s : ChangeSpec} {conds : List PathCond} {apart fresh handsOn again : Bool} {X : World → Array Value → Prop}
  (hX : ∀ (w w' : World) (args : Array Value), w.heap = w'.heap → X w args → X w' args)
  (own : ownKnob C.prog.godebug = none) (started : os.Started) (noInit : C.prog.inits.idxOf? f = none) (hfn : C.prog.funcs[f]? = some fn)
  (witness : ∃ (w : World) (tape : Tape) (i : Input), w.os = os ∧ (w.forCall tape i).Shaped C.prog ∧ i.vars = [] ∧ Input.okWide C.prog (w.forCall tape i) .any w.heap.size f i ∧
   ((s.pre enc C.prog fn conds apart (w.forCall tape i).memory i.args ∧ X (w.forCall tape i).memory i.args) ∧ sizedMet enc C.prog fn (OpenSpec.ofChange s) apart (w.forCall tape i).memory i.args) ∧ a.holds C.prog (lone (Frame.enter C.prog f i.args .normal) [] (w.forCall tape i)))
  (contract : ∀ (W : World) (base : Nat) (args : Array Value) (ds gs : List (DataW H)) (before : List MemPlace), W.ShapedOpen C.prog →
   (∀ (j : Nat) t v, fn.params[j]? = some t → args[j]? = some v → Value.okWide C.prog W .any base t v) →
   DataW.Whole enc C.prog fn.params.toList s.vars apart W args.toList ds gs before →
   conds.all (PathCond.test C.prog ⟨fn.params.toList, ds, s.plain.varTypes C.prog, gs⟩) = true →
   (DataW.weightsEach C.prog (fn.params.toList ++ s.plain.varTypes C.prog) (ds ++ gs)).all (· ≤ reachBytes) = true → X W args →
   a.holds C.prog (lone (Frame.enter C.prog f args .normal) [] W) →
   Calls C.prog f args W fun e W' => ∃ v, e = .returned v ∧ s.post enc C.prog fn apart fresh handsOn again W args v W') :
  ReturnsInHanded a C os f .any (fun w args => (s.pre enc C.prog fn conds apart w args ∧ X w args) ∧ sizedMet enc C.prog fn (OpenSpec.ofChange s) apart w args) (s.post enc C.prog fn apart fresh handsOn again) := by
 refine returnsInHanded_of_calls own started noInit witness fun w tape i _ hsh _ hok hpre hholds => ?_
 obtain ⟨_, _, _, fn', hfn', _, _, _, _, hval⟩ := hok
 obtain rfl : fn' = fn := Option.some.inj (hfn'.symm.trans hfn)
 obtain ⟨⟨⟨ds, gs, before, hw, hc⟩, hx⟩, hz⟩ := hpre
 refine (contract _ w.heap.size i.args ds gs before hsh hval (DataW.Whole.of_heap (w' := w.forCall tape i) (by rfl) hw) hc (hz.weights hw) (hX _ _ _ (by rfl) hx) hholds).mono fun e W' ⟨v, he, hp⟩ => ?_
 subst he
 exact ChangeSpec.post_blind hp
open Go.ChangeShapes Go.WideShapes Go.ChangeAt Go.RowKit
theorem envT_of_laid {W : World} {rest : List (String × DataW Unit)} (hp : (("math/bits.deBruijn32tab", Rows.laid_math_bits_deBruijn32tab) :: ("math/bits.deBruijn64tab", Rows.laid_math_bits_deBruijn64tab) :: ("internal/strconv.uint64pow10", Rows.laid_internal_strconv_uint64pow10) :: ("unicode/utf8.acceptRanges", Rows.laid_unicode_utf8_acceptRanges) :: ("strconv.ErrRange", Rows.laid_strconv_ErrRange) :: rest : List (String × DataW Unit)).all (fun x => x.2.handleName?.isNone) = true)
   (h : laidMetH Tryz.prog (("math/bits.deBruijn32tab", Rows.laid_math_bits_deBruijn32tab) :: ("math/bits.deBruijn64tab", Rows.laid_math_bits_deBruijn64tab) :: ("internal/strconv.uint64pow10", Rows.laid_internal_strconv_uint64pow10) :: ("unicode/utf8.acceptRanges", Rows.laid_unicode_utf8_acceptRanges) :: ("strconv.ErrRange", Rows.laid_strconv_ErrRange) :: rest) W) (hs : W.ShapedOpen Tryz.prog) : EnvR W := by
 rw [MakeChecks.laidMetH_plain _ _ _ hp] at h
 obtain ⟨ps, hl, _⟩ := h
 obtain ⟨g, t, cs, fuel, p, q, _, _, _, _, h2, _⟩ := hl
 obtain ⟨g, t, cs, fuel, p, q, _, _, _, _, h3, _⟩ := h2
 obtain ⟨g, t, cs, fuel, p, q, hg, ht, hv, hd, h4, _⟩ := h3
 obtain rfl := Option.some.inj (gTab.symm.trans hg)
 obtain rfl := Option.some.inj (tTab.symm.trans ht)
 obtain ⟨g', t', cs', fuel', p', q', _, _, _, _, h5, _⟩ := h4
 obtain ⟨ge, te, ce, fe, pe, qe, hge, hte, hve, hde, h6, _⟩ := h5
 obtain rfl := Option.some.inj (gErr.symm.trans hge)
 obtain rfl := Option.some.inj (tErr.symm.trans hte)
 refine ⟨⟨?_, ?_⟩, cell_of_shapedOpen_int (t := 3) (zero := #[.int .i64 0]) hs (by decide +kernel) (by kernel_rfl) rfl (by kernel_rfl) (by kernel_rfl) Tryz.underlying3⟩
 · have hd' : DataW.trod (fun _ => ()) Tryz.prog W 0 (fun _ => true) false fuel 230 cs.toList = some (Lib.tabData .u64 Lib.pow10Tab, p) := hd
   have e := Lib.cells_of_tab Tryz.underlying230 Tryz.underlying172 cU64 cTab hd'
   unfold Lib.TabIs
   rw [hv, ← e]
 · obtain ⟨u, v, e⟩ := iface_cells Tryz.underlying153 hde
   refine ⟨u, v, ?_⟩
   rw [hve]
   congr 1
   apply Array.ext'
   exact e
end Go.Proofs.YtoghoddjkdoohaaGreatDoor
