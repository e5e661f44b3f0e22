/- Walks and laws that the claim's theorem leans on: part 27. -/
import Derived.Test.YtoghoddjkdoohaaGreatDoorZKn1
import Derived.Test.YtoghoddjkdoohaaGreatDoorZKn3
import Derived.Test.YtoghoddjkdoohaaGreatDoorZKn7
import Derived.Test.YtoghoddjkdoohaaGreatDoorZKn19
import Derived.Test.YtoghoddjkdoohaaGreatDoorZKn25
import Derived.Test.YtoghoddjkdoohaaGreatDoorZKn26
import Derived.ProofKit
import Derived.LaidMore
import Derived.OpenShut
import Derived.Stop.Joined
import Derived.Lib.LaidTab
import Derived.Shelf.Vars
namespace Go.Proofs.YtoghoddjkdoohaaGreatDoor
set_option maxHeartbeats 4000000
set_option maxRecDepth 100000
open Go.RowKit
set_option linter.unusedVariables false
set_option linter.unusedSimpArgs false
theorem ev_zero : ∀ {k : Nat}, 0 < k -> (ev k)[0]? = some ⟨0, 0, 0, 1⟩
 | 1, _ => rfl
 | k + 2, _ => by
   show (ev (k + 1) ++ [_])[0]? = _
   rw [List.getElem?_append_left (by rw [ev_len]; omega)]; exact ev_zero (by omega)
theorem od_zero : ∀ {k : Nat}, 0 < k -> (od k)[0]? = some ⟨0, 2, 0, 3⟩
 | 1, _ => rfl
 | k + 2, _ => by
   show (od (k + 1) ++ [_])[0]? = _
   rw [List.getElem?_append_left (by rw [od_len]; omega)]; exact od_zero (by omega)
def EndsAt (w : World) (B : Nat) : Prop := ∀ i : Nat, i < 7 -> ∃ p q, w.cell? ⟨B, i * 2, none⟩ = some (.int .i8 p) /\ w.cell? ⟨B, i * 2 + 1, none⟩ = some (.int .i64 q) /\ I64 q
theorem EndsAt.dn {w w' : World} {B : Nat} (h : EndsAt w B) (k : Dn w w') : EndsAt w' B := fun i hi => by
 obtain ⟨p, q, h1, h2, h3⟩ := h i hi
 exact ⟨p, q, k.cell h1, k.cell h2, h3⟩
theorem EndsAt.kept {w w' : World} {B : Nat} {row : Option Nat} (h : EndsAt w B) (hg : w.grownBy w' row) (hne : row ≠ some B) : EndsAt w' B := fun i hi => by
 obtain ⟨p, q, h1, h2, h3⟩ := h i hi
 exact ⟨p, q, hg.cell h1 (fun e => hne e.symm), hg.cell h2 (fun e => hne e.symm), h3⟩
theorem text_nil (s : ByteArray) (w : World) (hs : s.size <= 9223372036854775807) (hE : EnvR w) :
  Calls Tryz.prog 7 #[.slice none 0 0, .string s] w fun ro w' => ro = .returned (.bool true) /\ Dn w w' :=
 runsetsText_true none 0 [] s w ⟨Row.nil _ _, Nat.le_refl _, by decide, fun _ => rfl⟩ (fun x hx => by cases hx) hs hE
theorem one_rl {w : World} {b : Nat} {r : Rq} (h : Cs w b 0 [r]) : Rl w (some ⟨b, 0, none⟩) 1 [r] := ⟨h.row, by simp, by decide, fun e => by cases e⟩
theorem i6_one {r : Rq} (h : I64 r.b /\ I64 r.d) : I6 [r] := fun x hx => by obtain rfl := List.mem_singleton.1 hx; exact h
theorem preKn84x1 (w : World) : ∃ W1, W1 = ((((w.alloc (.cells #[.int .i8 (-1), .int .i64 0] 41)).alloc (.cells #[.int .i8 1, .int .i64 0] 41)).alloc (.cells #[.int .i8 0, .int .i64 (-9223372036854775808)] 41)).alloc (.cells #[.int .i8 0, .int .i64 9223372036854775807] 41)).alloc (.cells #[.int .i8 (-1), .int .i64 0, .int .i8 0, .int .i64 (-9223372036854775808), .int .i8 0, .int .i64 (-9223372036854775807), .int .i8 0, .int .i64 0, .int .i8 0, .int .i64 9223372036854775806, .int .i8 0, .int .i64 9223372036854775807, .int .i8 1, .int .i64 0] 41) /\ (Dn w W1) /\ (W1.cell? ⟨w.heap.size, 0, none⟩ = some (.int .i8 (-1))) /\ (W1.cell? ⟨w.heap.size, 1, none⟩ = some (.int .i64 0)) /\ (w.heap.size < W1.heap.size) /\ (W1.cell? ⟨w.heap.size + 1, 0, none⟩ = some (.int .i8 1)) /\ (W1.cell? ⟨w.heap.size + 1, 1, none⟩ = some (.int .i64 0)) /\ (w.heap.size + 1 < W1.heap.size) /\ (W1.cell? ⟨w.heap.size + 1 + 1, 0, none⟩ = some (.int .i8 0)) /\ (W1.cell? ⟨w.heap.size + 1 + 1, 1, none⟩ = some (.int .i64 (-9223372036854775808))) /\ (w.heap.size + 1 + 1 < W1.heap.size) /\ (W1.cell? ⟨w.heap.size + 1 + 1 + 1, 0, none⟩ = some (.int .i8 0)) /\ (W1.cell? ⟨w.heap.size + 1 + 1 + 1, 1, none⟩ = some (.int .i64 9223372036854775807)) /\ (w.heap.size + 1 + 1 + 1 < W1.heap.size) /\ (W1.cell? ⟨w.heap.size + 1 + 1 + 1 + 1, 0, none⟩ = some (.int .i8 (-1))) /\ (W1.cell? ⟨w.heap.size + 1 + 1 + 1 + 1, 1, none⟩ = some (.int .i64 0)) /\ (W1.cell? ⟨w.heap.size + 1 + 1 + 1 + 1, 2, none⟩ = some (.int .i8 0)) /\ (W1.cell? ⟨w.heap.size + 1 + 1 + 1 + 1, 3, none⟩ = some (.int .i64 (-9223372036854775808))) /\ (W1.cell? ⟨w.heap.size + 1 + 1 + 1 + 1, 4, none⟩ = some (.int .i8 0)) /\ (W1.cell? ⟨w.heap.size + 1 + 1 + 1 + 1, 5, none⟩ = some (.int .i64 (-9223372036854775807))) /\ (W1.cell? ⟨w.heap.size + 1 + 1 + 1 + 1, 6, none⟩ = some (.int .i8 0)) /\ (W1.cell? ⟨w.heap.size + 1 + 1 + 1 + 1, 7, none⟩ = some (.int .i64 0)) /\ (W1.cell? ⟨w.heap.size + 1 + 1 + 1 + 1, 8, none⟩ = some (.int .i8 0)) /\ (W1.cell? ⟨w.heap.size + 1 + 1 + 1 + 1, 9, none⟩ = some (.int .i64 9223372036854775806)) /\ (W1.cell? ⟨w.heap.size + 1 + 1 + 1 + 1, 10, none⟩ = some (.int .i8 0)) /\ (W1.cell? ⟨w.heap.size + 1 + 1 + 1 + 1, 11, none⟩ = some (.int .i64 9223372036854775807)) /\ (W1.cell? ⟨w.heap.size + 1 + 1 + 1 + 1, 12, none⟩ = some (.int .i8 1)) /\ (W1.cell? ⟨w.heap.size + 1 + 1 + 1 + 1, 13, none⟩ = some (.int .i64 0)) /\ (w.heap.size + 1 + 1 + 1 + 1 < W1.heap.size) := by
 obtain ⟨W1, hW1⟩ : ∃ W1, W1 = ((((w.alloc (.cells #[.int .i8 (-1), .int .i64 0] 41)).alloc (.cells #[.int .i8 1, .int .i64 0] 41)).alloc (.cells #[.int .i8 0, .int .i64 (-9223372036854775808)] 41)).alloc (.cells #[.int .i8 0, .int .i64 9223372036854775807] 41)).alloc (.cells #[.int .i8 (-1), .int .i64 0, .int .i8 0, .int .i64 (-9223372036854775808), .int .i8 0, .int .i64 (-9223372036854775807), .int .i8 0, .int .i64 0, .int .i8 0, .int .i64 9223372036854775806, .int .i8 0, .int .i64 9223372036854775807, .int .i8 1, .int .i64 0] 41) := ⟨_, rfl⟩
 refine ⟨W1, hW1, (by rw [hW1]; exact (((((Dn.refl _).alloc _).alloc _).alloc _).alloc _).alloc _), ?_, ?_, ?_, ?_, ?_, ?_, ?_, ?_, ?_, ?_, ?_, ?_, ?_, ?_, ?_, ?_, ?_, ?_, ?_, ?_, ?_, ?_, ?_, ?_, ?_, ?_, ?_⟩ <;> rw [hW1] <;> first | (simp [go_sem]; done) | (simp <;> omega)
theorem known_walk (L O M S T : List Rq) (w : World) (HL : Hid (L = ev 4096)) (HOL : Hid (O = od 4096)) (HM : Hid (M = L ++ [⟨0, 20000, 0, 20001⟩])) (nL : Hid (L.length = 4096)) (nO : Hid (O.length = 4096)) (nM : Hid (M.length = 4097)) (HSET : Hid (∀ W g c, Ns W g [0, 16383] -> Calls Tryz.prog 38 #[.slice (some ⟨g, 0, none⟩) 2 c] W fun ro w' => ∃ p' c', ro = .returned (.slice p' 1 c') /\ Rl w' p' c' S /\ Dn W w')) (HU : Hid (∀ W p1 c1 p2 c2, Rl W p1 c1 L -> Rl W p2 c2 O -> Calls Tryz.prog 24 #[.slice p1 4096 c1, .slice p2 4096 c2] W fun ro w' => ∃ p', ro = .returned (.tuple #[.slice p' 1 1, .int .i64 0]) /\ Row w' p' S /\ Dn W w')) (HC : Hid (∀ W p1 c1 p2 c2, Rl W p1 c1 L -> Rl W p2 c2 S -> Calls Tryz.prog 25 #[.slice p1 4096 c1, .slice p2 1 c2] W fun ro w' => ∃ p', ro = .returned (.tuple #[.slice p' 4096 4096, .int .i64 0]) /\ Row w' p' L /\ Dn W w')) (HV : Hid (∀ W p1 c1 p2 c2, Rl W p1 c1 S -> Rl W p2 c2 L -> Calls Tryz.prog 26 #[.slice p1 1 c1, .slice p2 4096 c2] W fun ro w' => ∃ p', ro = .returned (.tuple #[.slice p' 4096 4096, .int .i64 0]) /\ Row w' p' O /\ Dn W w')) (HN : Hid (∀ W p1 c1, Rl W p1 c1 L -> Calls Tryz.prog 17 #[.slice p1 4096 c1] W fun ro w' => ∃ p', ro = .returned (.tuple #[.slice p' 0 0, .int .i64 3]) /\ Row w' p' [] /\ Dn W w')) (HK : Hid (∀ W p1 c1, Rl W p1 c1 L -> Calls Tryz.prog 19 #[.slice p1 4096 c1] W fun ro w' => ro = .returned (.tuple #[.int .i64 8192, .int .i64 0]) /\ Dn W w')) (HCL : Hid (∀ W p1 c1, Rl W p1 c1 L -> Calls Tryz.prog 14 #[.slice p1 4096 c1] W fun ro w' => ro = .returned (.int .i64 0) /\ Dn W w')) (HCM : Hid (∀ W p1 c1, Rl W p1 c1 M -> Calls Tryz.prog 14 #[.slice p1 4097 c1] W fun ro w' => ro = .returned (.int .i64 3) /\ Dn W w')) (GU : Hid (∀ W p1 p2 c2, Row W p1 S -> Row W p2 S -> Calls Tryz.prog 13 #[.slice p1 1 1, .int .i64 0, .slice p2 1 c2, .int .i64 0] W fun ro w' => ro = .returned (.bool true) /\ Dn W w')) (GC : Hid (∀ W p1 p2 c2, Row W p1 L -> Row W p2 L -> Calls Tryz.prog 13 #[.slice p1 4096 4096, .int .i64 0, .slice p2 4096 c2, .int .i64 0] W fun ro w' => ro = .returned (.bool true) /\ Dn W w')) (GV : Hid (∀ W p1 p2 c2, Row W p1 O -> Row W p2 O -> Calls Tryz.prog 13 #[.slice p1 4096 4096, .int .i64 0, .slice p2 4096 c2, .int .i64 0] W fun ro w' => ro = .returned (.bool true) /\ Dn W w')) (GN : Hid (∀ W p1, Calls Tryz.prog 13 #[.slice p1 0 0, .int .i64 3, .slice none 0 0, .int .i64 3] W fun ro w' => ro = .returned (.bool true) /\ Dn W w')) (HOM : Hid (∀ W p1 c1, Rl W p1 c1 M -> Calls Tryz.prog 10 #[.slice p1 4097 c1] W fun ro w' => ∃ p', ro = .returned (.tuple #[.slice p' 0 0, .int .i64 3]) /\ Row w' p' [] /\ Dn W w')) (HU2 : Hid (∀ W p1 c1 p2 c2, Rl W p1 c1 L -> Rl W p2 c2 [⟨0, 20000, 0, 20001⟩] -> Calls Tryz.prog 24 #[.slice p1 4096 c1, .slice p2 1 c2] W fun ro w' => ∃ p', ro = .returned (.tuple #[.slice p' 0 0, .int .i64 3]) /\ Row w' p' [] /\ Dn W w')) (HN2 : Hid (∀ W p1 c1, Rl W p1 c1 (L.take 4095) -> Calls Tryz.prog 17 #[.slice p1 4095 c1] W fun ro w' => ∃ p', ro = .returned (.tuple #[.slice p' 4096 4096, .int .i64 0]) /\ Row w' p' T /\ Dn W w')) (hE : EnvR w) :
  Calls Tryz.prog 8 #[] w fun ro w' => ro = .returned (.bool true) /\ Dn w w' := by
 go_enter Tryz.func8, Tryz.ntmps8
 go_wp2_with fail
 go_loopw [1, 2, 3] (fun lv ov iv wr => ∃ k : Nat, k <= 4096 /\ iv = .int .i64 k /\ (k = 0 -> ov = .slice none 0 0) /\ OwnQ wr w.heap.size lv (ev k) /\ OwnQ wr w.heap.size ov (od k) /\ Dn w wr) (fun _ _ iv _ => 4096 - (intOf iv).toNat)
 case atStart => exact ⟨0, by omega, rfl, fun _ => rfl, OwnQ.nil _ _, OwnQ.nil _ _, Dn.refl _⟩
 case round =>
  obtain ⟨k, hk, rfl, h0, hl, ho, hu⟩ := hrel
  by_cases hlt : k < 4096
  · have d1 : decide ((k : Int) < 4096) = true := by simp; omega
    have d2 : (k : Int) < 4096 := (by omega); have e1 : IntKind.i64.wrap (4 * (k : Int)) = 4 * (k : Int) := IntWalk.i64_in _ (by omega); have e2 : IntKind.i64.wrap (4 * (k : Int) + 1) = 4 * (k : Int) + 1 := IntWalk.i64_in _ (by omega); have e3 : IntKind.i64.wrap (4 * (k : Int) + 2) = 4 * (k : Int) + 2 := IntWalk.i64_in _ (by omega); have e4 : IntKind.i64.wrap (4 * (k : Int) + 3) = 4 * (k : Int) + 3 := IntWalk.i64_in _ (by omega); have e5 : IntKind.i64.wrap ((k : Int) + 1) = ((k + 1 : Nat) : Int) := (by rw [IntWalk.i64_in _ (by omega)]; omega)
    have HN1 := Lib.hid (show u2.ownBlock = none \/ u2.ownBlock ≠ u1.ownBlock by
      by_cases hk0 : k = 0
      · rw [h0 hk0]; exact .inl rfl
      · exact own_ne ho hl (od_zero (by omega)) (ev_zero (by omega)) (by decide))
    have HN2 := Lib.hid (show ∀ W v1, OwnQ W w.heap.size v1 (ev (k + 1)) -> OwnQ W w.heap.size u2 (od k) -> v1.ownBlock = none \/ v1.ownBlock ≠ u2.ownBlock by
      intro W v1 a b
      by_cases hk0 : k = 0
      · rw [h0 hk0]
        cases v1.ownBlock with
        | none => exact .inl rfl
        | some x => exact .inr (by simp [Value.ownBlock])
      · exact own_ne a b (ev_zero (by omega)) (od_zero (by omega)) (by decide))
    have HLL := Lib.hid hl; have HOO := Lib.hid ho; have HUU := Lib.hid hu; have HLT := Lib.hid hlt; have HEV : Hid ((ev k).length <= 1000000) := Lib.hid (by rw [ev_len]; omega); have HOV : Hid ((od k).length <= 1000000) := Lib.hid (by rw [od_len]; omega); clear hl ho hu h0 hk hlt; go_wp2_with (at_builtin; refine list_runK rfl _ _ rfl wr w.heap.size u1 (ev k) 0 (4 * (k : Int)) 0 (4 * (k : Int) + 1) rfl HLL.out rfl HEV.out HUU.out.size ?_); intro v1 w1 own1 g1; have HD1 := Lib.hid (dn_grown HUU.out g1 (fun j e => (HLL.out.row j e).1)); have HO1 := Lib.hid (HOO.out.keptNe g1 HN1.out); have HL1 := Lib.hid own1; clear own1 g1; go_wp2_with (at_builtin; refine list_runK rfl _ _ rfl w1 w.heap.size u2 (od k) 0 (4 * (k : Int) + 2) 0 (4 * (k : Int) + 3) rfl HO1.out rfl HOV.out HD1.out.size ?_); intro v2 w2 own2 g2; have HD2 := Lib.hid (dn_grown HD1.out g2 (fun j e => (HO1.out.row j e).1)); have HL2 := Lib.hid (HL1.out.keptNe g2 (HN2.out _ _ HL1.out HO1.out)); have HO2 := Lib.hid own2; clear own2 g2; go_wp2_with fail; go_roundw
    case rel => exact ⟨k + 1, by have := HLT.out; omega, by simp, fun h => absurd h (by omega), HL2.out, HO2.out, HD2.out⟩
    case measure => have := HLT.out; simp [intOf]; omega
  · obtain rfl : k = 4096 := by omega
    have d1 : decide (((4096 : Nat) : Int) < 4096) = false := (by decide); rw [<- HL.out] at hl; rw [<- HOL.out] at ho; clear h0 hk hlt; rcases hl.form with ⟨_, e⟩ | ⟨gl, cl, rfl, _, cp1, mx1, csl⟩
    · have := nL.out; rw [e] at this; cases this
    rcases ho.form with ⟨_, e⟩ | ⟨go, co, rfl, _, cp2, mx2, cso⟩
    · have := nO.out; rw [e] at this; cases this
    rw [nL.out, nO.out]; rw [nL.out] at cp1; rw [nO.out] at cp2; have rl : Rl wr (some ⟨gl, 0, none⟩) cl L := ⟨csl.row, by rw [nL.out]; exact cp1, by unfold maxLen at mx1; omega, fun e => by cases e⟩; have ro : Rl wr (some ⟨go, 0, none⟩) co O := ⟨cso.row, by rw [nO.out]; exact cp2, by unfold maxLen at mx2; omega, fun e => by cases e⟩; have f1 : (4096 : Int) <= cl := (by omega); have f2 : (4095 : Int) <= cl := (by omega); have f3 : 4095 <= cl := (by omega); have f4 : cl ≠ 0 := (by omega); have f5 : ¬ cl = 0 := (by omega); have CSL := Lib.hid csl; clear csl cso mx1 mx2 hl ho cp2; go_wp2_with (at_builtin; refine list_clip rfl _ _ rfl wr gl 0 4096 L 0 20000 0 20001 rfl nL.out CSL.out rfl (by decide) ?_); intro v4 w4 own4 hd4; replace rl := rl.dn hd4; replace ro := ro.dn hd4; have csl := CSL.out.dn hd4; clear CSL; rcases own4.form with ⟨_, e⟩ | ⟨gm, cm, rfl, _, cp3, mx3, csm⟩
    · exact absurd e (by simp)
    rw [<- HM.out] at cp3 csm ⊢; rw [nM.out] at cp3 ⊢; have rm : Rl w4 (some ⟨gm, 0, none⟩) cm M := ⟨csm.row, by rw [nM.out]; exact cp3, by unfold maxLen at mx3; omega, fun e => by cases e⟩
    have cs1 : Cs w4 gm (4096 * 4) [⟨0, 20000, 0, 20001⟩] := by
      have h := cs_drop csm 4096; rw [HM.out, <- nL.out, List.drop_left] at h; rw [nL.out] at h; simpa using h
    have r1 : Rl w4 (some ⟨gm, 4096 * 4, none⟩) (cm - 4096) [⟨0, 20000, 0, 20001⟩] := ⟨cs1.row, by simp; omega, by unfold maxLen at mx3; omega, fun e => by cases e⟩; have rt : Rl w4 (some ⟨gl, 0, none⟩) cl (L.take 4095) := ⟨(cs_take csl 4095).row, by simp; omega, rl.mx, rl.nl⟩; have g1 : (4096 : Int) <= cm := (by omega); have g2 : 4096 <= cm := (by omega); have g3 : ¬ cm = 4096 := (by omega); have u4 := hu.trans hd4; clear own4 hd4 csm csl cs1 mx3 hu; go_wp2_with fail; obtain ⟨W1, hW1⟩ : ∃ W1, W1 = w4.alloc (.cells #[.int .i64 0, .int .i64 16383] 2) := ⟨_, rfl⟩; have uW1 : Dn w4 W1 := (by rw [hW1]; exact (Dn.refl _).alloc _); replace rl := rl.dn uW1; replace ro := ro.dn uW1; replace rm := rm.dn uW1; replace r1 := r1.dn uW1; replace rt := rt.dn uW1; have n5 : Ns W1 w4.heap.size [0, 16383] := (by rw [hW1]; exact ns_new _ _ _ rfl); rw [<- hW1]; clear hW1; have vW1 := u4.trans uW1; clear uW1 u4; go_wp2_with fail; refine (HSET.out _ _ _ n5).mono ?_; rintro e w1 ⟨p5, c5, rfl, r5, qw1⟩; replace rl := rl.dn qw1; replace ro := ro.dn qw1; replace rm := rm.dn qw1; replace r1 := r1.dn qw1; replace rt := rt.dn qw1; replace n5 := n5.dn qw1; have uw1 := vW1.trans qw1; clear qw1 vW1; clear n5; go_wp2_with fail; refine (HU.out _ _ _ _ _ rl ro).mono ?_; rintro e w2 ⟨pu, rfl, ru, qw2⟩; replace rl := rl.dn qw2; replace ro := ro.dn qw2; replace rm := rm.dn qw2; replace r1 := r1.dn qw2; replace rt := rt.dn qw2; replace r5 := r5.dn qw2; have uw2 := uw1.trans qw2; clear qw2 uw1; go_wp2_with fail; refine (HC.out _ _ _ _ _ rl r5).mono ?_; rintro e w3 ⟨pc, rfl, rc, qw3⟩; replace rl := rl.dn qw3; replace ro := ro.dn qw3; replace rm := rm.dn qw3; replace r1 := r1.dn qw3; replace rt := rt.dn qw3; replace r5 := r5.dn qw3; replace ru := ru.dn qw3; have uw3 := uw2.trans qw3; clear qw3 uw2; go_wp2_with fail; refine (HV.out _ _ _ _ _ r5 rl).mono ?_; rintro e w4 ⟨pv, rfl, rv, qw4⟩; replace rl := rl.dn qw4; replace ro := ro.dn qw4; replace rm := rm.dn qw4; replace r1 := r1.dn qw4; replace rt := rt.dn qw4; replace r5 := r5.dn qw4; replace ru := ru.dn qw4; replace rc := rc.dn qw4; have uw4 := uw3.trans qw4; clear qw4 uw3; go_wp2_with fail; refine (HN.out _ _ _ rl).mono ?_; rintro e w5 ⟨pn, rfl, -, qw5⟩; replace rl := rl.dn qw5; replace ro := ro.dn qw5; replace rm := rm.dn qw5; replace r1 := r1.dn qw5; replace rt := rt.dn qw5; replace r5 := r5.dn qw5; replace ru := ru.dn qw5; replace rc := rc.dn qw5; replace rv := rv.dn qw5; have uw5 := uw4.trans qw5; clear qw5 uw4; go_wp2_with fail; refine (HK.out _ _ _ rl).mono ?_; rintro e w6 ⟨rfl, qw6⟩; replace rl := rl.dn qw6; replace ro := ro.dn qw6; replace rm := rm.dn qw6; replace r1 := r1.dn qw6; replace rt := rt.dn qw6; replace r5 := r5.dn qw6; replace ru := ru.dn qw6; replace rc := rc.dn qw6; replace rv := rv.dn qw6; have uw6 := uw5.trans qw6; clear qw6 uw5; go_wp2_with fail; refine (HCL.out _ _ _ rl).mono ?_; rintro e w7 ⟨rfl, qw7⟩; replace rl := rl.dn qw7; replace ro := ro.dn qw7; replace rm := rm.dn qw7; replace r1 := r1.dn qw7; replace rt := rt.dn qw7; replace r5 := r5.dn qw7; replace ru := ru.dn qw7; replace rc := rc.dn qw7; replace rv := rv.dn qw7; have uw7 := uw6.trans qw7; clear qw7 uw6; go_wp2_with fail; refine (HCM.out _ _ _ rm).mono ?_; rintro e w8 ⟨rfl, qw8⟩; replace rl := rl.dn qw8; replace ro := ro.dn qw8; replace rm := rm.dn qw8; replace r1 := r1.dn qw8; replace rt := rt.dn qw8; replace r5 := r5.dn qw8; replace ru := ru.dn qw8; replace rc := rc.dn qw8; replace rv := rv.dn qw8; have uw8 := uw7.trans qw8; clear qw8 uw7; go_wp2_with fail; refine (GU.out _ _ _ _ ru r5.row).mono ?_; rintro e w9 ⟨rfl, qw9⟩; replace rl := rl.dn qw9; replace ro := ro.dn qw9; replace rm := rm.dn qw9; replace r1 := r1.dn qw9; replace rt := rt.dn qw9; replace r5 := r5.dn qw9; replace ru := ru.dn qw9; replace rc := rc.dn qw9; replace rv := rv.dn qw9; have uw9 := uw8.trans qw9; clear qw9 uw8; go_wp2_with fail; refine (GC.out _ _ _ _ rc rl.row).mono ?_; rintro e w10 ⟨rfl, qw10⟩; replace rl := rl.dn qw10; replace ro := ro.dn qw10; replace rm := rm.dn qw10; replace r1 := r1.dn qw10; replace rt := rt.dn qw10; replace r5 := r5.dn qw10; replace ru := ru.dn qw10; replace rc := rc.dn qw10; replace rv := rv.dn qw10; have uw10 := uw9.trans qw10; clear qw10 uw9; go_wp2_with fail; refine (GV.out _ _ _ _ rv ro.row).mono ?_; rintro e w11 ⟨rfl, qw11⟩; replace rl := rl.dn qw11; replace ro := ro.dn qw11; replace rm := rm.dn qw11; replace r1 := r1.dn qw11; replace rt := rt.dn qw11; replace r5 := r5.dn qw11; replace ru := ru.dn qw11; replace rc := rc.dn qw11; replace rv := rv.dn qw11; have uw11 := uw10.trans qw11; clear qw11 uw10; go_wp2_with fail; refine (GN.out _ _).mono ?_; rintro e w12 ⟨rfl, qw12⟩; replace rl := rl.dn qw12; replace ro := ro.dn qw12; replace rm := rm.dn qw12; replace r1 := r1.dn qw12; replace rt := rt.dn qw12; replace r5 := r5.dn qw12; replace ru := ru.dn qw12; replace rc := rc.dn qw12; replace rv := rv.dn qw12; have uw12 := uw11.trans qw12; clear qw12 uw11; clear ru rc rv r5 ro; go_wp2_with fail; refine (HOM.out _ _ _ rm).mono ?_; rintro e w13 ⟨pa, rfl, -, qw13⟩; replace rl := rl.dn qw13; replace rm := rm.dn qw13; replace r1 := r1.dn qw13; replace rt := rt.dn qw13; have uw13 := uw12.trans qw13; clear qw13 uw12; clear rm; go_wp2_with fail; refine (HU2.out _ _ _ _ _ rl r1).mono ?_; rintro e w14 ⟨pb, rfl, -, qw14⟩; replace rl := rl.dn qw14; replace r1 := r1.dn qw14; replace rt := rt.dn qw14; have uw14 := uw13.trans qw14; clear qw14 uw13; clear rl r1; go_wp2_with fail; refine (HN2.out _ _ _ rt).mono ?_; rintro e w15 ⟨pd, rfl, -, qw15⟩; replace rt := rt.dn qw15; have uw15 := uw14.trans qw15; clear qw15 uw14; clear rt; go_wp2_with fail; refine (GN.out _ _).mono ?_; rintro e w16 ⟨rfl, qw16⟩; have uw16 := uw15.trans qw16; clear qw16 uw15; go_wp2_with fail; refine (GN.out _ _).mono ?_; rintro e w17 ⟨rfl, qw17⟩; have uw17 := uw16.trans qw17; clear qw17 uw16; clear HSET HU HC HV HN HK HCL HCM GU GC GV GN HOM HU2 HN2 f1 f2 f3 f4 f5 g1 g2 g3 cp1 cp3; go_wp2_with fail; obtain ⟨nb, hnb⟩ : ∃ nb, nb = w17.heap.size := ⟨_, rfl⟩; have hub := uw17; obtain ⟨W2, hW2, uW2, c3, c4, l5, c6, c7, l8, c9, aF, aG, aH, aI, aJ, a0, a1, a2, a3, a4, a5, a6, a7, a8, a9, aA, aB, aC, aD, aE⟩ := preKn84x1 w17; rw [<- hW2]; clear hW2; have vW2 := uw17.trans uW2; clear uW2 uw17
    have hX : EndsAt W2 (nb + 1 + 1 + 1 + 1) := by
      rw [hnb]; intro i hi; rcases (show i = 0 \/ i = 1 \/ i = 2 \/ i = 3 \/ i = 4 \/ i = 5 \/ i = 6 by omega) with rfl | rfl | rfl | rfl | rfl | rfl | rfl
      · exact ⟨_, _, a0, a1, by decide⟩
      · exact ⟨_, _, a2, a3, by decide⟩
      · exact ⟨_, _, a4, a5, by decide⟩
      · exact ⟨_, _, a6, a7, by decide⟩
      · exact ⟨_, _, a8, a9, by decide⟩
      · exact ⟨_, _, aA, aB, by decide⟩
      · exact ⟨_, _, aC, aD, by decide⟩
    have hBW : nb + 1 + 1 + 1 + 1 + 1 <= W2.heap.size := (by have := aE; omega); have hBL : w.heap.size <= nb := (by rw [hnb]; have := hub.size; omega); clear c3 c4 l5; clear c6 c7 l8; clear c9 aF aG; clear aH aI aJ; clear a0 a1 a2 a3 a4 a5 a6 a7 a8 a9 aA aB aC aD aE; rw [<- hnb]; clear hnb hub; go_loopw [21, 22] (fun s21 s22 wr => ∃ (i : Nat) (ii : Int) (xs : List Value) (rs : List Rq) (v : Value), ii = (i : Int) /\ s22 = .int .i64 ii /\ i <= 7 /\ rs.length <= 7 * i /\ (0 < i -> rs ≠ []) /\ v = s21 /\ OwnS wr (nb + 1 + 1 + 1 + 1 + 1) v xs rs /\ EndsAt wr (nb + 1 + 1 + 1 + 1) /\ Dn w wr /\ nb + 1 + 1 + 1 + 1 + 1 <= wr.heap.size) (fun _ s22 _ => (7 - intOf s22).toNat)
    case atStart => exact ⟨0, 0, [], [], _, rfl, rfl, by decide, by simp, fun h => absurd h (by decide), rfl, OwnS.nil _ _, hX, vW2, hBW⟩
    case round =>
      clear hX hBW vW2; obtain ⟨i, ii, xs, rs, v, hii, rfl, hi9, hlen, hne, rfl, hown, hX, ud, hBW⟩ := hrel; obtain rfl : ii = (i : Int) := hii
      by_cases hi : i < 7
      · have t0 : decide ((i : Int) < 7) = true := by simp; omega
        have t1 : (i : Int) < 7 := (by omega); go_wp2_with fail; go_loopw [21, 23] (fun s21 s23 wr => ∃ (k : Nat) (kk : Int) (xs : List Value) (rs : List Rq) (v : Value), kk = (k : Int) /\ s23 = .int .i64 kk /\ i <= k /\ k <= 7 /\ rs.length <= 7 * i + k /\ (0 < i \/ i < k -> rs ≠ []) /\ v = s21 /\ OwnS wr (nb + 1 + 1 + 1 + 1 + 1) v xs rs /\ EndsAt wr (nb + 1 + 1 + 1 + 1) /\ Dn w wr /\ nb + 1 + 1 + 1 + 1 + 1 <= wr.heap.size) (fun _ s23 _ => (7 - intOf s23).toNat)
        case atStart => exact ⟨i, (i : Int), xs, rs, _, rfl, rfl, Nat.le_refl _, hi9, by omega, fun h => hne (by omega), rfl, hown, hX, ud, hBW⟩
        case round =>
          clear hown hX ud hBW hlen hne; obtain ⟨k, kk, xs, rs, v, hkk, rfl, hik, hk9, hlen, hne, rfl, hown, hX, ud, hBW⟩ := hrel; obtain rfl : kk = (k : Int) := hkk
          by_cases hk : k < 7
          · have t2 : decide ((k : Int) < 7) = true := by simp; omega
            have t3 : (k : Int) < 7 := (by omega); obtain ⟨p1, q1, x1, x2, x3⟩ := hX i hi; obtain ⟨p2, q2, y1, y2, y3⟩ := hX k hk; have HOWN := Lib.hid hown; have HXX := Lib.hid hX; have HBW := Lib.hid hBW; have HUD := Lib.hid ud; have HX3 := Lib.hid x3; have HY3 := Lib.hid y3; have HLEN := Lib.hid hlen; have HIK := Lib.hid hik; have HN := Lib.hid (show rs.length <= 1000000 by omega); have HK := Lib.hid hk; have HBB := Lib.hid hBL; have HW1 := Lib.hid (show IntKind.i64.wrap ((k : Int) + 1) = ((k + 1 : Nat) : Int) by rw [IntWalk.i64_in _ (by omega)]; omega); clear hown hX hBW ud x3 y3 hlen hne hik hBL; go_wp2_with fail; go_region_law (refine step_row (by rfl) _ _ (by rfl) _ (nb + 1 + 1 + 1 + 1 + 1) v xs rs p1 q1 p2 q2 (by rfl) HOWN.out (by rfl) HN.out HBW.out HX3.out HY3.out ?_; intro v2 w2 hown2 hg)
            all_goals
             have hrow : ∀ j, v.ownBlock = some j -> nb + 1 + 1 + 1 + 1 + 1 <= j := HOWN.out.row
             have HR := Lib.hid (show (∃ xs', OwnS w2 (nb + 1 + 1 + 1 + 1 + 1) v2 xs' (rs ++ [⟨p1, q1, p2, q2⟩])) /\ EndsAt w2 (nb + 1 + 1 + 1 + 1) /\ Dn w w2 /\ nb + 1 + 1 + 1 + 1 + 1 <= w2.heap.size from
               ⟨hown2, HXX.out.kept hg (fun e => by have := hrow _ e; omega), dn_grown HUD.out hg (fun j e => by have := hrow _ e; have := HBB.out; omega), Nat.le_trans HBW.out hg.size⟩)
             have hBL := HBB.out; clear hown2 hg hrow; go_wp2_with fail; go_roundw
             case rel =>
               obtain ⟨⟨xs', o1⟩, o2⟩ := HR.out; exact ⟨k + 1, ((k + 1 : Nat) : Int), xs', _, _, rfl, by simp, by have := HIK.out; omega, HK.out, by rw [List.length_append]; have := HLEN.out; simp; omega, fun _ => by simp, rfl, o1, o2⟩
             case measure => simp [intOf]; have := HK.out; omega
          · obtain rfl : k = 7 := by omega
            have HS := Lib.hid (And.intro hlen (And.intro hne (And.intro hown (And.intro hX (And.intro ud hBW))))); have HI := Lib.hid hi; have HW1 := Lib.hid (show IntKind.i64.wrap ((i : Int) + 1) = ((i + 1 : Nat) : Int) by rw [IntWalk.i64_in _ (by omega)]; omega); clear hlen hown hX ud hBW hne; go_wp2_with fail; go_roundw
            case rel => exact ⟨i + 1, ((i + 1 : Nat) : Int), xs, rs, _, rfl, by simp, HI.out, by have := HS.out.1; omega, fun _ => HS.out.2.1 (by right; exact HI.out), rfl, HS.out.2.2⟩
            case measure => simp [intOf]; have := HI.out; omega
      · obtain rfl : i = 7 := by omega
        obtain ⟨g, cap, hv, hcap, hrow⟩ := hown.form (hne (by decide)); have HOK := Lib.hid hown.ok; obtain ⟨n, hn⟩ : ∃ n, rs.length = n := ⟨_, rfl⟩; rw [hn] at hv hcap hlen; subst hv; have HRO := Lib.hid hrow; have HUD := Lib.hid ud; have HL2 := Lib.hid hn; have hn49 : n <= 49 := (by omega); clear hrow hown hX ud hBW hlen hn hi hi9 hne hBL; go_wp2_with fail; go_loopw [24] (fun s24 wr => ∃ (i : Nat) (ii : Int), ii = (i : Int) /\ s24 = .int .i64 ii /\ i <= n /\ SetsAt wr g rs /\ Dn w wr) (fun s24 _ => (n - intOf s24).toNat)
        case atStart => exact ⟨0, 0, rfl, rfl, by omega, HRO.out, HUD.out⟩
        case round =>
          clear HRO HUD; obtain ⟨i, ii, hii, rfl, hi9, hro, ud⟩ := hrel; obtain rfl : ii = (i : Int) := hii
          by_cases hi : i < n
          · have t0 : decide ((i : Int) < n) = true := by simp; omega
            have t1 : (i : Int) < n := (by omega); obtain ⟨r1, hr⟩ : ∃ r, rs[i]? = some r := ⟨rs[i]'(by rw [HL2.out]; exact hi), List.getElem?_eq_getElem _⟩; have HJ1 := Lib.hid (i6_one (HOK.out _ (List.mem_of_getElem? hr))); have HRI := Lib.hid hr; have HRO := Lib.hid hro; have HUD := Lib.hid ud; have HII := Lib.hid hi; have HI9 := Lib.hid hi9; clear hr hro ud hi hi9; go_wp2_with fail; go_loopw [25] (fun s25 wr => ∃ (k : Nat) (kk : Int), kk = (k : Int) /\ s25 = .int .i64 kk /\ k <= n /\ SetsAt wr g rs /\ Dn w wr) (fun s25 _ => (n - intOf s25).toNat)
            case atStart => exact ⟨0, 0, rfl, rfl, by omega, HRO.out, HUD.out⟩
            case round =>
             clear HRO HUD; obtain ⟨k, kk, hkk, rfl, hk9, hro, ud⟩ := hrel; obtain rfl : kk = (k : Int) := hkk; obtain ⟨b1, c1, cs1⟩ := hro i r1 HRI.out
             by_cases hk : k < n
             · have t2 : decide ((k : Int) < n) = true := by simp; omega
               have t3 : (k : Int) < n := (by omega); obtain ⟨r2, hr2⟩ : ∃ r, rs[k]? = some r := ⟨rs[k]'(by rw [HL2.out]; exact hk), List.getElem?_eq_getElem _⟩; obtain ⟨b2, c2, cs2⟩ := hro k r2 hr2; have HJ2 := Lib.hid (i6_one (HOK.out _ (List.mem_of_getElem? hr2))); have HR1 := Lib.hid (one_rl cs1); have HR2 := Lib.hid (one_rl cs2); have HW1 := Lib.hid (show IntKind.i64.wrap ((k : Int) + 1) = ((k + 1 : Nat) : Int) by rw [IntWalk.i64_in _ (by omega)]; omega); have HK := Lib.hid hk; have HRO := Lib.hid hro; have HUD := Lib.hid ud; have hS := kd_2 (W := wr) (Dn.refl wr) ⟨Dn.refl wr, c1, c2⟩; clear hr2 hro ud hk hk9 c1 c2 cs1 cs2; go_wp2_with fail
               go_region_held3 (fun w' => Dn wr w' /\ w'.cell? ⟨g, i, none⟩ = some (.slice (some ⟨b1, 0, none⟩) 1 1) /\ w'.cell? ⟨g, k, none⟩ = some (.slice (some ⟨b2, 0, none⟩) 1 1))
                (first | exact kd_2 ((Dn.refl _).drew) hS | exact kd_2 ‹Dn _ _› ‹_› | assumption)
                (first | (go_at_call 6; refine (runsetsPairs_true (some ⟨b1, 0, none⟩) 1 [r1] (some ⟨b2, 0, none⟩) 1 [r2] (-9223372036854775808) _ (HR1.out.dn (‹Dn wr _ /\ _› : _ /\ _).1) HJ1.out (HR2.out.dn (‹Dn wr _ /\ _› : _ /\ _).1) HJ2.out (by decide) (hE.dn (Dn.trans HUD.out (‹Dn wr _ /\ _› : _ /\ _).1))).mono ?_; rintro e wa ⟨rfl, qa⟩))
               all_goals
                have hf : Dn wr _ := (‹Dn wr _ /\ _› : _ /\ _).1; have HF := Lib.hid hf; clear hf hS; go_wp2_with fail; go_roundw
                case rel => (repeat apply Exists.intro); exact ⟨⟨k + 1, ((k + 1 : Nat) : Int), rfl, by simp, HK.out, HRO.out.dn HF.out, HUD.out.trans HF.out⟩, rfl⟩
                case measure => simp [intOf]; have := HK.out; omega
             · obtain rfl : k = n := by omega
               have HRO := Lib.hid hro; have HUD := Lib.hid ud; have HR1 := Lib.hid (one_rl cs1); have HW1 := Lib.hid (show IntKind.i64.wrap ((i : Int) + 1) = ((i + 1 : Nat) : Int) by rw [IntWalk.i64_in _ (by omega)]; omega); clear hro ud hk hk9 cs1; go_wp2_with fail; refine (runsetsOne_true (some ⟨b1, 0, none⟩) 1 [r1] 9223372036854775807 _ HR1.out HJ1.out (by decide) (hE.dn HUD.out)).mono ?_; rintro e wb ⟨rfl, q1⟩; have Q1 := Lib.hid q1; have e1 := q1.cell c1; clear q1 c1; go_wp2_with fail; refine (runsetsText_true (some ⟨b1, 0, none⟩) 1 [r1] _ _ (HR1.out.dn Q1.out) HJ1.out (by decide) (hE.dn (HUD.out.trans Q1.out))).mono ?_; rintro e wc ⟨rfl, q2⟩; have Q2 := Lib.hid (Q1.out.trans q2); clear q2 e1; go_wp2_with fail; go_roundw
               case rel => (repeat apply Exists.intro); exact ⟨⟨i + 1, ((i + 1 : Nat) : Int), rfl, by simp, HII.out, HRO.out.dn Q2.out, HUD.out.trans Q2.out⟩, rfl⟩
               case measure => simp [intOf]; have := HII.out; omega
          · obtain rfl : i = n := by omega
            clear hro hi hi9 HOK HL2; go_wp2_with fail; refine (text_nil _ _ (by decide) (hE.dn ud)).mono ?_; rintro e z1 ⟨rfl, qz1⟩; have uz1 := ud.trans qz1; clear qz1 ud; go_wp2_with fail; refine (text_nil _ _ (by decide) (hE.dn uz1)).mono ?_; rintro e z2 ⟨rfl, qz2⟩; have uz2 := uz1.trans qz2; clear qz2 uz1; go_wp2_with fail; refine (text_nil _ _ (by decide) (hE.dn uz2)).mono ?_; rintro e z3 ⟨rfl, qz3⟩; have uz3 := uz2.trans qz3; clear qz3 uz2; go_wp2_with fail; refine (text_nil _ _ (by decide) (hE.dn uz3)).mono ?_; rintro e z4 ⟨rfl, qz4⟩; have uz4 := uz3.trans qz4; clear qz4 uz3; go_wp2_with fail; refine (text_nil _ _ (by decide) (hE.dn uz4)).mono ?_; rintro e z5 ⟨rfl, qz5⟩; have uz5 := uz4.trans qz5; clear qz5 uz4; go_wp2_with fail; refine (lives10 _ (hE.dn uz5)).mono ?_; rintro e z6 ⟨rfl, qz6⟩; have uz6 := uz5.trans qz6; clear qz6 uz5; go_wp2_with fail; go_ret; exact ⟨rfl, uz6⟩
theorem runsetsKnown_true (w : World) (hE : EnvR w) : Calls Tryz.prog 8 #[] w fun ro w' => ro = .returned (.bool true) /\ Dn w w' := by
 obtain ⟨n, hn⟩ : ∃ n : Nat, n = 4096 := ⟨_, rfl⟩
 obtain ⟨m, hm⟩ : ∃ m : Nat, m = 4095 := ⟨_, rfl⟩
 obtain ⟨q, hq⟩ : ∃ q : Nat, q = 4094 := ⟨_, rfl⟩
 have hnm : n = m + 1 := by omega
 have hmq : m = q + 1 := by omega
 obtain ⟨sL, _, _⟩ := ev_law n (by omega)
 obtain ⟨sO, _, _⟩ := od_law n (by omega)
 obtain ⟨sT, _, _⟩ := ev_law m (by omega)
 obtain ⟨sW, _⟩ := whole_law
 have nL : (ev n).length = 4096 := by rw [ev_len]; exact hn
 have nO : (od n).length = 4096 := by rw [od_len]; exact hn
 have nM : (moreL n).length = 4097 := by rw [more_len]; omega
 have nT : (ev m).length = 4095 := by rw [ev_len]; exact hm
 have sM := more_sep hn
 have kU := kn_union hn
 have kC := kn_common hn
 have kV := kn_without hn
 have kN : (cplL (ev n)).length = 4097 := by rw [hnm, kn_cpl_len m (by omega)]; omega
 have kN2 : (cplL (ev m)).length = 4096 := by rw [hmq, kn_cpl_len q (by omega)]; omega
 have kK := kn_count hn
 have kM := kn_more hn
 have kT : (ev n).take 4095 = ev m := by rw [hnm, <- hm]; exact ev_take m
 have eM : moreL n = ev n ++ [⟨0, 20000, 0, 20001⟩] := rfl
 generalize moreL n = M at *
 obtain ⟨L, hL⟩ : ∃ L, L = ev n := ⟨_, rfl⟩
 obtain ⟨O, hO⟩ : ∃ O, O = od n := ⟨_, rfl⟩
 obtain ⟨T, hT⟩ : ∃ T, T = ev m := ⟨_, rfl⟩
 rw [<- hL] at sL nL kU kC kV kN kK kM kT eM
 rw [<- hO] at sO nO kU kV
 rw [<- hT] at sT nT kN2 kT
 rw [hn] at hL hO
 clear hT hnm hmq hm hq
 obtain ⟨S, hS⟩ : ∃ S : List Rq, S = [⟨0, 0, 0, 16383⟩] := ⟨_, rfl⟩
 rw [<- hS] at sW kU kC kV
 have nS : S.length = 1 := by rw [hS]; rfl
 obtain ⟨R, hR⟩ : ∃ R : List Rq, R = [⟨0, 20000, 0, 20001⟩] := ⟨_, rfl⟩
 rw [<- hR] at kM
 have nR : R.length = 1 := by rw [hR]; rfl
 have sR : Sep R := by rw [hR]; exact sep_one (fin_run (by decide) (by decide) (by decide)).1
 have iL := i6_sep sL
 have iO := i6_sep sO
 have iM := i6_sep sM
 have iS := i6_sep sW
 have iR := i6_sep sR
 have iT := i6_sep sT
 have cL : chkL L = 0 := chk_of iL sL (by omega)
 have cO : chkL O = 0 := chk_of iO sO (by omega)
 have cS : chkL S = 0 := chk_of iS sW (by omega)
 have cR : chkL R = 0 := chk_of iR sR (by omega)
 have cT : chkL T = 0 := chk_of iT sT (by omega)
 have cM : chkL M = 3 := by unfold chkL; rw [if_pos (by omega)]
 have bLO : bothL L O = 0 := by unfold bothL; rw [cL, cO]; rfl
 have bLS : bothL L S = 0 := by unfold bothL; rw [cL, cS]; rfl
 have bSL : bothL S L = 0 := by unfold bothL; rw [cS, cL]; rfl
 have bLR : bothL L R = 0 := by unfold bothL; rw [cL, cR]; rfl
 have big : ∀ {K : List Rq}, 4096 < K.length -> fin3 0 K = 3 /\ res3 0 K = [] := fun {K} h => by
  have h1 : fin3 0 K = 3 := by unfold fin3; rw [if_neg (by decide), if_pos h]
  exact ⟨h1, res_bad (by rw [h1]; decide)⟩
 have HSET := Lib.hid (fun W g c (q : Ns W g [0, 16383]) => (set10 g 2 c [0, 16383] 1 W rfl rfl (by decide) q).mono (fun e W' h => by
  obtain ⟨p', c', h1, h2, h3⟩ := h
  have e1 : setL [0, 16383] = S := by rw [hS]; rfl
  rw [e1] at h1 h2; rw [nS] at h1
  exact (⟨p', c', h1, h2, h3⟩ : ∃ p' c', e = .returned (.slice p' 1 c') /\ Rl W' p' c' S /\ Dn W W')))
 have HU := Lib.hid (fun W p1 c1 p2 c2 (r1 : Rl W p1 c1 L) (r2 : Rl W p2 c2 O) => rsUnionS p1 c1 L p2 c2 O 0 S W (by rw [union_same sL sO, kU]; exact (fin_zero bLO (by omega)).symm) (by rw [union_same sL sO, kU]; exact (res_ok (fin_zero bLO (by omega))).symm) r1.nl r2.nl (by omega) iL r1.row (by omega) iO r2.row)
 have HC := Lib.hid (fun W p1 c1 p2 c2 (r1 : Rl W p1 c1 L) (r2 : Rl W p2 c2 S) => rsCommonS p1 c1 L p2 c2 S 0 L W (by rw [common_eq sL sW, kC]; exact (fin_zero bLS (by omega)).symm) (by rw [common_eq sL sW, kC]; exact (res_ok (fin_zero bLS (by omega))).symm) r1.le r1.mx r2.le r2.mx (by omega) iL r1.row (by omega) iS r2.row)
 have HV := Lib.hid (fun W p1 c1 p2 c2 (r1 : Rl W p1 c1 S) (r2 : Rl W p2 c2 L) => rsWithoutS p1 c1 S p2 c2 L 0 O W (by rw [without_eq sW sL, kV]; exact (fin_zero bSL (by omega)).symm) (by rw [without_eq sW sL, kV]; exact (res_ok (fin_zero bSL (by omega))).symm) r1.le r1.mx r2.le r2.mx (by omega) iS r1.row (by omega) iL r2.row)
 have HN := Lib.hid (fun W p1 c1 (r1 : Rl W p1 c1 L) => rsComplementS p1 c1 L 3 [] W (by rw [cL]; exact (big (by omega)).1.symm) (by rw [cL]; exact (big (by omega)).2.symm) (by omega) iL r1.row)
 have HK := Lib.hid (fun W p1 c1 (r1 : Rl W p1 c1 L) => rsCount p1 c1 L 8192 0 W (by rw [kK]) (by rw [kK]) (by omega) iL r1.row)
 have HCL := Lib.hid (fun W p1 c1 (r1 : Rl W p1 c1 L) => rsCheckE p1 c1 L 0 W cL.symm (by omega) iL r1.row)
 have HCM := Lib.hid (fun W p1 c1 (r1 : Rl W p1 c1 M) => rsCheckE p1 c1 M 3 W cM.symm (by omega) iM r1.row)
 have G := fun (K : List Rq) (hK : K.length <= 100000) => (fun W p1 p2 c2 (r1 : Row W p1 K) (r2 : Row W p2 K) => gv10 p1 K.length K 0 p2 c2 K 0 W (Or.inl ⟨rfl, rfl, rfl, rfl⟩) hK r1 (fun _ => r2))
 have GU := Lib.hid (G S (by omega))
 have GC := Lib.hid (G L (by omega))
 have GV := Lib.hid (G O (by omega))
 have GN := Lib.hid (fun W p1 => gv10 p1 0 [] 3 none 0 [] 3 W (Or.inr ⟨by decide, rfl, rfl⟩) (by decide) (Row.nil _ _) (fun h => by cases h))
 have oM : ofE M = 3 := by unfold ofE; rw [if_pos (by omega)]
 have HOM := Lib.hid (fun W p1 c1 (r1 : Rl W p1 c1 M) => rsOf p1 c1 M 3 [] W oM.symm (by rw [if_neg (by decide)]) (by omega) iM r1.row)
 have HU2 := Lib.hid (fun W p1 c1 p2 c2 (r1 : Rl W p1 c1 L) (r2 : Rl W p2 c2 R) => rsUnionS p1 c1 L p2 c2 R 3 [] W (by rw [union_same sL sR, kM, bLR]; exact (big (by omega)).1.symm) (by rw [union_same sL sR, kM, bLR]; exact (big (by omega)).2.symm) r1.nl r2.nl (by omega) iL r1.row (by omega) iR r2.row)
 have HN2 := Lib.hid (fun W p1 c1 (r1 : Rl W p1 c1 T) => rsComplementS p1 c1 T 0 (cplL T) W (fin_zero cT (by omega)).symm (res_ok (fin_zero cT (by omega))).symm (by omega) iT r1.row)
 rw [<- kT] at HN2
 have nT2 : (L.take 4095).length = 4095 := by rw [kT]; exact nT
 have nK : (cplL (L.take 4095)).length = 4096 := by rw [kT]; exact kN2
 clear G big kU kC kV kN kN2 kK kM
 simp only [nL, nO, nM, nS, nR, nT2, nK, List.length_nil] at HU HC HV HN HK HCL HCM GU GC GV GN HOM HU2 HN2
 rw [hR] at HU2
 exact known_walk L O M S (cplL (L.take 4095)) w (Lib.hid hL) (Lib.hid hO) (Lib.hid eM) (Lib.hid nL) (Lib.hid nO) (Lib.hid nM) HSET HU HC HV HN HK HCL HCM GU GC GV GN HOM HU2 HN2 hE
open Go.ChangeShapes Go.WideShapes Go.ChangeAt Go.RowKit
theorem gTab : Tryz.prog.globalNamed "internal/strconv.uint64pow10" = some 5 := by kernel_rfl
theorem tTab : (Tryz.prog.globals[5]?).map (·.type) = some 230 := by kernel_rfl
theorem gErr : Tryz.prog.globalNamed "strconv.ErrRange" = some 4 := by kernel_rfl
theorem tErr : (Tryz.prog.globals[4]?).map (·.type) = some 153 := by kernel_rfl
theorem cU64 : Tryz.prog.cellsOf 172 = 1 := by kernel_rfl
theorem cTab : Tryz.prog.cellsOf 230 = 20 := by kernel_rfl
theorem iface_cells {P : Program} {W : World} {t : TypeId} {ms : Array (String × TypeId)} {sp : Nat -> Bool} {fuel : Nat} {cs : List Value} {nm : String} {d : DataW Unit} {pl : List MemPlace}
   (ht : P.underlying t = some (.interface ms)) (h : DataW.trod (fun _ => ()) P W 0 sp false fuel t cs = some (.iface nm d, pl)) : ∃ u v, cs = [.iface u v] := by
 cases fuel with
 | zero => simp [DataW.trod] at h
 | succ fuel =>
   unfold DataW.trod at h; rw [ht] at h
   split at h <;> simp_all
open Go.ChangeShapes Go.WideShapes Go.ChangeAt Go.RowKit
theorem handed_shaped {H : Type} {enc : TypeId × Value -> H} {a : Assume} {C : Checked} {os : Os} {f : FuncId} {fn : Func} {s : ChangeSpec} {conds : List PathCond} {apart fresh handsOn again : Bool} {X : World -> Array Value -> Prop}
  (hX : ∀ (w w' : World) (args : Array Value), w.heap = w'.heap -> X w args -> X w' args)
  (own : ownKnob C.prog.godebug = none) (started : os.Started) (noInit : C.prog.inits.idxOf? f = none) (hfn : C.prog.funcs[f]? = some fn)
  (witness : ∃ (w : World) (tape : Tape) (i : Input), w.os = os /\ (w.forCall tape i).Shaped C.prog /\ i.vars = [] /\ Input.okWide C.prog (w.forCall tape i) .any w.heap.size f i /\
   ((s.pre enc C.prog fn conds apart (w.forCall tape i).memory i.args /\ X (w.forCall tape i).memory i.args) /\ sizedMet enc C.prog fn (OpenSpec.ofChange s) apart (w.forCall tape i).memory i.args) /\ a.holds C.prog (lone (Frame.enter C.prog f i.args .normal) [] (w.forCall tape i)))
  (contract : ∀ (W : World) (base : Nat) (args : Array Value) (ds gs : List (DataW H)) (before : List MemPlace), W.ShapedOpen C.prog ->
   (∀ (j : Nat) t v, fn.params[j]? = some t -> args[j]? = some v -> Value.okWide C.prog W .any base t v) ->
   DataW.Whole enc C.prog fn.params.toList s.vars apart W args.toList ds gs before ->
   conds.all (PathCond.test C.prog ⟨fn.params.toList, ds, s.plain.varTypes C.prog, gs⟩) = true ->
   (DataW.weightsEach C.prog (fn.params.toList ++ s.plain.varTypes C.prog) (ds ++ gs)).all (· <= reachBytes) = true -> X W args ->
   a.holds C.prog (lone (Frame.enter C.prog f args .normal) [] W) ->
   Calls C.prog f args W fun e W' => ∃ v, e = .returned v /\ s.post enc C.prog fn apart fresh handsOn again W args v W') :
  ReturnsInHanded a C os f .any (fun w args => (s.pre enc C.prog fn conds apart w args /\ X w args) /\ sizedMet enc C.prog fn (OpenSpec.ofChange s) apart w args) (s.post enc C.prog fn apart fresh handsOn again) := by
 refine returnsInHanded_of_calls own started noInit witness fun w tape i _ hsh _ hok hpre hholds => ?_
 obtain ⟨_, _, _, fn', hfn', _, _, _, _, hval⟩ := hok
 obtain rfl : fn' = fn := Option.some.inj (hfn'.symm.trans hfn)
 obtain ⟨⟨⟨ds, gs, before, hw, hc⟩, hx⟩, hz⟩ := hpre
 refine (contract _ w.heap.size i.args ds gs before hsh hval (DataW.Whole.of_heap (w' := w.forCall tape i) (by rfl) hw) hc (hz.weights hw) (hX _ _ _ (by rfl) hx) hholds).mono fun e W' ⟨v, he, hp⟩ => ?_
 subst he
 exact ChangeSpec.post_blind hp
open Go.ChangeShapes Go.WideShapes Go.ChangeAt Go.RowKit
theorem envT_of_laid {W : World} {rest : List (String × DataW Unit)} (hp : (("math/bits.deBruijn32tab", Rows.laid_math_bits_deBruijn32tab) :: ("math/bits.deBruijn64tab", Rows.laid_math_bits_deBruijn64tab) :: ("internal/strconv.uint64pow10", Rows.laid_internal_strconv_uint64pow10) :: ("unicode/utf8.acceptRanges", Rows.laid_unicode_utf8_acceptRanges) :: ("strconv.ErrRange", Rows.laid_strconv_ErrRange) :: rest : List (String × DataW Unit)).all (fun x => x.2.handleName?.isNone) = true)
   (h : laidMetH Tryz.prog (("math/bits.deBruijn32tab", Rows.laid_math_bits_deBruijn32tab) :: ("math/bits.deBruijn64tab", Rows.laid_math_bits_deBruijn64tab) :: ("internal/strconv.uint64pow10", Rows.laid_internal_strconv_uint64pow10) :: ("unicode/utf8.acceptRanges", Rows.laid_unicode_utf8_acceptRanges) :: ("strconv.ErrRange", Rows.laid_strconv_ErrRange) :: rest) W) (hs : W.ShapedOpen Tryz.prog) : EnvR W := by
 rw [MakeChecks.laidMetH_plain _ _ _ hp] at h
 obtain ⟨ps, hl, _⟩ := h
 obtain ⟨g, t, cs, fuel, p, q, _, _, _, _, h2, _⟩ := hl
 obtain ⟨g, t, cs, fuel, p, q, _, _, _, _, h3, _⟩ := h2
 obtain ⟨g, t, cs, fuel, p, q, hg, ht, hv, hd, h4, _⟩ := h3
 obtain rfl := Option.some.inj (gTab.symm.trans hg)
 obtain rfl := Option.some.inj (tTab.symm.trans ht)
 obtain ⟨g', t', cs', fuel', p', q', _, _, _, _, h5, _⟩ := h4
 obtain ⟨ge, te, ce, fe, pe, qe, hge, hte, hve, hde, h6, _⟩ := h5
 obtain rfl := Option.some.inj (gErr.symm.trans hge)
 obtain rfl := Option.some.inj (tErr.symm.trans hte)
 refine ⟨⟨?_, ?_⟩, cell_of_shapedOpen_int (t := 3) (zero := #[.int .i64 0]) hs (by decide +kernel) (by kernel_rfl) rfl (by kernel_rfl) (by kernel_rfl) Tryz.underlying3⟩
 · have hd' : DataW.trod (fun _ => ()) Tryz.prog W 0 (fun _ => true) false fuel 230 cs.toList = some (Lib.tabData .u64 Lib.pow10Tab, p) := hd
   have e := Lib.cells_of_tab Tryz.underlying230 Tryz.underlying172 cU64 cTab hd'; unfold Lib.TabIs; rw [hv, <- e]
 · obtain ⟨u, v, e⟩ := iface_cells Tryz.underlying153 hde
   refine ⟨u, v, ?_⟩; rw [hve]; congr 1; apply Array.ext'; exact e
end Go.Proofs.YtoghoddjkdoohaaGreatDoor
