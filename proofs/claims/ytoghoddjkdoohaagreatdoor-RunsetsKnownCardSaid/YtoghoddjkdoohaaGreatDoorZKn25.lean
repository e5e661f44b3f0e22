/- Walks and laws that the claim's theorem leans on: part 25. -/
import Derived.Test.YtoghoddjkdoohaaGreatDoorZKn1
import Derived.Test.YtoghoddjkdoohaaGreatDoorZKn23
import Derived.Test.YtoghoddjkdoohaaGreatDoorZKn24
namespace Go.Proofs.YtoghoddjkdoohaaGreatDoor
set_option maxHeartbeats 4000000
set_option maxRecDepth 100000
open Go.RowKit
set_option linter.unusedVariables false
set_option linter.unusedSimpArgs false
theorem gvT_same {R : List Rq} {E : Int} (h : E ≠ 0 -> R = []) : GvT R R.length E R E := by
 by_cases he : E = 0
 · exact Or.inl ⟨he, rfl, rfl, he⟩
 · exact Or.inr ⟨he, h he, rfl⟩
theorem sp_len {s : ByteArray} {R : List Rq} {E : Int} (h : SP s R E) (hs : s.size <= 1000) : R.length <= 100000 := by
 rcases h with ⟨_, rfl, _⟩ | ⟨_, ys, hy, rfl, _⟩
 · simp
 · have h1 := hy.len
   have h2 := spl_len s.data.toList; rw [dl_len] at h2; unfold prsR; split
   · simp; omega
   · simp
theorem runsetsText_true (p : Option Addr) (cap : Nat) (L : List Rq) (s : ByteArray) (w : World) (hR : Rl w p cap L) (hI : I6 L) (hs : s.size <= 9223372036854775807) (hE : EnvR w) :
   Calls Tryz.prog 7 #[.slice p L.length cap, .string s] w fun ro w' => ro = .returned (.bool true) /\ Dn w w' := by
 have hLb : L.length <= 9223372036854775807 := Nat.le_trans hR.le hR.mx
 by_cases h20 : 20 < L.length
 · have d1 : decide ((L.length : Int) > 20) = true := by simp; omega
   have d2 : (20 : Int) < L.length := by omega
   clear hR hI; go_enter Tryz.func7, Tryz.ntmps7; go_wp2_with fail; refine (lives10 _ hE).mono ?_; rintro e w1 ⟨rfl, qw1⟩; have uw1 := qw1; clear qw1; go_wp2_with fail; go_ret; exact ⟨rfl, uw1⟩
 have d1 : decide ((L.length : Int) > 20) = false := by simp; omega
 have d2 : ¬ (20 : Int) < L.length := by omega
 by_cases h200 : 200 < s.size
 · have d3 : decide ((s.size : Int) > 200) = true := by simp; omega
   have d4 : (200 : Int) < s.size := by omega
   clear hR hI; go_enter Tryz.func7, Tryz.ntmps7; go_wp2_with fail; refine (lives10 _ hE).mono ?_; rintro e w1 ⟨rfl, qw1⟩; have uw1 := qw1; clear qw1; go_wp2_with fail; go_ret; exact ⟨rfl, uw1⟩
 have d3 : decide ((s.size : Int) > 200) = false := by simp; omega
 have d4 : ¬ (200 : Int) < s.size := by omega
 obtain ⟨R, E, hsp⟩ := sp_ex s
 have hprt : ∀ f ∈ spl s.data.toList, f.length <= 1000 := fun f hf => by have := spl_sub _ f hf; rw [dl_len] at this; omega
 have HP1 := Lib.hid (fun W hW => rsParse s R E W (by omega) hprt hsp hW)
 have HP2 := Lib.hid (fun W => rfParseS s R E W (by omega) hprt hsp)
 have hgv : GvT R R.length E R E := gvT_same (fun he => sp_bad hsp he)
 have hRl : R.length <= 100000 := sp_len hsp (by omega)
 have HG := Lib.hid (fun W q q2 c (h : Row W q R) (k : Row W q2 R) => gv10 q R.length R E q2 c R E W hgv hRl h (fun _ => k))
 have HCK := Lib.hid (fun W (k : Dn w W) => rfCheckE p cap L (chkL L) W rfl (by omega) hI (hR.row.dn k))
 have HTX := Lib.hid (fun W (k : Dn w W) (e : EnvR W) => rsTextS p cap L (if chkL L = 0 then txtL L else ⟨#[]⟩) W rfl e (by omega) hI (hR.row.dn k))
 by_cases hc : chkL L = 0
 rotate_left
 · rw [if_neg hc] at HTX
   have d5 : (chkL L != 0) = true := by simpa using hc
   have d6 : (chkL L == chkL L) = true := by simp
   clear hc hgv hRl hprt hsp hR hI; generalize chkL L = c at *; go_enter Tryz.func7, Tryz.ntmps7; go_wp2_with fail; refine (HP1.out _ hE).mono ?_; rintro e w1 ⟨p1, rfl, r1, qw1⟩; have uw1 := qw1; clear qw1; go_wp2_with fail; refine (HP2.out _).mono ?_; rintro e w2 ⟨p2, c2, rfl, r2, qw2⟩; replace r1 := r1.dn qw2; have uw2 := uw1.trans qw2; clear qw2 uw1; go_wp2_with fail; refine (HG.out _ _ _ _ r1 r2).mono ?_; rintro e w3 ⟨rfl, qw3⟩; replace r1 := r1.dn qw3; replace r2 := r2.dn qw3; have uw3 := uw2.trans qw3; clear qw3 uw2; clear r1 r2; go_wp2_with fail; refine (HTX.out _ uw3 (hE.dn uw3)).mono ?_; rintro e w4 ⟨rfl, qw4⟩; have uw4 := uw3.trans qw4; clear qw4 uw3; go_wp2_with fail; refine (HCK.out _ uw4).mono ?_; rintro e w5 ⟨rfl, qw5⟩; have uw5 := uw4.trans qw5; clear qw5 uw4; go_wp2_with fail; refine (lives10 _ (hE.dn uw5)).mono ?_; rintro e w6 ⟨rfl, qw6⟩; have uw6 := uw5.trans qw6; clear qw6 uw5; go_wp2_with fail; go_ret; exact ⟨rfl, uw6⟩
 rw [if_pos hc] at HTX
 have HTR := Lib.hid (fun W (k : Dn w W) => rfTextS p cap L W (fun x hx => (Sep.all (chk_ok hI hc) x hx).2.2) (by omega) hI (hR.row.dn k))
 have hts : (txtL L).size <= 60000 := by
   unfold txtL; split
   · decide
   · have := jnT_size hI; omega
 have HP3 := Lib.hid (fun W hW => rsParse (txtL L) L 0 W hts (txt_parts hI hc) (txt_back hI hc) hW)
 have HG2 := Lib.hid (fun W q (h : Row W q L) (k : Dn w W) => gv10 q L.length L 0 p cap L 0 W (Or.inl ⟨rfl, rfl, rfl, rfl⟩) (by omega) h (fun _ => hR.row.dn k))
 rw [hc] at HTX HCK
 have d7 : ((txtL L).toList == (txtL L).toList) = true := by simp
 clear hc hgv hRl hprt hsp hR hI hts
 generalize txtL L = T at *
 go_enter Tryz.func7, Tryz.ntmps7
 go_wp2_with fail
 refine (HP1.out _ hE).mono ?_
 rintro e w1 ⟨p1, rfl, r1, qw1⟩
 have uw1 := qw1
 clear qw1
 go_wp2_with fail
 refine (HP2.out _).mono ?_
 rintro e w2 ⟨p2, c2, rfl, r2, qw2⟩
 replace r1 := r1.dn qw2
 have uw2 := uw1.trans qw2
 clear qw2 uw1
 go_wp2_with fail
 refine (HG.out _ _ _ _ r1 r2).mono ?_
 rintro e w3 ⟨rfl, qw3⟩
 replace r1 := r1.dn qw3
 replace r2 := r2.dn qw3
 have uw3 := uw2.trans qw3
 clear qw3 uw2
 clear r1 r2
 go_wp2_with fail
 refine (HTX.out _ uw3 (hE.dn uw3)).mono ?_
 rintro e w4 ⟨rfl, qw4⟩
 have uw4 := uw3.trans qw4
 clear qw4 uw3
 go_wp2_with fail
 refine (HCK.out _ uw4).mono ?_
 rintro e w5 ⟨rfl, qw5⟩
 have uw5 := uw4.trans qw5
 clear qw5 uw4
 go_wp2_with fail
 refine (HP3.out _ (hE.dn uw5)).mono ?_
 rintro e w6 ⟨p3, rfl, r3, qw6⟩
 have uw6 := uw5.trans qw6
 clear qw6 uw5
 go_wp2_with fail
 refine (HTR.out _ uw6).mono ?_
 rintro e w7 ⟨rfl, qw7⟩
 replace r3 := r3.dn qw7
 have uw7 := uw6.trans qw7
 clear qw7 uw6
 go_wp2_with fail
 refine (HG2.out _ _ r3 uw7).mono ?_
 rintro e w8 ⟨rfl, qw8⟩
 replace r3 := r3.dn qw8
 have uw8 := uw7.trans qw8
 clear qw8 uw7
 go_wp2_with fail
 refine (lives10 _ (hE.dn uw8)).mono ?_
 rintro e w9 ⟨rfl, qw9⟩
 replace r3 := r3.dn qw9
 have uw9 := uw8.trans qw9
 clear qw9 uw8
 go_wp2_with fail
 go_ret
 exact ⟨rfl, uw9⟩
set_option maxHeartbeats 20000000
set_option maxRecDepth 100000
theorem pairs_a (p : Option Addr) (la ca : Nat) (q : Option Addr) (lb cb : Nat) (day : Int) (w : World) (hl1 : la <= 9223372036854775807) (hl2 : lb <= 9223372036854775807) (h1 : 20 < la) (hE : EnvR w) :
  Calls Tryz.prog 6 #[.slice p la ca, .slice q lb cb, .int .i64 day] w fun ro w' => ro = .returned (.bool true) /\ Dn w w' := by
 have e1 : decide ((la : Int) > 20) = true := by simp; omega
 have e2 : (20 : Int) < la := by omega
 clear h1
 go_enter Tryz.func6, Tryz.ntmps6
 go_wp2_with fail
 refine (lives10 _ hE).mono ?_
 rintro e w1 ⟨rfl, qw1⟩
 have uw1 := qw1
 clear qw1
 go_wp2_with fail
 go_ret
 exact ⟨rfl, uw1⟩
theorem pairs_b (p : Option Addr) (la ca : Nat) (q : Option Addr) (lb cb : Nat) (day : Int) (w : World) (hl1 : la <= 9223372036854775807) (hl2 : lb <= 9223372036854775807) (h1 : la <= 20) (h2 : 20 < lb) (hE : EnvR w) :
  Calls Tryz.prog 6 #[.slice p la ca, .slice q lb cb, .int .i64 day] w fun ro w' => ro = .returned (.bool true) /\ Dn w w' := by
 have e1 : decide ((la : Int) > 20) = false := by simp; omega
 have e2 : ¬ (20 : Int) < la := by omega
 have e3 : decide ((lb : Int) > 20) = true := by simp; omega
 have e4 : (20 : Int) < lb := by omega
 clear h1 h2
 go_enter Tryz.func6, Tryz.ntmps6
 go_wp2_with fail
 refine (lives10 _ hE).mono ?_
 rintro e w1 ⟨rfl, qw1⟩
 have uw1 := qw1
 clear qw1
 go_wp2_with fail
 go_ret
 exact ⟨rfl, uw1⟩
theorem pairs_bad (p : Option Addr) (la ca : Nat) (q : Option Addr) (lb cb : Nat) (day c : Int) (RU RC RW : List Rq) (m sm : Bool) (w : World) (h1 : la <= 20) (h2 : lb <= 20) (HU : Hid (∀ W, Dn w W -> Calls Tryz.prog 24 #[.slice p la ca, .slice q lb cb] W fun ro w' => ∃ p', ro = .returned (.tuple #[.slice p' RU.length RU.length, .int .i64 c]) /\ Row w' p' RU /\ Dn W w')) (HC : Hid (∀ W, Dn w W -> Calls Tryz.prog 25 #[.slice p la ca, .slice q lb cb] W fun ro w' => ∃ p', ro = .returned (.tuple #[.slice p' RC.length RC.length, .int .i64 c]) /\ Row w' p' RC /\ Dn W w')) (HW : Hid (∀ W, Dn w W -> Calls Tryz.prog 26 #[.slice p la ca, .slice q lb cb] W fun ro w' => ∃ p', ro = .returned (.tuple #[.slice p' RW.length RW.length, .int .i64 c]) /\ Row w' p' RW /\ Dn W w')) (HI : Hid (∀ W, Dn w W -> Calls Tryz.prog 27 #[.slice p la ca, .slice q lb cb] W fun ro w' => ro = .returned (.tuple #[.bool m, .int .i64 c]) /\ Dn W w')) (FU : Hid (∀ W, Dn w W -> Calls Tryz.prog 29 #[.slice p la ca, .slice q lb cb] W fun ro w' => ∃ p' cap', ro = .returned (.tuple #[.slice p' RU.length cap', .int .i64 c]) /\ Row w' p' RU /\ Dn W w')) (FC : Hid (∀ W, Dn w W -> Calls Tryz.prog 30 #[.slice p la ca, .slice q lb cb] W fun ro w' => ∃ p' cap', ro = .returned (.tuple #[.slice p' RC.length cap', .int .i64 c]) /\ Row w' p' RC /\ Dn W w')) (FW : Hid (∀ W, Dn w W -> Calls Tryz.prog 31 #[.slice p la ca, .slice q lb cb] W fun ro w' => ∃ p' cap', ro = .returned (.tuple #[.slice p' RW.length cap', .int .i64 c]) /\ Row w' p' RW /\ Dn W w')) (FI : Hid (∀ W, Dn w W -> Calls Tryz.prog 32 #[.slice p la ca, .slice q lb cb] W fun ro w' => ro = .returned (.tuple #[.bool m, .int .i64 c]) /\ Dn W w')) (HS : Hid (∀ W, Dn w W -> Calls Tryz.prog 33 #[.slice p la ca, .slice q lb cb] W fun ro w' => ro = .returned (.bool sm) /\ Dn W w')) (FS : Hid (∀ W, Dn w W -> Calls Tryz.prog 28 #[.slice p la ca, .slice q lb cb] W fun ro w' => ro = .returned (.bool sm) /\ Dn W w')) (GU : Hid (∀ W p1 p2 c2, Row W p1 RU -> Row W p2 RU -> Calls Tryz.prog 13 #[.slice p1 RU.length RU.length, .int .i64 c, .slice p2 RU.length c2, .int .i64 c] W fun ro w' => ro = .returned (.bool true) /\ Dn W w')) (GC : Hid (∀ W p1 p2 c2, Row W p1 RC -> Row W p2 RC -> Calls Tryz.prog 13 #[.slice p1 RC.length RC.length, .int .i64 c, .slice p2 RC.length c2, .int .i64 c] W fun ro w' => ro = .returned (.bool true) /\ Dn W w')) (GW : Hid (∀ W p1 p2 c2, Row W p1 RW -> Row W p2 RW -> Calls Tryz.prog 13 #[.slice p1 RW.length RW.length, .int .i64 c, .slice p2 RW.length c2, .int .i64 c] W fun ro w' => ro = .returned (.bool true) /\ Dn W w')) (hc : c ≠ 0) (hE : EnvR w) :
  Calls Tryz.prog 6 #[.slice p la ca, .slice q lb cb, .int .i64 day] w fun ro w' => ro = .returned (.bool true) /\ Dn w w' := by
 have e1 : decide ((la : Int) > 20) = false := by simp; omega
 have e2 : ¬ (20 : Int) < la := by omega
 have e3 : decide ((lb : Int) > 20) = false := by simp; omega
 have e4 : ¬ (20 : Int) < lb := by omega
 have e5 : (m != m) = false := by simp
 have e6 : (c != c) = false := by simp
 have e7 : (sm != sm) = false := by simp
 clear h1 h2
 have e8 : (c != 0) = true := by simpa using hc
 clear hc
 go_enter Tryz.func6, Tryz.ntmps6
 go_wp2_with fail
 refine (HU.out _ (Dn.refl _)).mono ?_
 rintro e w1 ⟨pu, rfl, ru, qw1⟩
 have uw1 := qw1
 clear qw1
 go_wp2_with fail
 refine (HC.out _ uw1).mono ?_
 rintro e w2 ⟨pc, rfl, rc, qw2⟩
 replace ru := ru.dn qw2
 have uw2 := uw1.trans qw2
 clear qw2 uw1
 go_wp2_with fail
 refine (HW.out _ uw2).mono ?_
 rintro e w3 ⟨pw, rfl, rw, qw3⟩
 replace ru := ru.dn qw3
 replace rc := rc.dn qw3
 have uw3 := uw2.trans qw3
 clear qw3 uw2
 go_wp2_with fail
 refine (HI.out _ uw3).mono ?_
 rintro e w4 ⟨rfl, qw4⟩
 replace ru := ru.dn qw4
 replace rc := rc.dn qw4
 replace rw := rw.dn qw4
 have uw4 := uw3.trans qw4
 clear qw4 uw3
 go_wp2_with fail
 refine (FU.out _ uw4).mono ?_
 rintro e w5 ⟨pfu, cfu, rfl, rfu, qw5⟩
 replace ru := ru.dn qw5
 replace rc := rc.dn qw5
 replace rw := rw.dn qw5
 have uw5 := uw4.trans qw5
 clear qw5 uw4
 go_wp2_with fail
 refine (FC.out _ uw5).mono ?_
 rintro e w6 ⟨pfc, cfc, rfl, rfc, qw6⟩
 replace ru := ru.dn qw6
 replace rc := rc.dn qw6
 replace rw := rw.dn qw6
 replace rfu := rfu.dn qw6
 have uw6 := uw5.trans qw6
 clear qw6 uw5
 go_wp2_with fail
 refine (FW.out _ uw6).mono ?_
 rintro e w7 ⟨pfw, cfw, rfl, rfw, qw7⟩
 replace ru := ru.dn qw7
 replace rc := rc.dn qw7
 replace rw := rw.dn qw7
 replace rfu := rfu.dn qw7
 replace rfc := rfc.dn qw7
 have uw7 := uw6.trans qw7
 clear qw7 uw6
 go_wp2_with fail
 refine (FI.out _ uw7).mono ?_
 rintro e w8 ⟨rfl, qw8⟩
 replace ru := ru.dn qw8
 replace rc := rc.dn qw8
 replace rw := rw.dn qw8
 replace rfu := rfu.dn qw8
 replace rfc := rfc.dn qw8
 replace rfw := rfw.dn qw8
 have uw8 := uw7.trans qw8
 clear qw8 uw7
 go_wp2_with fail
 refine (GU.out _ _ _ _ ru rfu).mono ?_
 rintro e w9 ⟨rfl, qw9⟩
 replace ru := ru.dn qw9
 replace rc := rc.dn qw9
 replace rw := rw.dn qw9
 replace rfu := rfu.dn qw9
 replace rfc := rfc.dn qw9
 replace rfw := rfw.dn qw9
 have uw9 := uw8.trans qw9
 clear qw9 uw8
 go_wp2_with fail
 refine (GC.out _ _ _ _ rc rfc).mono ?_
 rintro e w10 ⟨rfl, qw10⟩
 replace ru := ru.dn qw10
 replace rc := rc.dn qw10
 replace rw := rw.dn qw10
 replace rfu := rfu.dn qw10
 replace rfc := rfc.dn qw10
 replace rfw := rfw.dn qw10
 have uw10 := uw9.trans qw10
 clear qw10 uw9
 go_wp2_with fail
 refine (GW.out _ _ _ _ rw rfw).mono ?_
 rintro e w11 ⟨rfl, qw11⟩
 replace ru := ru.dn qw11
 replace rc := rc.dn qw11
 replace rw := rw.dn qw11
 replace rfu := rfu.dn qw11
 replace rfc := rfc.dn qw11
 replace rfw := rfw.dn qw11
 have uw11 := uw10.trans qw11
 clear qw11 uw10
 go_wp2_with fail
 refine (HS.out _ uw11).mono ?_
 rintro e w12 ⟨rfl, qw12⟩
 replace ru := ru.dn qw12
 replace rc := rc.dn qw12
 replace rw := rw.dn qw12
 replace rfu := rfu.dn qw12
 replace rfc := rfc.dn qw12
 replace rfw := rfw.dn qw12
 have uw12 := uw11.trans qw12
 clear qw12 uw11
 go_wp2_with fail
 refine (FS.out _ uw12).mono ?_
 rintro e w13 ⟨rfl, qw13⟩
 replace ru := ru.dn qw13
 replace rc := rc.dn qw13
 replace rw := rw.dn qw13
 replace rfu := rfu.dn qw13
 replace rfc := rfc.dn qw13
 replace rfw := rfw.dn qw13
 have uw13 := uw12.trans qw13
 clear qw13 uw12
 clear ru rc rw rfu rfc rfw
 go_wp2_with fail
 refine (lives10 _ (hE.dn uw13)).mono ?_
 rintro e w14 ⟨rfl, qw14⟩
 have uw14 := uw13.trans qw14
 clear qw14 uw13
 go_wp2_with fail
 go_ret
 exact ⟨rfl, uw14⟩
theorem pairs_ok (p : Option Addr) (la ca : Nat) (q : Option Addr) (lb cb : Nat) (day : Int) (RU RC RW : List Rq) (m sm : Bool) (w : World) (x y : Bool) (h1 : la <= 20) (h2 : lb <= 20) (HU : Hid (∀ W, Dn w W -> Calls Tryz.prog 24 #[.slice p la ca, .slice q lb cb] W fun ro w' => ∃ p', ro = .returned (.tuple #[.slice p' RU.length RU.length, .int .i64 0]) /\ Row w' p' RU /\ Dn W w')) (HC : Hid (∀ W, Dn w W -> Calls Tryz.prog 25 #[.slice p la ca, .slice q lb cb] W fun ro w' => ∃ p', ro = .returned (.tuple #[.slice p' RC.length RC.length, .int .i64 0]) /\ Row w' p' RC /\ Dn W w')) (HW : Hid (∀ W, Dn w W -> Calls Tryz.prog 26 #[.slice p la ca, .slice q lb cb] W fun ro w' => ∃ p', ro = .returned (.tuple #[.slice p' RW.length RW.length, .int .i64 0]) /\ Row w' p' RW /\ Dn W w')) (HI : Hid (∀ W, Dn w W -> Calls Tryz.prog 27 #[.slice p la ca, .slice q lb cb] W fun ro w' => ro = .returned (.tuple #[.bool m, .int .i64 0]) /\ Dn W w')) (FU : Hid (∀ W, Dn w W -> Calls Tryz.prog 29 #[.slice p la ca, .slice q lb cb] W fun ro w' => ∃ p' cap', ro = .returned (.tuple #[.slice p' RU.length cap', .int .i64 0]) /\ Row w' p' RU /\ Dn W w')) (FC : Hid (∀ W, Dn w W -> Calls Tryz.prog 30 #[.slice p la ca, .slice q lb cb] W fun ro w' => ∃ p' cap', ro = .returned (.tuple #[.slice p' RC.length cap', .int .i64 0]) /\ Row w' p' RC /\ Dn W w')) (FW : Hid (∀ W, Dn w W -> Calls Tryz.prog 31 #[.slice p la ca, .slice q lb cb] W fun ro w' => ∃ p' cap', ro = .returned (.tuple #[.slice p' RW.length cap', .int .i64 0]) /\ Row w' p' RW /\ Dn W w')) (FI : Hid (∀ W, Dn w W -> Calls Tryz.prog 32 #[.slice p la ca, .slice q lb cb] W fun ro w' => ro = .returned (.tuple #[.bool m, .int .i64 0]) /\ Dn W w')) (HS : Hid (∀ W, Dn w W -> Calls Tryz.prog 33 #[.slice p la ca, .slice q lb cb] W fun ro w' => ro = .returned (.bool sm) /\ Dn W w')) (FS : Hid (∀ W, Dn w W -> Calls Tryz.prog 28 #[.slice p la ca, .slice q lb cb] W fun ro w' => ro = .returned (.bool sm) /\ Dn W w')) (GU : Hid (∀ W p1 p2 c2, Row W p1 RU -> Row W p2 RU -> Calls Tryz.prog 13 #[.slice p1 RU.length RU.length, .int .i64 0, .slice p2 RU.length c2, .int .i64 0] W fun ro w' => ro = .returned (.bool true) /\ Dn W w')) (GC : Hid (∀ W p1 p2 c2, Row W p1 RC -> Row W p2 RC -> Calls Tryz.prog 13 #[.slice p1 RC.length RC.length, .int .i64 0, .slice p2 RC.length c2, .int .i64 0] W fun ro w' => ro = .returned (.bool true) /\ Dn W w')) (GW : Hid (∀ W p1 p2 c2, Row W p1 RW -> Row W p2 RW -> Calls Tryz.prog 13 #[.slice p1 RW.length RW.length, .int .i64 0, .slice p2 RW.length c2, .int .i64 0] W fun ro w' => ro = .returned (.bool true) /\ Dn W w')) (XA : Hid (∀ W, Dn w W -> Calls Tryz.prog 16 #[.slice p la ca, .int .i64 day] W fun ro w' => ro = .returned (.bool x) /\ Dn W w')) (XB : Hid (∀ W, Dn w W -> Calls Tryz.prog 16 #[.slice q lb cb, .int .i64 day] W fun ro w' => ro = .returned (.bool y) /\ Dn W w')) (XU : Hid (∀ W p1, Row W p1 RU -> Calls Tryz.prog 16 #[.slice p1 RU.length RU.length, .int .i64 day] W fun ro w' => ro = .returned (.bool (x || y)) /\ Dn W w')) (XC : Hid (∀ W p1, Row W p1 RC -> Calls Tryz.prog 16 #[.slice p1 RC.length RC.length, .int .i64 day] W fun ro w' => ro = .returned (.bool (x && y)) /\ Dn W w')) (XW : Hid (∀ W p1, Row W p1 RW -> Calls Tryz.prog 16 #[.slice p1 RW.length RW.length, .int .i64 day] W fun ro w' => ro = .returned (.bool (x && !y)) /\ Dn W w')) (HV : Hid (∀ W, Dn w W -> Calls Tryz.prog 24 #[.slice q lb cb, .slice p la ca] W fun ro w' => ∃ p', ro = .returned (.tuple #[.slice p' RU.length RU.length, .int .i64 0]) /\ Row w' p' RU /\ Dn W w')) (HD : Hid (∀ W, Dn w W -> Calls Tryz.prog 25 #[.slice q lb cb, .slice p la ca] W fun ro w' => ∃ p', ro = .returned (.tuple #[.slice p' RC.length RC.length, .int .i64 0]) /\ Row w' p' RC /\ Dn W w')) (FM : Hid (∀ W p1, Dn w W -> Row W p1 RU -> Calls Tryz.prog 28 #[.slice p1 RU.length RU.length, .slice q lb cb] W fun ro w' => ro = .returned (.bool m) /\ Dn W w')) (hE : EnvR w) :
   Calls Tryz.prog 6 #[.slice p la ca, .slice q lb cb, .int .i64 day] w fun ro w' => ro = .returned (.bool true) /\ Dn w w' := by
 have e1 : decide ((la : Int) > 20) = false := by simp; omega
 have e2 : ¬ (20 : Int) < la := by omega
 have e3 : decide ((lb : Int) > 20) = false := by simp; omega
 have e4 : ¬ (20 : Int) < lb := by omega
 have e5 : (m != m) = false := by simp
 have e7 : (sm != sm) = false := by simp
 clear h1 h2
 have e9 : (m == m) = true := by simp
 cases x <;> cases y <;> simp only [Bool.or_false, Bool.or_true, Bool.and_false, Bool.and_true, Bool.not_false, Bool.not_true, Bool.false_and, Bool.true_and, Bool.false_or, Bool.true_or] at XU XC XW
 · go_enter Tryz.func6, Tryz.ntmps6
   go_wp2_with fail; refine (HU.out _ (Dn.refl _)).mono ?_; rintro e w1 ⟨pu, rfl, ru, qw1⟩; have uw1 := qw1; clear qw1; go_wp2_with fail; refine (HC.out _ uw1).mono ?_; rintro e w2 ⟨pc, rfl, rc, qw2⟩; replace ru := ru.dn qw2; have uw2 := uw1.trans qw2; clear qw2 uw1; go_wp2_with fail; refine (HW.out _ uw2).mono ?_; rintro e w3 ⟨pw, rfl, rw, qw3⟩; replace ru := ru.dn qw3; replace rc := rc.dn qw3; have uw3 := uw2.trans qw3; clear qw3 uw2; go_wp2_with fail; refine (HI.out _ uw3).mono ?_; rintro e w4 ⟨rfl, qw4⟩; replace ru := ru.dn qw4; replace rc := rc.dn qw4; replace rw := rw.dn qw4; have uw4 := uw3.trans qw4; clear qw4 uw3; go_wp2_with fail; refine (FU.out _ uw4).mono ?_; rintro e w5 ⟨pfu, cfu, rfl, rfu, qw5⟩; replace ru := ru.dn qw5; replace rc := rc.dn qw5; replace rw := rw.dn qw5; have uw5 := uw4.trans qw5; clear qw5 uw4; go_wp2_with fail; refine (FC.out _ uw5).mono ?_; rintro e w6 ⟨pfc, cfc, rfl, rfc, qw6⟩; replace ru := ru.dn qw6; replace rc := rc.dn qw6; replace rw := rw.dn qw6; replace rfu := rfu.dn qw6; have uw6 := uw5.trans qw6; clear qw6 uw5; go_wp2_with fail; refine (FW.out _ uw6).mono ?_; rintro e w7 ⟨pfw, cfw, rfl, rfw, qw7⟩; replace ru := ru.dn qw7; replace rc := rc.dn qw7; replace rw := rw.dn qw7; replace rfu := rfu.dn qw7; replace rfc := rfc.dn qw7; have uw7 := uw6.trans qw7; clear qw7 uw6; go_wp2_with fail; refine (FI.out _ uw7).mono ?_; rintro e w8 ⟨rfl, qw8⟩; replace ru := ru.dn qw8; replace rc := rc.dn qw8; replace rw := rw.dn qw8; replace rfu := rfu.dn qw8; replace rfc := rfc.dn qw8; replace rfw := rfw.dn qw8; have uw8 := uw7.trans qw8; clear qw8 uw7; go_wp2_with fail; refine (GU.out _ _ _ _ ru rfu).mono ?_; rintro e w9 ⟨rfl, qw9⟩; replace ru := ru.dn qw9; replace rc := rc.dn qw9; replace rw := rw.dn qw9; replace rfu := rfu.dn qw9; replace rfc := rfc.dn qw9; replace rfw := rfw.dn qw9; have uw9 := uw8.trans qw9; clear qw9 uw8; go_wp2_with fail; refine (GC.out _ _ _ _ rc rfc).mono ?_; rintro e w10 ⟨rfl, qw10⟩; replace ru := ru.dn qw10; replace rc := rc.dn qw10; replace rw := rw.dn qw10; replace rfu := rfu.dn qw10; replace rfc := rfc.dn qw10; replace rfw := rfw.dn qw10; have uw10 := uw9.trans qw10; clear qw10 uw9; go_wp2_with fail; refine (GW.out _ _ _ _ rw rfw).mono ?_; rintro e w11 ⟨rfl, qw11⟩; replace ru := ru.dn qw11; replace rc := rc.dn qw11; replace rw := rw.dn qw11; replace rfu := rfu.dn qw11; replace rfc := rfc.dn qw11; replace rfw := rfw.dn qw11; have uw11 := uw10.trans qw11; clear qw11 uw10; go_wp2_with fail; refine (HS.out _ uw11).mono ?_; rintro e w12 ⟨rfl, qw12⟩; replace ru := ru.dn qw12; replace rc := rc.dn qw12; replace rw := rw.dn qw12; replace rfu := rfu.dn qw12; replace rfc := rfc.dn qw12; replace rfw := rfw.dn qw12; have uw12 := uw11.trans qw12; clear qw12 uw11; go_wp2_with fail; refine (FS.out _ uw12).mono ?_; rintro e w13 ⟨rfl, qw13⟩; replace ru := ru.dn qw13; replace rc := rc.dn qw13; replace rw := rw.dn qw13; replace rfu := rfu.dn qw13; replace rfc := rfc.dn qw13; replace rfw := rfw.dn qw13; have uw13 := uw12.trans qw13; clear qw13 uw12; clear rfw; go_wp2_with fail; refine (XA.out _ uw13).mono ?_; rintro e w14 ⟨rfl, qw14⟩; replace ru := ru.dn qw14; replace rc := rc.dn qw14; replace rw := rw.dn qw14; replace rfu := rfu.dn qw14; replace rfc := rfc.dn qw14; have uw14 := uw13.trans qw14; clear qw14 uw13; go_wp2_with fail; refine (XB.out _ uw14).mono ?_; rintro e w15 ⟨rfl, qw15⟩; replace ru := ru.dn qw15; replace rc := rc.dn qw15; replace rw := rw.dn qw15; replace rfu := rfu.dn qw15; replace rfc := rfc.dn qw15; have uw15 := uw14.trans qw15; clear qw15 uw14; go_wp2_with fail; refine (XU.out _ _ ru).mono ?_; rintro e w16 ⟨rfl, qw16⟩; replace ru := ru.dn qw16; replace rc := rc.dn qw16; replace rw := rw.dn qw16; replace rfu := rfu.dn qw16; replace rfc := rfc.dn qw16; have uw16 := uw15.trans qw16; clear qw16 uw15; go_wp2_with fail; refine (XC.out _ _ rc).mono ?_; rintro e w17 ⟨rfl, qw17⟩; replace ru := ru.dn qw17; replace rc := rc.dn qw17; replace rw := rw.dn qw17; replace rfu := rfu.dn qw17; replace rfc := rfc.dn qw17; have uw17 := uw16.trans qw17; clear qw17 uw16; go_wp2_with fail; refine (XW.out _ _ rw).mono ?_; rintro e w18 ⟨rfl, qw18⟩; replace ru := ru.dn qw18; replace rc := rc.dn qw18; replace rw := rw.dn qw18; replace rfu := rfu.dn qw18; replace rfc := rfc.dn qw18; have uw18 := uw17.trans qw18; clear qw18 uw17; clear rc rw; go_wp2_with fail; refine (HV.out _ uw18).mono ?_; rintro e w19 ⟨pv, rfl, rv, qw19⟩; replace ru := ru.dn qw19; replace rfu := rfu.dn qw19; replace rfc := rfc.dn qw19; have uw19 := uw18.trans qw19; clear qw19 uw18; go_wp2_with fail; refine (HD.out _ uw19).mono ?_; rintro e w20 ⟨pd, rfl, rd, qw20⟩; replace ru := ru.dn qw20; replace rfu := rfu.dn qw20; replace rfc := rfc.dn qw20; replace rv := rv.dn qw20; have uw20 := uw19.trans qw20; clear qw20 uw19; go_wp2_with fail; refine (GU.out _ _ _ _ rv rfu).mono ?_; rintro e w21 ⟨rfl, qw21⟩; replace ru := ru.dn qw21; replace rfu := rfu.dn qw21; replace rfc := rfc.dn qw21; replace rv := rv.dn qw21; replace rd := rd.dn qw21; have uw21 := uw20.trans qw21; clear qw21 uw20; go_wp2_with fail; refine (GC.out _ _ _ _ rd rfc).mono ?_; rintro e w22 ⟨rfl, qw22⟩; replace ru := ru.dn qw22; replace rfu := rfu.dn qw22; replace rfc := rfc.dn qw22; replace rv := rv.dn qw22; replace rd := rd.dn qw22; have uw22 := uw21.trans qw22; clear qw22 uw21; go_wp2_with fail; refine (FM.out _ _ uw22 ru).mono ?_; rintro e w23 ⟨rfl, qw23⟩; replace ru := ru.dn qw23; replace rfu := rfu.dn qw23; replace rfc := rfc.dn qw23; replace rv := rv.dn qw23; replace rd := rd.dn qw23; have uw23 := uw22.trans qw23; clear qw23 uw22; go_wp2_with fail; refine (lives10 _ (hE.dn uw23)).mono ?_; rintro e w24 ⟨rfl, qw24⟩; replace ru := ru.dn qw24; replace rfu := rfu.dn qw24; replace rfc := rfc.dn qw24; replace rv := rv.dn qw24; replace rd := rd.dn qw24; have uw24 := uw23.trans qw24; clear qw24 uw23; go_wp2_with fail; go_ret; exact ⟨rfl, uw24⟩
 · go_enter Tryz.func6, Tryz.ntmps6
   go_wp2_with fail; refine (HU.out _ (Dn.refl _)).mono ?_; rintro e w1 ⟨pu, rfl, ru, qw1⟩; have uw1 := qw1; clear qw1; go_wp2_with fail; refine (HC.out _ uw1).mono ?_; rintro e w2 ⟨pc, rfl, rc, qw2⟩; replace ru := ru.dn qw2; have uw2 := uw1.trans qw2; clear qw2 uw1; go_wp2_with fail; refine (HW.out _ uw2).mono ?_; rintro e w3 ⟨pw, rfl, rw, qw3⟩; replace ru := ru.dn qw3; replace rc := rc.dn qw3; have uw3 := uw2.trans qw3; clear qw3 uw2; go_wp2_with fail; refine (HI.out _ uw3).mono ?_; rintro e w4 ⟨rfl, qw4⟩; replace ru := ru.dn qw4; replace rc := rc.dn qw4; replace rw := rw.dn qw4; have uw4 := uw3.trans qw4; clear qw4 uw3; go_wp2_with fail; refine (FU.out _ uw4).mono ?_; rintro e w5 ⟨pfu, cfu, rfl, rfu, qw5⟩; replace ru := ru.dn qw5; replace rc := rc.dn qw5; replace rw := rw.dn qw5; have uw5 := uw4.trans qw5; clear qw5 uw4; go_wp2_with fail; refine (FC.out _ uw5).mono ?_; rintro e w6 ⟨pfc, cfc, rfl, rfc, qw6⟩; replace ru := ru.dn qw6; replace rc := rc.dn qw6; replace rw := rw.dn qw6; replace rfu := rfu.dn qw6; have uw6 := uw5.trans qw6; clear qw6 uw5; go_wp2_with fail; refine (FW.out _ uw6).mono ?_; rintro e w7 ⟨pfw, cfw, rfl, rfw, qw7⟩; replace ru := ru.dn qw7; replace rc := rc.dn qw7; replace rw := rw.dn qw7; replace rfu := rfu.dn qw7; replace rfc := rfc.dn qw7; have uw7 := uw6.trans qw7; clear qw7 uw6; go_wp2_with fail; refine (FI.out _ uw7).mono ?_; rintro e w8 ⟨rfl, qw8⟩; replace ru := ru.dn qw8; replace rc := rc.dn qw8; replace rw := rw.dn qw8; replace rfu := rfu.dn qw8; replace rfc := rfc.dn qw8; replace rfw := rfw.dn qw8; have uw8 := uw7.trans qw8; clear qw8 uw7; go_wp2_with fail; refine (GU.out _ _ _ _ ru rfu).mono ?_; rintro e w9 ⟨rfl, qw9⟩; replace ru := ru.dn qw9; replace rc := rc.dn qw9; replace rw := rw.dn qw9; replace rfu := rfu.dn qw9; replace rfc := rfc.dn qw9; replace rfw := rfw.dn qw9; have uw9 := uw8.trans qw9; clear qw9 uw8; go_wp2_with fail; refine (GC.out _ _ _ _ rc rfc).mono ?_; rintro e w10 ⟨rfl, qw10⟩; replace ru := ru.dn qw10; replace rc := rc.dn qw10; replace rw := rw.dn qw10; replace rfu := rfu.dn qw10; replace rfc := rfc.dn qw10; replace rfw := rfw.dn qw10; have uw10 := uw9.trans qw10; clear qw10 uw9; go_wp2_with fail; refine (GW.out _ _ _ _ rw rfw).mono ?_; rintro e w11 ⟨rfl, qw11⟩; replace ru := ru.dn qw11; replace rc := rc.dn qw11; replace rw := rw.dn qw11; replace rfu := rfu.dn qw11; replace rfc := rfc.dn qw11; replace rfw := rfw.dn qw11; have uw11 := uw10.trans qw11; clear qw11 uw10; go_wp2_with fail; refine (HS.out _ uw11).mono ?_; rintro e w12 ⟨rfl, qw12⟩; replace ru := ru.dn qw12; replace rc := rc.dn qw12; replace rw := rw.dn qw12; replace rfu := rfu.dn qw12; replace rfc := rfc.dn qw12; replace rfw := rfw.dn qw12; have uw12 := uw11.trans qw12; clear qw12 uw11; go_wp2_with fail; refine (FS.out _ uw12).mono ?_; rintro e w13 ⟨rfl, qw13⟩; replace ru := ru.dn qw13; replace rc := rc.dn qw13; replace rw := rw.dn qw13; replace rfu := rfu.dn qw13; replace rfc := rfc.dn qw13; replace rfw := rfw.dn qw13; have uw13 := uw12.trans qw13; clear qw13 uw12; clear rfw; go_wp2_with fail; refine (XA.out _ uw13).mono ?_; rintro e w14 ⟨rfl, qw14⟩; replace ru := ru.dn qw14; replace rc := rc.dn qw14; replace rw := rw.dn qw14; replace rfu := rfu.dn qw14; replace rfc := rfc.dn qw14; have uw14 := uw13.trans qw14; clear qw14 uw13; go_wp2_with fail; refine (XB.out _ uw14).mono ?_; rintro e w15 ⟨rfl, qw15⟩; replace ru := ru.dn qw15; replace rc := rc.dn qw15; replace rw := rw.dn qw15; replace rfu := rfu.dn qw15; replace rfc := rfc.dn qw15; have uw15 := uw14.trans qw15; clear qw15 uw14; go_wp2_with fail; refine (XU.out _ _ ru).mono ?_; rintro e w16 ⟨rfl, qw16⟩; replace ru := ru.dn qw16; replace rc := rc.dn qw16; replace rw := rw.dn qw16; replace rfu := rfu.dn qw16; replace rfc := rfc.dn qw16; have uw16 := uw15.trans qw16; clear qw16 uw15; go_wp2_with fail; refine (XC.out _ _ rc).mono ?_; rintro e w17 ⟨rfl, qw17⟩; replace ru := ru.dn qw17; replace rc := rc.dn qw17; replace rw := rw.dn qw17; replace rfu := rfu.dn qw17; replace rfc := rfc.dn qw17; have uw17 := uw16.trans qw17; clear qw17 uw16; go_wp2_with fail; refine (XW.out _ _ rw).mono ?_; rintro e w18 ⟨rfl, qw18⟩; replace ru := ru.dn qw18; replace rc := rc.dn qw18; replace rw := rw.dn qw18; replace rfu := rfu.dn qw18; replace rfc := rfc.dn qw18; have uw18 := uw17.trans qw18; clear qw18 uw17; clear rc rw; go_wp2_with fail; refine (HV.out _ uw18).mono ?_; rintro e w19 ⟨pv, rfl, rv, qw19⟩; replace ru := ru.dn qw19; replace rfu := rfu.dn qw19; replace rfc := rfc.dn qw19; have uw19 := uw18.trans qw19; clear qw19 uw18; go_wp2_with fail; refine (HD.out _ uw19).mono ?_; rintro e w20 ⟨pd, rfl, rd, qw20⟩; replace ru := ru.dn qw20; replace rfu := rfu.dn qw20; replace rfc := rfc.dn qw20; replace rv := rv.dn qw20; have uw20 := uw19.trans qw20; clear qw20 uw19; go_wp2_with fail; refine (GU.out _ _ _ _ rv rfu).mono ?_; rintro e w21 ⟨rfl, qw21⟩; replace ru := ru.dn qw21; replace rfu := rfu.dn qw21; replace rfc := rfc.dn qw21; replace rv := rv.dn qw21; replace rd := rd.dn qw21; have uw21 := uw20.trans qw21; clear qw21 uw20; go_wp2_with fail; refine (GC.out _ _ _ _ rd rfc).mono ?_; rintro e w22 ⟨rfl, qw22⟩; replace ru := ru.dn qw22; replace rfu := rfu.dn qw22; replace rfc := rfc.dn qw22; replace rv := rv.dn qw22; replace rd := rd.dn qw22; have uw22 := uw21.trans qw22; clear qw22 uw21; go_wp2_with fail; refine (FM.out _ _ uw22 ru).mono ?_; rintro e w23 ⟨rfl, qw23⟩; replace ru := ru.dn qw23; replace rfu := rfu.dn qw23; replace rfc := rfc.dn qw23; replace rv := rv.dn qw23; replace rd := rd.dn qw23; have uw23 := uw22.trans qw23; clear qw23 uw22; go_wp2_with fail; refine (lives10 _ (hE.dn uw23)).mono ?_; rintro e w24 ⟨rfl, qw24⟩; replace ru := ru.dn qw24; replace rfu := rfu.dn qw24; replace rfc := rfc.dn qw24; replace rv := rv.dn qw24; replace rd := rd.dn qw24; have uw24 := uw23.trans qw24; clear qw24 uw23; go_wp2_with fail; go_ret; exact ⟨rfl, uw24⟩
 · go_enter Tryz.func6, Tryz.ntmps6
   go_wp2_with fail; refine (HU.out _ (Dn.refl _)).mono ?_; rintro e w1 ⟨pu, rfl, ru, qw1⟩; have uw1 := qw1; clear qw1; go_wp2_with fail; refine (HC.out _ uw1).mono ?_; rintro e w2 ⟨pc, rfl, rc, qw2⟩; replace ru := ru.dn qw2; have uw2 := uw1.trans qw2; clear qw2 uw1; go_wp2_with fail; refine (HW.out _ uw2).mono ?_; rintro e w3 ⟨pw, rfl, rw, qw3⟩; replace ru := ru.dn qw3; replace rc := rc.dn qw3; have uw3 := uw2.trans qw3; clear qw3 uw2; go_wp2_with fail; refine (HI.out _ uw3).mono ?_; rintro e w4 ⟨rfl, qw4⟩; replace ru := ru.dn qw4; replace rc := rc.dn qw4; replace rw := rw.dn qw4; have uw4 := uw3.trans qw4; clear qw4 uw3; go_wp2_with fail; refine (FU.out _ uw4).mono ?_; rintro e w5 ⟨pfu, cfu, rfl, rfu, qw5⟩; replace ru := ru.dn qw5; replace rc := rc.dn qw5; replace rw := rw.dn qw5; have uw5 := uw4.trans qw5; clear qw5 uw4; go_wp2_with fail; refine (FC.out _ uw5).mono ?_; rintro e w6 ⟨pfc, cfc, rfl, rfc, qw6⟩; replace ru := ru.dn qw6; replace rc := rc.dn qw6; replace rw := rw.dn qw6; replace rfu := rfu.dn qw6; have uw6 := uw5.trans qw6; clear qw6 uw5; go_wp2_with fail; refine (FW.out _ uw6).mono ?_; rintro e w7 ⟨pfw, cfw, rfl, rfw, qw7⟩; replace ru := ru.dn qw7; replace rc := rc.dn qw7; replace rw := rw.dn qw7; replace rfu := rfu.dn qw7; replace rfc := rfc.dn qw7; have uw7 := uw6.trans qw7; clear qw7 uw6; go_wp2_with fail; refine (FI.out _ uw7).mono ?_; rintro e w8 ⟨rfl, qw8⟩; replace ru := ru.dn qw8; replace rc := rc.dn qw8; replace rw := rw.dn qw8; replace rfu := rfu.dn qw8; replace rfc := rfc.dn qw8; replace rfw := rfw.dn qw8; have uw8 := uw7.trans qw8; clear qw8 uw7; go_wp2_with fail; refine (GU.out _ _ _ _ ru rfu).mono ?_; rintro e w9 ⟨rfl, qw9⟩; replace ru := ru.dn qw9; replace rc := rc.dn qw9; replace rw := rw.dn qw9; replace rfu := rfu.dn qw9; replace rfc := rfc.dn qw9; replace rfw := rfw.dn qw9; have uw9 := uw8.trans qw9; clear qw9 uw8; go_wp2_with fail; refine (GC.out _ _ _ _ rc rfc).mono ?_; rintro e w10 ⟨rfl, qw10⟩; replace ru := ru.dn qw10; replace rc := rc.dn qw10; replace rw := rw.dn qw10; replace rfu := rfu.dn qw10; replace rfc := rfc.dn qw10; replace rfw := rfw.dn qw10; have uw10 := uw9.trans qw10; clear qw10 uw9; go_wp2_with fail; refine (GW.out _ _ _ _ rw rfw).mono ?_; rintro e w11 ⟨rfl, qw11⟩; replace ru := ru.dn qw11; replace rc := rc.dn qw11; replace rw := rw.dn qw11; replace rfu := rfu.dn qw11; replace rfc := rfc.dn qw11; replace rfw := rfw.dn qw11; have uw11 := uw10.trans qw11; clear qw11 uw10; go_wp2_with fail; refine (HS.out _ uw11).mono ?_; rintro e w12 ⟨rfl, qw12⟩; replace ru := ru.dn qw12; replace rc := rc.dn qw12; replace rw := rw.dn qw12; replace rfu := rfu.dn qw12; replace rfc := rfc.dn qw12; replace rfw := rfw.dn qw12; have uw12 := uw11.trans qw12; clear qw12 uw11; go_wp2_with fail; refine (FS.out _ uw12).mono ?_; rintro e w13 ⟨rfl, qw13⟩; replace ru := ru.dn qw13; replace rc := rc.dn qw13; replace rw := rw.dn qw13; replace rfu := rfu.dn qw13; replace rfc := rfc.dn qw13; replace rfw := rfw.dn qw13; have uw13 := uw12.trans qw13; clear qw13 uw12; clear rfw; go_wp2_with fail; refine (XA.out _ uw13).mono ?_; rintro e w14 ⟨rfl, qw14⟩; replace ru := ru.dn qw14; replace rc := rc.dn qw14; replace rw := rw.dn qw14; replace rfu := rfu.dn qw14; replace rfc := rfc.dn qw14; have uw14 := uw13.trans qw14; clear qw14 uw13; go_wp2_with fail; refine (XB.out _ uw14).mono ?_; rintro e w15 ⟨rfl, qw15⟩; replace ru := ru.dn qw15; replace rc := rc.dn qw15; replace rw := rw.dn qw15; replace rfu := rfu.dn qw15; replace rfc := rfc.dn qw15; have uw15 := uw14.trans qw15; clear qw15 uw14; go_wp2_with fail; refine (XU.out _ _ ru).mono ?_; rintro e w16 ⟨rfl, qw16⟩; replace ru := ru.dn qw16; replace rc := rc.dn qw16; replace rw := rw.dn qw16; replace rfu := rfu.dn qw16; replace rfc := rfc.dn qw16; have uw16 := uw15.trans qw16; clear qw16 uw15; go_wp2_with fail; refine (XC.out _ _ rc).mono ?_; rintro e w17 ⟨rfl, qw17⟩; replace ru := ru.dn qw17; replace rc := rc.dn qw17; replace rw := rw.dn qw17; replace rfu := rfu.dn qw17; replace rfc := rfc.dn qw17; have uw17 := uw16.trans qw17; clear qw17 uw16; go_wp2_with fail; refine (XW.out _ _ rw).mono ?_; rintro e w18 ⟨rfl, qw18⟩; replace ru := ru.dn qw18; replace rc := rc.dn qw18; replace rw := rw.dn qw18; replace rfu := rfu.dn qw18; replace rfc := rfc.dn qw18; have uw18 := uw17.trans qw18; clear qw18 uw17; clear rc rw; go_wp2_with fail; refine (HV.out _ uw18).mono ?_; rintro e w19 ⟨pv, rfl, rv, qw19⟩; replace ru := ru.dn qw19; replace rfu := rfu.dn qw19; replace rfc := rfc.dn qw19; have uw19 := uw18.trans qw19; clear qw19 uw18; go_wp2_with fail; refine (HD.out _ uw19).mono ?_; rintro e w20 ⟨pd, rfl, rd, qw20⟩; replace ru := ru.dn qw20; replace rfu := rfu.dn qw20; replace rfc := rfc.dn qw20; replace rv := rv.dn qw20; have uw20 := uw19.trans qw20; clear qw20 uw19; go_wp2_with fail; refine (GU.out _ _ _ _ rv rfu).mono ?_; rintro e w21 ⟨rfl, qw21⟩; replace ru := ru.dn qw21; replace rfu := rfu.dn qw21; replace rfc := rfc.dn qw21; replace rv := rv.dn qw21; replace rd := rd.dn qw21; have uw21 := uw20.trans qw21; clear qw21 uw20; go_wp2_with fail; refine (GC.out _ _ _ _ rd rfc).mono ?_; rintro e w22 ⟨rfl, qw22⟩; replace ru := ru.dn qw22; replace rfu := rfu.dn qw22; replace rfc := rfc.dn qw22; replace rv := rv.dn qw22; replace rd := rd.dn qw22; have uw22 := uw21.trans qw22; clear qw22 uw21; go_wp2_with fail; refine (FM.out _ _ uw22 ru).mono ?_; rintro e w23 ⟨rfl, qw23⟩; replace ru := ru.dn qw23; replace rfu := rfu.dn qw23; replace rfc := rfc.dn qw23; replace rv := rv.dn qw23; replace rd := rd.dn qw23; have uw23 := uw22.trans qw23; clear qw23 uw22; go_wp2_with fail; refine (lives10 _ (hE.dn uw23)).mono ?_; rintro e w24 ⟨rfl, qw24⟩; replace ru := ru.dn qw24; replace rfu := rfu.dn qw24; replace rfc := rfc.dn qw24; replace rv := rv.dn qw24; replace rd := rd.dn qw24; have uw24 := uw23.trans qw24; clear qw24 uw23; go_wp2_with fail; go_ret; exact ⟨rfl, uw24⟩
 · go_enter Tryz.func6, Tryz.ntmps6
   go_wp2_with fail; refine (HU.out _ (Dn.refl _)).mono ?_; rintro e w1 ⟨pu, rfl, ru, qw1⟩; have uw1 := qw1; clear qw1; go_wp2_with fail; refine (HC.out _ uw1).mono ?_; rintro e w2 ⟨pc, rfl, rc, qw2⟩; replace ru := ru.dn qw2; have uw2 := uw1.trans qw2; clear qw2 uw1; go_wp2_with fail; refine (HW.out _ uw2).mono ?_; rintro e w3 ⟨pw, rfl, rw, qw3⟩; replace ru := ru.dn qw3; replace rc := rc.dn qw3; have uw3 := uw2.trans qw3; clear qw3 uw2; go_wp2_with fail; refine (HI.out _ uw3).mono ?_; rintro e w4 ⟨rfl, qw4⟩; replace ru := ru.dn qw4; replace rc := rc.dn qw4; replace rw := rw.dn qw4; have uw4 := uw3.trans qw4; clear qw4 uw3; go_wp2_with fail; refine (FU.out _ uw4).mono ?_; rintro e w5 ⟨pfu, cfu, rfl, rfu, qw5⟩; replace ru := ru.dn qw5; replace rc := rc.dn qw5; replace rw := rw.dn qw5; have uw5 := uw4.trans qw5; clear qw5 uw4; go_wp2_with fail; refine (FC.out _ uw5).mono ?_; rintro e w6 ⟨pfc, cfc, rfl, rfc, qw6⟩; replace ru := ru.dn qw6; replace rc := rc.dn qw6; replace rw := rw.dn qw6; replace rfu := rfu.dn qw6; have uw6 := uw5.trans qw6; clear qw6 uw5; go_wp2_with fail; refine (FW.out _ uw6).mono ?_; rintro e w7 ⟨pfw, cfw, rfl, rfw, qw7⟩; replace ru := ru.dn qw7; replace rc := rc.dn qw7; replace rw := rw.dn qw7; replace rfu := rfu.dn qw7; replace rfc := rfc.dn qw7; have uw7 := uw6.trans qw7; clear qw7 uw6; go_wp2_with fail; refine (FI.out _ uw7).mono ?_; rintro e w8 ⟨rfl, qw8⟩; replace ru := ru.dn qw8; replace rc := rc.dn qw8; replace rw := rw.dn qw8; replace rfu := rfu.dn qw8; replace rfc := rfc.dn qw8; replace rfw := rfw.dn qw8; have uw8 := uw7.trans qw8; clear qw8 uw7; go_wp2_with fail; refine (GU.out _ _ _ _ ru rfu).mono ?_; rintro e w9 ⟨rfl, qw9⟩; replace ru := ru.dn qw9; replace rc := rc.dn qw9; replace rw := rw.dn qw9; replace rfu := rfu.dn qw9; replace rfc := rfc.dn qw9; replace rfw := rfw.dn qw9; have uw9 := uw8.trans qw9; clear qw9 uw8; go_wp2_with fail; refine (GC.out _ _ _ _ rc rfc).mono ?_; rintro e w10 ⟨rfl, qw10⟩; replace ru := ru.dn qw10; replace rc := rc.dn qw10; replace rw := rw.dn qw10; replace rfu := rfu.dn qw10; replace rfc := rfc.dn qw10; replace rfw := rfw.dn qw10; have uw10 := uw9.trans qw10; clear qw10 uw9; go_wp2_with fail; refine (GW.out _ _ _ _ rw rfw).mono ?_; rintro e w11 ⟨rfl, qw11⟩; replace ru := ru.dn qw11; replace rc := rc.dn qw11; replace rw := rw.dn qw11; replace rfu := rfu.dn qw11; replace rfc := rfc.dn qw11; replace rfw := rfw.dn qw11; have uw11 := uw10.trans qw11; clear qw11 uw10; go_wp2_with fail; refine (HS.out _ uw11).mono ?_; rintro e w12 ⟨rfl, qw12⟩; replace ru := ru.dn qw12; replace rc := rc.dn qw12; replace rw := rw.dn qw12; replace rfu := rfu.dn qw12; replace rfc := rfc.dn qw12; replace rfw := rfw.dn qw12; have uw12 := uw11.trans qw12; clear qw12 uw11; go_wp2_with fail; refine (FS.out _ uw12).mono ?_; rintro e w13 ⟨rfl, qw13⟩; replace ru := ru.dn qw13; replace rc := rc.dn qw13; replace rw := rw.dn qw13; replace rfu := rfu.dn qw13; replace rfc := rfc.dn qw13; replace rfw := rfw.dn qw13; have uw13 := uw12.trans qw13; clear qw13 uw12; clear rfw; go_wp2_with fail; refine (XA.out _ uw13).mono ?_; rintro e w14 ⟨rfl, qw14⟩; replace ru := ru.dn qw14; replace rc := rc.dn qw14; replace rw := rw.dn qw14; replace rfu := rfu.dn qw14; replace rfc := rfc.dn qw14; have uw14 := uw13.trans qw14; clear qw14 uw13; go_wp2_with fail; refine (XB.out _ uw14).mono ?_; rintro e w15 ⟨rfl, qw15⟩; replace ru := ru.dn qw15; replace rc := rc.dn qw15; replace rw := rw.dn qw15; replace rfu := rfu.dn qw15; replace rfc := rfc.dn qw15; have uw15 := uw14.trans qw15; clear qw15 uw14; go_wp2_with fail; refine (XU.out _ _ ru).mono ?_; rintro e w16 ⟨rfl, qw16⟩; replace ru := ru.dn qw16; replace rc := rc.dn qw16; replace rw := rw.dn qw16; replace rfu := rfu.dn qw16; replace rfc := rfc.dn qw16; have uw16 := uw15.trans qw16; clear qw16 uw15; go_wp2_with fail; refine (XC.out _ _ rc).mono ?_; rintro e w17 ⟨rfl, qw17⟩; replace ru := ru.dn qw17; replace rc := rc.dn qw17; replace rw := rw.dn qw17; replace rfu := rfu.dn qw17; replace rfc := rfc.dn qw17; have uw17 := uw16.trans qw17; clear qw17 uw16; go_wp2_with fail; refine (XW.out _ _ rw).mono ?_; rintro e w18 ⟨rfl, qw18⟩; replace ru := ru.dn qw18; replace rc := rc.dn qw18; replace rw := rw.dn qw18; replace rfu := rfu.dn qw18; replace rfc := rfc.dn qw18; have uw18 := uw17.trans qw18; clear qw18 uw17; clear rc rw; go_wp2_with fail; refine (HV.out _ uw18).mono ?_; rintro e w19 ⟨pv, rfl, rv, qw19⟩; replace ru := ru.dn qw19; replace rfu := rfu.dn qw19; replace rfc := rfc.dn qw19; have uw19 := uw18.trans qw19; clear qw19 uw18; go_wp2_with fail; refine (HD.out _ uw19).mono ?_; rintro e w20 ⟨pd, rfl, rd, qw20⟩; replace ru := ru.dn qw20; replace rfu := rfu.dn qw20; replace rfc := rfc.dn qw20; replace rv := rv.dn qw20; have uw20 := uw19.trans qw20; clear qw20 uw19; go_wp2_with fail; refine (GU.out _ _ _ _ rv rfu).mono ?_; rintro e w21 ⟨rfl, qw21⟩; replace ru := ru.dn qw21; replace rfu := rfu.dn qw21; replace rfc := rfc.dn qw21; replace rv := rv.dn qw21; replace rd := rd.dn qw21; have uw21 := uw20.trans qw21; clear qw21 uw20; go_wp2_with fail; refine (GC.out _ _ _ _ rd rfc).mono ?_; rintro e w22 ⟨rfl, qw22⟩; replace ru := ru.dn qw22; replace rfu := rfu.dn qw22; replace rfc := rfc.dn qw22; replace rv := rv.dn qw22; replace rd := rd.dn qw22; have uw22 := uw21.trans qw22; clear qw22 uw21; go_wp2_with fail; refine (FM.out _ _ uw22 ru).mono ?_; rintro e w23 ⟨rfl, qw23⟩; replace ru := ru.dn qw23; replace rfu := rfu.dn qw23; replace rfc := rfc.dn qw23; replace rv := rv.dn qw23; replace rd := rd.dn qw23; have uw23 := uw22.trans qw23; clear qw23 uw22; go_wp2_with fail; refine (lives10 _ (hE.dn uw23)).mono ?_; rintro e w24 ⟨rfl, qw24⟩; replace ru := ru.dn qw24; replace rfu := rfu.dn qw24; replace rfc := rfc.dn qw24; replace rv := rv.dn qw24; replace rd := rd.dn qw24; have uw24 := uw23.trans qw24; clear qw24 uw23; go_wp2_with fail; go_ret; exact ⟨rfl, uw24⟩
theorem runsetsPairs_true (p : Option Addr) (ca : Nat) (a : List Rq) (q : Option Addr) (cb : Nat) (b : List Rq) (day : Int) (w : World) (hA : Rl w p ca a) (iA : I6 a) (hB : Rl w q cb b) (iB : I6 b) (hd : I64 day) (hE : EnvR w) :
   Calls Tryz.prog 6 #[.slice p a.length ca, .slice q b.length cb, .int .i64 day] w fun ro w' => ro = .returned (.bool true) /\ Dn w w' := by
 have la := Nat.le_trans hA.le hA.mx
 have lb := Nat.le_trans hB.le hB.mx
 by_cases h1 : 20 < a.length
 · exact pairs_a p a.length ca q b.length cb day w la lb h1 hE
 by_cases h2 : 20 < b.length
 · exact pairs_b p a.length ca q b.length cb day w la lb (by omega) h2 hE
 obtain ⟨c, hc⟩ : ∃ c, c = bothL a b := ⟨_, rfl⟩
 have s1 := fun h : bothL a b = 0 => sep_both iA iB h
 have eU := fin_same (c := bothL a b) (M := joinedL (srt (a ++ b))) (N := b.foldl putL a) (fun h => union_same (s1 h).1 (s1 h).2)
 have eC := fin_same (c := bothL a b) (M := joinedL (cmn a b)) (N := cmL a b) (fun h => common_eq (s1 h).1 (s1 h).2)
 have eW := fin_same (c := bothL a b) (M := joinedL (cmn a (cplL b))) (N := woL a b) (fun h => without_eq (s1 h).1 (s1 h).2)
 have lU : bothL a b = 0 -> (b.foldl putL a).length <= 100 := fun h => by have := un_len a b; omega
 have lC : bothL a b = 0 -> (cmL a b).length <= 100 := fun h => by have := cm_len (s1 h).1 (s1 h).2; omega
 have lW : bothL a b = 0 -> (woL a b).length <= 100 := fun h => by have := wo_len (s1 h).1 (s1 h).2; omega
 have fin_c : ∀ M : List Rq, (bothL a b = 0 -> M.length <= 100) -> c = fin3 (bothL a b) M := fun M hM => by
   by_cases h0 : bothL a b = 0
   · rw [hc, fin_zero h0 (by have := hM h0; omega), h0]
   · rw [hc, fin3_bad h0]
 have hbd : bothL a b = 0 -> ∀ k, (woL a (b.take k)).length <= 300000 := fun h k => by have := wo_bound (s1 h).1 (s1 h).2 k; omega
 obtain ⟨RU, hU⟩ : ∃ R, R = res3 (bothL a b) (b.foldl putL a) := ⟨_, rfl⟩
 obtain ⟨RC, hC⟩ : ∃ R, R = res3 (bothL a b) (cmL a b) := ⟨_, rfl⟩
 obtain ⟨RW, hW⟩ : ∃ R, R = res3 (bothL a b) (woL a b) := ⟨_, rfl⟩
 obtain ⟨m, hm⟩ : ∃ m, m = if c = 0 then decide (WtP a b) else false := ⟨_, rfl⟩
 have hm2 : m = if c = 0 then wtn a b else false := by
   rw [hm]; split
   · rename_i h0; rw [within_same (s1 (hc ▸ h0)).1 (s1 (hc ▸ h0)).2]
   · rfl
 have HU := Lib.hid (fun W (k : Dn w W) => rsUnionS p ca a q cb b c RU W (by rw [eU.1]; exact fin_c _ lU) (by rw [hU, eU.2]) hA.nl hB.nl (by omega) iA (hA.dn k).row (by omega) iB (hB.dn k).row)
 have HC := Lib.hid (fun W (k : Dn w W) => rsCommonS p ca a q cb b c RC W (by rw [eC.1]; exact fin_c _ lC) (by rw [hC, eC.2]) hA.le hA.mx hB.le hB.mx (by omega) iA (hA.dn k).row (by omega) iB (hB.dn k).row)
 have HW := Lib.hid (fun W (k : Dn w W) => rsWithoutS p ca a q cb b c RW W (by rw [eW.1]; exact fin_c _ lW) (by rw [hW, eW.2]) hA.le hA.mx hB.le hB.mx (by omega) iA (hA.dn k).row (by omega) iB (hB.dn k).row)
 have HI := Lib.hid (fun W (k : Dn w W) => rsWithinS p ca a q cb b c m W hc hm2 hB.le hB.mx (by omega) iA (hA.dn k).row (by omega) iB (hB.dn k).row)
 have FU := Lib.hid (fun W (k : Dn w W) => rfUnion p ca a q cb b c RU W (fin_c _ lU) hU (by omega) iA (hA.dn k).row (by omega) iB (hB.dn k).row)
 have FC := Lib.hid (fun W (k : Dn w W) => rfCommonS p ca a q cb b c RC W (fin_c _ lC) hC (by omega) (by omega) (by omega) iA (hA.dn k).row (by omega) iB (hB.dn k).row)
 have FW := Lib.hid (fun W (k : Dn w W) => rfWithoutS p ca a q cb b c RW W (fin_c _ lW) hW hbd (by omega) iA (hA.dn k).row (by omega) iB (hB.dn k).row)
 have FI := Lib.hid (fun W (k : Dn w W) => rfWithinS p ca a q cb b c m W hc hm (by omega) iA (hA.dn k).row (by omega) iB (hB.dn k).row)
 have HS := Lib.hid (fun W (k : Dn w W) => rsSame p ca a q cb b (decide (a = b)) W rfl (by omega) (by omega) (hA.dn k).row (hB.dn k).row)
 have FS := Lib.hid (fun W (k : Dn w W) => rfSame p ca a q cb b (decide (a = b)) W rfl (by omega) (by omega) (hA.dn k).row (hB.dn k).row)
 have gv : ∀ R M : List Rq, R = res3 (bothL a b) M -> (bothL a b = 0 -> M.length <= 100) -> GvT R R.length c R c /\ R.length <= 100000 := fun R M hR hM => by
   by_cases h0 : bothL a b = 0
   · have : R = M := by rw [hR]; exact res_ok (fin_zero h0 (by have := hM h0; omega))
     exact ⟨Or.inl ⟨hc.trans h0, rfl, rfl, hc.trans h0⟩, by rw [this]; have := hM h0; omega⟩
   · have : R = [] := by rw [hR, res3_bad h0]
     exact ⟨Or.inr ⟨by rw [hc]; exact h0, this, rfl⟩, by rw [this]; simp⟩
 have GU := Lib.hid (fun W p1 p2 c2 (h : Row W p1 RU) (k : Row W p2 RU) => gv10 p1 RU.length RU c p2 c2 RU c W (gv RU _ hU lU).1 (gv RU _ hU lU).2 h (fun _ => k))
 have GC := Lib.hid (fun W p1 p2 c2 (h : Row W p1 RC) (k : Row W p2 RC) => gv10 p1 RC.length RC c p2 c2 RC c W (gv RC _ hC lC).1 (gv RC _ hC lC).2 h (fun _ => k))
 have GW := Lib.hid (fun W p1 p2 c2 (h : Row W p1 RW) (k : Row W p2 RW) => gv10 p1 RW.length RW c p2 c2 RW c W (gv RW _ hW lW).1 (gv RW _ hW lW).2 h (fun _ => k))
 by_cases h0 : c = 0
 rotate_left
 · exact pairs_bad p a.length ca q b.length cb day c RU RC RW m _ w (by omega) (by omega) HU HC HW HI FU FC FW FI HS FS GU GC GW h0 hE
 have hb0 : bothL a b = 0 := hc.symm.trans h0
 obtain ⟨sa, sb⟩ := s1 hb0
 have rU : RU = b.foldl putL a := by rw [hU]; exact res_ok (fin_zero hb0 (by have := lU hb0; omega))
 have rC : RC = cmL a b := by rw [hC]; exact res_ok (fin_zero hb0 (by have := lC hb0; omega))
 have rW : RW = woL a b := by rw [hW]; exact res_ok (fin_zero hb0 (by have := lW hb0; omega))
 have kU := lU hb0
 have kC := lC hb0
 have kW := lW hb0
 have hmU : m = decide (RU = b) := by rw [hm, if_pos h0, within_union sa sb, rU]
 have hb1 : bothL b a = 0 := by unfold bothL; rw [if_pos (both_zero hb0).2]; exact (both_zero hb0).1
 subst h0
 refine pairs_ok p a.length ca q b.length cb day RU RC RW m _ w (decide (HasL a day)) (decide (HasL b day)) (by omega) (by omega) HU HC HW HI FU FC FW FI HS FS GU GC GW ?_ ?_ ?_ ?_ ?_ ?_ ?_ ?_ hE
 · exact Lib.hid (fun W k => rsHasS p ca a day _ W hd rfl (by omega) iA (hA.dn k).row)
 · exact Lib.hid (fun W k => rsHasS q cb b day _ W hd rfl (by omega) iB (hB.dn k).row)
 · exact Lib.hid (fun W p1 h => rsHasS p1 RU.length RU day _ W hd (by rw [rU]; exact (has_union sa sb day).symm) (by rw [rU]; omega) (by rw [rU]; exact i6_sep (sep_union sa sb)) h)
 · exact Lib.hid (fun W p1 h => rsHasS p1 RC.length RC day _ W hd (by rw [rC]; exact (has_common sa sb day).symm) (by rw [rC]; omega) (by rw [rC]; exact i6_sep (sep_common sa sb)) h)
 · exact Lib.hid (fun W p1 h => rsHasS p1 RW.length RW day _ W hd (by rw [rW]; exact (has_without sa sb hd).symm) (by rw [rW]; omega) (by rw [rW]; exact i6_sep (sep_without sa sb)) h)
 · exact Lib.hid (fun W k => rsUnionS q cb b p ca a 0 RU W (by rw [hb1, union_same sb sa, <- union_comm sa sb]; exact (fin_zero rfl (by omega)).symm) (by rw [hb1, union_same sb sa, <- union_comm sa sb, rU]; exact (res_ok (fin_zero rfl (by omega))).symm) hB.nl hA.nl (by omega) iB (hB.dn k).row (by omega) iA (hA.dn k).row)
 · exact Lib.hid (fun W k => rsCommonS q cb b p ca a 0 RC W (by rw [hb1, common_eq sb sa, <- common_comm sa sb]; exact (fin_zero rfl (by omega)).symm) (by rw [hb1, common_eq sb sa, <- common_comm sa sb, rC]; exact (res_ok (fin_zero rfl (by omega))).symm) hB.le hB.mx hA.le hA.mx (by omega) iB (hB.dn k).row (by omega) iA (hA.dn k).row)
 · exact Lib.hid (fun W p1 k h => rfSame p1 RU.length RU q cb b m W hmU (by rw [rU]; omega) (by omega) h (hB.dn k).row)
end Go.Proofs.YtoghoddjkdoohaaGreatDoor
