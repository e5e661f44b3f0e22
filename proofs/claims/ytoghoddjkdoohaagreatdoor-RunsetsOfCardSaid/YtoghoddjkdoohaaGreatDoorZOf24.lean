/- Walks and laws that the claim's theorem leans on: part 24. -/
import Derived.Test.YtoghoddjkdoohaaGreatDoorZOf1
import Derived.Test.YtoghoddjkdoohaaGreatDoorZOf23
namespace Go.Proofs.YtoghoddjkdoohaaGreatDoor
set_option maxHeartbeats 4000000
set_option maxRecDepth 100000
open Go.RowKit
set_option linter.unusedVariables false
set_option linter.unusedSimpArgs false
def LsW (w : World) (u : Value) (R : List Rq) : Prop := ∃ (ad : Addr) (cap : Nat), u = .slice (some ad) R.length cap ∧ ∀ j v, (R.flatMap qc)[j]? = some v → w.cell? (ad.add j) = some v
theorem lsW_cs {w : World} {g q cap : Nat} {R : List Rq} (h : ∀ k x, R[k]? = some x → El w g q k x) : LsW w (.slice (some ⟨g, q, none⟩) R.length cap) R := by
 refine ⟨_, _, rfl, fun j u hj => ?_⟩
 have hj2 : j < R.length * 4 := by
   obtain ⟨h1, _⟩ := List.getElem?_eq_some_iff.1 hj
   rw [qc_len] at h1; exact h1
 obtain ⟨i, t, ht, rfl⟩ : ∃ i t, t < 4 ∧ j = i * 4 + t := ⟨j / 4, j % 4, by omega, by omega⟩
 obtain ⟨r, hr⟩ : ∃ r, R[i]? = some r := ⟨R[i]'(by omega), by simp [show i < R.length by omega]⟩
 rw [qc_get R i t r hr ht] at hj
 obtain ⟨e0, e1, e2, e3⟩ := h i r hr
 have hadd : (⟨g, q, none⟩ : Addr).add (i * 4 + t) = ⟨g, q + i * 4 + t, none⟩ := by unfold Addr.add; split <;> simp_all <;> omega
 rw [hadd]
 match t, hj with
 | 0, hj => simp [qc] at hj; subst hj; exact e0
 | 1, hj => simp [qc] at hj; subst hj; exact e1
 | 2, hj => simp [qc] at hj; subst hj; exact e2
 | 3, hj => simp [qc] at hj; subst hj; exact e3
 | n + 4, hj => simp [qc] at hj
theorem wp_cat {o : Oper} {a : Act} {K : Act → World → Prop} {Q : Exit → Act → World → Prop} (s x : Operand)
   (ho : o.op = .call { callee := .builtin .append, args := #[s, x], argTypes := #[22, 22] }) (w : World) (base : Nat) (v : Value) (L : List Rq) (u : Value) (R : List Rq) (hs : a.eval s = v) (hown : OwnQ w base v L)
   (hx : a.eval x = u) (hu : LsW w u R) (hl : L.length + R.length ≤ 1000000) (hb : base ≤ w.heap.size)
   (h : ∀ v' w', OwnQ w' base v' (L ++ R) → (∀ w0, Dn w0 w → w0.heap.size ≤ base → Dn w0 w') → K (a.put o.dst v') w') : Oper.wp Tryz.prog o a w K Q := by
 obtain ⟨i0, hi, hz0, hz1, hz2⟩ := info_parts infoRun
 obtain ⟨ad, cap, rfl, hc⟩ := hu
 refine wp_append_own w s x 22 ho base 45 i0 _ 4 32 Tryz.underlying22 hi hz0 hz1 hz2 rfl (by decide) v _ _ hs hown.own ad R.length cap (R.flatMap qc) hx (qc_len R) hc ?_ ?_ ?_ hb ?_
 · intro u hu
   simp only [List.mem_flatMap] at hu
   obtain ⟨r, _, hu⟩ := hu
   simp [qc] at hu; rcases hu with rfl | rfl | rfl | rfl <;> rfl
 · unfold maxLen; omega
 · omega
 · intro v' w' k1 k2 _
   refine h v' w' ⟨?_⟩ ?_
   · simpa using k1
   · intro w0 hd e
     exact ⟨hd.below.trans ⟨k2.os, k2.tape, k2.output, k2.size, fun i hi => k2.block i (Nat.lt_of_lt_of_le hi hd.size) (fun e2 => by have := (hown.own.lt i e2.symm).1; omega)⟩⟩
theorem lsW_of {w : World} {g q cap n : Nat} {R : List Rq} (hn : R.length = n) (h : ∀ k x, R[k]? = some x → El w g q k x) : LsW w (.slice (some ⟨g, q, none⟩) n cap) R := by subst hn; exact lsW_cs h
theorem lsW_drop {w : World} {g o cap n m : Nat} {L : List Rq} (h : Cs w g o L) (hn : L.length = n) : LsW w (.slice (some ⟨g, o + m * 4, none⟩) (n - m) cap) (L.drop m) :=
 lsW_of (by rw [List.length_drop, hn]) (fun k x hx => by
  rw [List.getElem?_drop] at hx
  have he := h.el (m + k) x hx
  unfold El at he ⊢
  have e : o + (m + k) * 4 = o + m * 4 + k * 4 := by omega
  rw [e] at he
  exact he)
theorem lsW_take {w : World} {g o cap n m : Nat} {L : List Rq} (h : Cs w g o L) (hn : L.length = n) (hm : m ≤ n) : LsW w (.slice (some ⟨g, o, none⟩) m cap) (L.take m) :=
 lsW_of (by rw [List.length_take, hn]; omega) (fun k x hx => by
  rw [List.getElem?_take] at hx
  split at hx
  · exact h.el k x hx
  · cases hx)
def LsV (w : World) (u : Value) (R : List Rq) : Prop := LsW w u R ∨ (u = .slice none 0 0 ∧ R = [])
theorem lsV_nil (w : World) (p : Option Addr) (ca : Nat) (h : p = none → ca = 0) : LsV w (.slice p 0 ca) [] := by
 cases p with
 | none => rw [h rfl]; exact .inr ⟨rfl, rfl⟩
 | some ad => exact .inl ⟨ad, ca, rfl, fun j v hj => by simp at hj⟩
theorem wp_catV {o : Oper} {a : Act} {K : Act → World → Prop} {Q : Exit → Act → World → Prop} (s x : Operand)
   (ho : o.op = .call { callee := .builtin .append, args := #[s, x], argTypes := #[22, 22] }) (w : World) (base : Nat) (v : Value) (L : List Rq) (u : Value) (R : List Rq) (hs : a.eval s = v) (hown : OwnQ w base v L)
   (hx : a.eval x = u) (hu : LsV w u R) (hl : L.length + R.length ≤ 1000000) (hb : base ≤ w.heap.size)
   (h : ∀ v' w', OwnQ w' base v' (L ++ R) → (∀ w0, Dn w0 w → w0.heap.size ≤ base → Dn w0 w') → K (a.put o.dst v') w') : Oper.wp Tryz.prog o a w K Q := by
 rcases hu with hu | ⟨rfl, rfl⟩
 · exact wp_cat s x ho w base v L u R hs hown hx hu hl hb h
 · obtain ⟨i0, hi, hz0, hz1, hz2⟩ := info_parts infoRun
   have hrun := run_append_owned_none (P := Tryz.prog) (w := w) base 22 o.type 45 i0 4 Tryz.underlying22 hi v _ _ hown.own
   unfold Oper.wp
   simp [execOp, ho, resolve, invoke, builtin, hs, hx, hrun, Result.andThen]
   exact h v w (by simpa using hown) (fun w0 hd _ => hd)
def TuR (w : World) (x : Value) (R : List Rq) : Prop := ∃ p, x = .tuple #[.slice p R.length R.length, .int .i64 0] ∧ Row w p R
def SlE (w : World) (x : Value) (R : List Rq) : Prop := ∃ p, x = .slice p R.length R.length ∧ Row w p R
theorem TuR.dn {w w' : World} {x : Value} {R : List Rq} (h : TuR w x R) (q : Dn w w') : TuR w' x R := by obtain ⟨p, e, r⟩ := h; exact ⟨p, e, r.dn q⟩
theorem SlE.dn {w w' : World} {x : Value} {R : List Rq} (h : SlE w x R) (q : Dn w w') : SlE w' x R := by obtain ⟨p, e, r⟩ := h; exact ⟨p, e, r.dn q⟩
theorem step_catW {ops : Array Oper} {o : Oper} {a : Act} {K : Act → World → Prop} {Q : Exit → Act → World → Prop} {E : Prop} (hgd : o.guard = none) (s x : Operand)
  (ho : o.op = .call { callee := .builtin .append, args := #[s, x], argTypes := #[22, 22] }) (w : World) (base : Nat) (v : Value) (L : List Rq) (u : Value) (R : List Rq) (hs : a.eval s = v) (hown : OwnQ w base v L)
  (hx : a.eval x = u) (hu : LsV w u R) (hl : L.length + R.length ≤ 1000000) (hb : base ≤ w.heap.size)
  (h : ∀ v' w', OwnQ w' base v' (L ++ R) → (∀ w0, Dn w0 w → w0.heap.size ≤ base → Dn w0 w') → K (a.put o.dst v') w') :
  if Region.wanted o (yielded ops a.tmps) = true then Oper.wp Tryz.prog o a w K Q else E := by
 have hw : Region.wanted o (yielded ops a.tmps) = true := by simp [Region.wanted, hgd]
 rw [if_pos hw]
 exact wp_catV s x ho w base v L u R hs hown hx hu hl hb h
theorem OwnQ.slR {w : World} {base : Nat} {v : Value} {L : List Rq} (h : OwnQ w base v L) : SlR w v L := h.rl
theorem of_a (p : Option Addr) (n ca : Nat) (kk day : Int) (w : World) (hl1 : n ≤ 9223372036854775807) (h1 : 20 < n) (hE : EnvR w) :
  Calls Tryz.prog 3 #[.slice p n ca, .int .u8 kk, .int .i64 day] w fun ro w' => ro = .returned (.bool true) ∧ Dn w w' := by
 have e1 : decide ((n : Int) > 20) = true := by simp; omega
 have e2 : (20 : Int) < n := by omega
 clear h1
 go_enter Tryz.func3, Tryz.ntmps3
 go_wp2_with fail
 refine (lives10 _ hE).mono ?_
 rintro e w1 ⟨rfl, qw1⟩
 have uw1 := qw1
 clear qw1
 go_wp2_with fail
 go_ret
 exact ⟨rfl, uw1⟩
theorem of_bad_true (p : Option Addr) (n ca : Nat) (kk day c ck : Int) (R : List Rq) (w : World) (h1 : n ≤ 20) (HO : Hid (∀ W, Dn w W → Calls Tryz.prog 10 #[.slice p n ca] W fun ro w' => ∃ p', ro = .returned (.tuple #[.slice p' R.length R.length, .int .i64 c]) ∧ Row w' p' R ∧ Dn W w')) (FO : Hid (∀ W, Dn w W → Calls Tryz.prog 11 #[.slice p n ca] W fun ro w' => ∃ p' cap', ro = .returned (.tuple #[.slice p' R.length cap', .int .i64 c]) ∧ Row w' p' R ∧ Dn W w')) (FH : Hid (∀ W, Dn w W → Calls Tryz.prog 12 #[.slice p n ca, .int .i64 day] W fun ro w' => ro = .returned (.int .i64 1) ∧ Dn W w')) (HK : Hid (∀ W, Dn w W → Calls Tryz.prog 14 #[.slice p n ca] W fun ro w' => ro = .returned (.int .i64 ck) ∧ Dn W w')) (FK : Hid (∀ W, Dn w W → Calls Tryz.prog 15 #[.slice p n ca] W fun ro w' => ro = .returned (.int .i64 ck) ∧ Dn W w')) (HH : Hid (∀ W, Dn w W → Calls Tryz.prog 16 #[.slice p n ca, .int .i64 day] W fun ro w' => ro = .returned (.bool true) ∧ Dn W w')) (GO : Hid (∀ W p1 p2 c2, Row W p1 R → Row W p2 R → Calls Tryz.prog 13 #[.slice p1 R.length R.length, .int .i64 c, .slice p2 R.length c2, .int .i64 c] W fun ro w' => ro = .returned (.bool true) ∧ Dn W w')) (hc : c ≠ 0) (hE : EnvR w) :
  Calls Tryz.prog 3 #[.slice p n ca, .int .u8 kk, .int .i64 day] w fun ro w' => ro = .returned (.bool true) ∧ Dn w w' := by
 have e1 : decide ((n : Int) > 20) = false := by simp; omega
 have e2 : ¬ (20 : Int) < n := by omega
 have e3 : (ck != ck) = false := by simp
 clear h1
 have e8 : (c != 0) = true := by simpa using hc
 clear hc
 go_enter Tryz.func3, Tryz.ntmps3
 go_wp2_with fail
 refine (HO.out _ (Dn.refl _)).mono ?_
 rintro e w1 ⟨po, rfl, ro, qw1⟩
 have uw1 := qw1
 clear qw1
 go_wp2_with fail
 refine (FO.out _ uw1).mono ?_
 rintro e w2 ⟨pf, cf, rfl, rf, qw2⟩
 replace ro := ro.dn qw2
 have uw2 := uw1.trans qw2
 clear qw2 uw1
 go_wp2_with fail
 refine (FH.out _ uw2).mono ?_
 rintro e w3 ⟨rfl, qw3⟩
 replace ro := ro.dn qw3
 replace rf := rf.dn qw3
 have uw3 := uw2.trans qw3
 clear qw3 uw2
 go_wp2_with fail
 refine (GO.out _ _ _ _ ro rf).mono ?_
 rintro e w4 ⟨rfl, qw4⟩
 replace ro := ro.dn qw4
 replace rf := rf.dn qw4
 have uw4 := uw3.trans qw4
 clear qw4 uw3
 go_wp2_with fail
 refine (HK.out _ uw4).mono ?_
 rintro e w5 ⟨rfl, qw5⟩
 replace ro := ro.dn qw5
 replace rf := rf.dn qw5
 have uw5 := uw4.trans qw5
 clear qw5 uw4
 go_wp2_with fail
 refine (FK.out _ uw5).mono ?_
 rintro e w6 ⟨rfl, qw6⟩
 replace ro := ro.dn qw6
 replace rf := rf.dn qw6
 have uw6 := uw5.trans qw6
 clear qw6 uw5
 go_wp2_with fail
 refine (HH.out _ uw6).mono ?_
 rintro e w7 ⟨rfl, qw7⟩
 replace ro := ro.dn qw7
 replace rf := rf.dn qw7
 have uw7 := uw6.trans qw7
 clear qw7 uw6
 clear ro rf
 go_wp2_with fail
 refine (lives10 _ (hE.dn uw7)).mono ?_
 rintro e w8 ⟨rfl, qw8⟩
 have uw8 := uw7.trans qw8
 clear qw8 uw7
 go_wp2_with fail
 go_ret
 exact ⟨rfl, uw8⟩
theorem of_bad_false (p : Option Addr) (n ca : Nat) (kk day c ck : Int) (R : List Rq) (w : World) (h1 : n ≤ 20) (HO : Hid (∀ W, Dn w W → Calls Tryz.prog 10 #[.slice p n ca] W fun ro w' => ∃ p', ro = .returned (.tuple #[.slice p' R.length R.length, .int .i64 c]) ∧ Row w' p' R ∧ Dn W w')) (FO : Hid (∀ W, Dn w W → Calls Tryz.prog 11 #[.slice p n ca] W fun ro w' => ∃ p' cap', ro = .returned (.tuple #[.slice p' R.length cap', .int .i64 c]) ∧ Row w' p' R ∧ Dn W w')) (FH : Hid (∀ W, Dn w W → Calls Tryz.prog 12 #[.slice p n ca, .int .i64 day] W fun ro w' => ro = .returned (.int .i64 0) ∧ Dn W w')) (HK : Hid (∀ W, Dn w W → Calls Tryz.prog 14 #[.slice p n ca] W fun ro w' => ro = .returned (.int .i64 ck) ∧ Dn W w')) (FK : Hid (∀ W, Dn w W → Calls Tryz.prog 15 #[.slice p n ca] W fun ro w' => ro = .returned (.int .i64 ck) ∧ Dn W w')) (HH : Hid (∀ W, Dn w W → Calls Tryz.prog 16 #[.slice p n ca, .int .i64 day] W fun ro w' => ro = .returned (.bool false) ∧ Dn W w')) (GO : Hid (∀ W p1 p2 c2, Row W p1 R → Row W p2 R → Calls Tryz.prog 13 #[.slice p1 R.length R.length, .int .i64 c, .slice p2 R.length c2, .int .i64 c] W fun ro w' => ro = .returned (.bool true) ∧ Dn W w')) (hc : c ≠ 0) (hE : EnvR w) :
  Calls Tryz.prog 3 #[.slice p n ca, .int .u8 kk, .int .i64 day] w fun ro w' => ro = .returned (.bool true) ∧ Dn w w' := by
 have e1 : decide ((n : Int) > 20) = false := by simp; omega
 have e2 : ¬ (20 : Int) < n := by omega
 have e3 : (ck != ck) = false := by simp
 clear h1
 have e8 : (c != 0) = true := by simpa using hc
 clear hc
 go_enter Tryz.func3, Tryz.ntmps3
 go_wp2_with fail
 refine (HO.out _ (Dn.refl _)).mono ?_
 rintro e w1 ⟨po, rfl, ro, qw1⟩
 have uw1 := qw1
 clear qw1
 go_wp2_with fail
 refine (FO.out _ uw1).mono ?_
 rintro e w2 ⟨pf, cf, rfl, rf, qw2⟩
 replace ro := ro.dn qw2
 have uw2 := uw1.trans qw2
 clear qw2 uw1
 go_wp2_with fail
 refine (FH.out _ uw2).mono ?_
 rintro e w3 ⟨rfl, qw3⟩
 replace ro := ro.dn qw3
 replace rf := rf.dn qw3
 have uw3 := uw2.trans qw3
 clear qw3 uw2
 go_wp2_with fail
 refine (GO.out _ _ _ _ ro rf).mono ?_
 rintro e w4 ⟨rfl, qw4⟩
 replace ro := ro.dn qw4
 replace rf := rf.dn qw4
 have uw4 := uw3.trans qw4
 clear qw4 uw3
 go_wp2_with fail
 refine (HK.out _ uw4).mono ?_
 rintro e w5 ⟨rfl, qw5⟩
 replace ro := ro.dn qw5
 replace rf := rf.dn qw5
 have uw5 := uw4.trans qw5
 clear qw5 uw4
 go_wp2_with fail
 refine (FK.out _ uw5).mono ?_
 rintro e w6 ⟨rfl, qw6⟩
 replace ro := ro.dn qw6
 replace rf := rf.dn qw6
 have uw6 := uw5.trans qw6
 clear qw6 uw5
 go_wp2_with fail
 refine (HH.out _ uw6).mono ?_
 rintro e w7 ⟨rfl, qw7⟩
 replace ro := ro.dn qw7
 replace rf := rf.dn qw7
 have uw7 := uw6.trans qw7
 clear qw7 uw6
 clear ro rf
 go_wp2_with fail
 refine (lives10 _ (hE.dn uw7)).mono ?_
 rintro e w8 ⟨rfl, qw8⟩
 have uw8 := uw7.trans qw8
 clear qw8 uw7
 go_wp2_with fail
 go_ret
 exact ⟨rfl, uw8⟩
theorem of_ok_true (g o : Nat) (n ca m : Nat) (L T : List Rq) (HT : Hid (T = L.drop m ++ L.take m)) (kk day ck : Int) (R : List Rq) (w : World) (h1 : n ≤ 20) (hmn : m < n) (hm : kk % (n : Int) = (m : Int)) (hca : n ≤ ca) (hmx : ca ≤ 9223372036854775807) (hln : L.length = n) (hcs : Cs w g o L) (hk : 0 ≤ kk ∧ kk ≤ 255) (HO : Hid (∀ W, Dn w W → Calls Tryz.prog 10 #[.slice (some ⟨g, o, none⟩) n ca] W fun ro w' => ∃ p', ro = .returned (.tuple #[.slice p' R.length R.length, .int .i64 0]) ∧ Row w' p' R ∧ Dn W w')) (FO : Hid (∀ W, Dn w W → Calls Tryz.prog 11 #[.slice (some ⟨g, o, none⟩) n ca] W fun ro w' => ∃ p' cap', ro = .returned (.tuple #[.slice p' R.length cap', .int .i64 0]) ∧ Row w' p' R ∧ Dn W w')) (FH : Hid (∀ W, Dn w W → Calls Tryz.prog 12 #[.slice (some ⟨g, o, none⟩) n ca, .int .i64 day] W fun ro w' => ro = .returned (.int .i64 1) ∧ Dn W w')) (HK : Hid (∀ W, Dn w W → Calls Tryz.prog 14 #[.slice (some ⟨g, o, none⟩) n ca] W fun ro w' => ro = .returned (.int .i64 ck) ∧ Dn W w')) (FK : Hid (∀ W, Dn w W → Calls Tryz.prog 15 #[.slice (some ⟨g, o, none⟩) n ca] W fun ro w' => ro = .returned (.int .i64 ck) ∧ Dn W w')) (HH : Hid (∀ W, Dn w W → Calls Tryz.prog 16 #[.slice (some ⟨g, o, none⟩) n ca, .int .i64 day] W fun ro w' => ro = .returned (.bool true) ∧ Dn W w')) (GO : Hid (∀ W p1 p2 c2, Row W p1 R → Row W p2 R → Calls Tryz.prog 13 #[.slice p1 R.length R.length, .int .i64 0, .slice p2 R.length c2, .int .i64 0] W fun ro w' => ro = .returned (.bool true) ∧ Dn W w')) (HTU : Hid (∀ W p1 c1, Row W p1 T → Calls Tryz.prog 10 #[.slice p1 T.length c1] W fun ro w' => ∃ p', ro = .returned (.tuple #[.slice p' R.length R.length, .int .i64 0]) ∧ Row w' p' R ∧ Dn W w')) (HCK : Hid (∀ W p1, Row W p1 R → Calls Tryz.prog 14 #[.slice p1 R.length R.length] W fun ro w' => ro = .returned (.int .i64 0) ∧ Dn W w')) (HHR : Hid (∀ W p1, Row W p1 R → Calls Tryz.prog 16 #[.slice p1 R.length R.length, .int .i64 day] W fun ro w' => ro = .returned (.bool true) ∧ Dn W w')) (hE : EnvR w) :
   Calls Tryz.prog 3 #[.slice (some ⟨g, o, none⟩) n ca, .int .u8 kk, .int .i64 day] w fun ro w' => ro = .returned (.bool true) ∧ Dn w w' := by
 have e1 : decide ((n : Int) > 20) = false := by simp; omega
 have e2 : ¬ (20 : Int) < n := by omega
 have e3 : (ck != ck) = false := by simp
 clear h1
 have e9 : decide ((n : Int) > 0) = true := by simp; omega
 have e10 : (0 : Int) < n := by omega
 have e11 : (m : Int) ≤ n := by omega
 have e12 : m ≤ n := by omega
 have e13 : (m : Int) ≤ ca := by omega
 have e14 : m ≤ ca := by omega
 have e15 : ¬ ca = m := by omega
 have e16 : m < ca := by omega
 have e17 : (m : Int) < ca := by omega
 have e18 : (0 : Int) ≤ m := by omega
 have e19 : n ≤ ca := hca
 have e20 : (n : Int) ≤ ca := by omega
 have HCS := Lib.hid hcs
 have HLN := Lib.hid hln
 clear hcs hln
 go_enter Tryz.func3, Tryz.ntmps3
 go_wp2_with fail
 refine (HO.out _ (Dn.refl _)).mono ?_
 rintro e w1 ⟨po, rfl, ro, qw1⟩
 have uw1 := qw1
 clear qw1
 go_wp2_with fail
 refine (FO.out _ uw1).mono ?_
 rintro e w2 ⟨pf, cf, rfl, rf, qw2⟩
 replace ro := ro.dn qw2
 have uw2 := uw1.trans qw2
 clear qw2 uw1
 go_wp2_with fail
 refine (FH.out _ uw2).mono ?_
 rintro e w3 ⟨rfl, qw3⟩
 replace ro := ro.dn qw3
 replace rf := rf.dn qw3
 have uw3 := uw2.trans qw3
 clear qw3 uw2
 go_wp2_with fail
 refine (GO.out _ _ _ _ ro rf).mono ?_
 rintro e w4 ⟨rfl, qw4⟩
 replace ro := ro.dn qw4
 replace rf := rf.dn qw4
 have uw4 := uw3.trans qw4
 clear qw4 uw3
 go_wp2_with fail
 refine (HK.out _ uw4).mono ?_
 rintro e w5 ⟨rfl, qw5⟩
 replace ro := ro.dn qw5
 replace rf := rf.dn qw5
 have uw5 := uw4.trans qw5
 clear qw5 uw4
 go_wp2_with fail
 refine (FK.out _ uw5).mono ?_
 rintro e w6 ⟨rfl, qw6⟩
 replace ro := ro.dn qw6
 replace rf := rf.dn qw6
 have uw6 := uw5.trans qw6
 clear qw6 uw5
 go_wp2_with fail
 refine (HH.out _ uw6).mono ?_
 rintro e w7 ⟨rfl, qw7⟩
 replace ro := ro.dn qw7
 replace rf := rf.dn qw7
 have uw7 := uw6.trans qw7
 clear qw7 uw6
 go_wp2_with fail
 have HC2 := Lib.hid (HCS.out.dn uw7)
 have HU := Lib.hid uw7
 have HLD := Lib.hid (fun W (q : Dn w7 W) => Or.inl (b := Value.slice (some ⟨g, o + m * 4, none⟩) (n - m) (ca - m) = .slice none 0 0 ∧ L.drop m = []) (lsW_drop (cap := ca - m) (m := m) (HC2.out.dn q) HLN.out))
 have HLT := Lib.hid (fun W (q : Dn w7 W) => Or.inl (b := Value.slice (some ⟨g, o, none⟩) m ca = .slice none 0 0 ∧ L.take m = []) (lsW_take (cap := ca) (m := m) (HC2.out.dn q) HLN.out e12))
 have HRO := Lib.hid ro
 have HRF := Lib.hid rf
 clear ro rf
 have e21 : decide (0 < n) = true := by simp; omega
 rw [hm]
 simp only [e21]
 clear hm
 refine region_inv (fun A l a' w' => ∃ (b0 b1 b2 b3 b4 b5 b6 b7 b8 b9 b10 b11 b12 b13 : Bool) (x65 x66 x67 x68 x69 x70 x71 x72 x73 x64 x74 x75 x13 x14 : Value), l = #[b0, b1, b2, b3, b4, b5, b6, b7, b8, b9, b10, b11, b12, b13] ∧ a' = ((((((((((((((A.put (some 65) x65).put (some 66) x66).put (some 67) x67).put (some 68) x68).put (some 69) x69).put (some 70) x70).put (some 71) x71).put (some 72) x72).put (some 73) x73).put (some 64) x64).put (some 74) x74).put (some 75) x75).put (some 13) x13).put (some 14) x14) ∧ Dn w7 w' ∧ (b0 = true → x65 = .slice (some ⟨g, o, none⟩) n ca) ∧ (b1 = true → x66 = .int .i64 m) ∧ (b2 = true → x67 = .slice (some ⟨g, o + m * 4, none⟩) (n - m) (ca - m)) ∧ (b3 = true → b7 = false → OwnQ w' w7.heap.size x68 (L.drop m)) ∧ (b4 = true → x69 = .slice (some ⟨g, o, none⟩) n ca) ∧ (b5 = true → x70 = .int .i64 m) ∧ (b6 = true → x71 = .slice (some ⟨g, o, none⟩) m ca) ∧ (b7 = true → SlR w' x72 T) ∧ (b8 = true → TuR w' x73 R) ∧ (b9 = true → TuR w' x64 R) ∧ (b10 = true → SlE w' x74 R) ∧ (b11 = true → x75 = .int .i64 0) ∧ (b12 = true → SlE w' x13 R) ∧ (b13 = true → x14 = .int .i64 0) ∧ (b7 = true → b3 = true) ∧ (b8 = true → b7 = true) ∧ (b9 = true → b8 = true) ∧ (b10 = true → b9 = true) ∧ (b12 = true → b10 = true)) (by kernel_rfl) ?_ ?_ ?_
 · exact ⟨false, false, false, false, false, false, false, false, false, false, false, false, false, false, undef, undef, undef, undef, undef, undef, undef, undef, undef, undef, undef, undef, undef, undef, rfl, by simp only [Act.put, pL], (Dn.refl _).drew, (fun h => by cases h), (fun h => by cases h), (fun h => by cases h), (fun h => by cases h), (fun h => by cases h), (fun h => by cases h), (fun h => by cases h), (fun h => by cases h), (fun h => by cases h), (fun h => by cases h), (fun h => by cases h), (fun h => by cases h), (fun h => by cases h), (fun h => by cases h), (fun h => by cases h), (fun h => by cases h), (fun h => by cases h), (fun h => by cases h), (fun h => by cases h)⟩
 · rintro l a' w' i ⟨b0, b1, b2, b3, b4, b5, b6, b7, b8, b9, b10, b11, b12, b13, x65, x66, x67, x68, x69, x70, x71, x72, x73, x64, x74, x75, x13, x14, rfl, rfl, q, hv0, hv1, hv2, hv3, hv4, hv5, hv6, hv7, hv8, hv9, hv10, hv11, hv12, hv13, ho7, ho8, ho9, ho10, ho12⟩ hun hdep hi
   simp only [Act.put, pL]
   have hi' : i < 14 := hi
   rcases (show i = 0 ∨ i = 1 ∨ i = 2 ∨ i = 3 ∨ i = 4 ∨ i = 5 ∨ i = 6 ∨ i = 7 ∨ i = 8 ∨ i = 9 ∨ i = 10 ∨ i = 11 ∨ i = 12 ∨ i = 13 by omega) with rfl | rfl | rfl | rfl | rfl | rfl | rfl | rfl | rfl | rfl | rfl | rfl | rfl | rfl
   ·
    have f0 : b0 = false := by simpa using hun
    subst f0
    refine wpOp_step rfl (fun K hK => ?_)
    replace hK := Lib.hid hK
    go_simp
    exact hK.out _ _ ⟨true, b1, b2, b3, b4, b5, b6, b7, b8, b9, b10, b11, b12, b13, .slice (some ⟨g, o, none⟩) n ca, x66, x67, x68, x69, x70, x71, x72, x73, x64, x74, x75, x13, x14, rfl, by first | (simp only [Act.put, pL]; done) | rfl, q, fun _ => rfl, hv1, hv2, hv3, hv4, hv5, hv6, hv7, hv8, hv9, hv10, hv11, hv12, hv13, ho7, ho8, ho9, ho10, ho12⟩
   ·
    have f1 : b1 = false := by simpa using hun
    subst f1
    refine wpOp_step rfl (fun K hK => ?_)
    replace hK := Lib.hid hK
    go_simp
    exact hK.out _ _ ⟨b0, true, b2, b3, b4, b5, b6, b7, b8, b9, b10, b11, b12, b13, x65, .int .i64 m, x67, x68, x69, x70, x71, x72, x73, x64, x74, x75, x13, x14, rfl, by first | (simp only [Act.put, pL]; done) | rfl, q, hv0, fun _ => rfl, hv2, hv3, hv4, hv5, hv6, hv7, hv8, hv9, hv10, hv11, hv12, hv13, ho7, ho8, ho9, ho10, ho12⟩
   ·
    have e0 : b0 = true := hdep _ rfl ⟨0, .data⟩ (by simp) rfl
    have e1 : b1 = true := hdep _ rfl ⟨1, .data⟩ (by simp) rfl
    have f2 : b2 = false := by simpa using hun
    subst f2 e0 e1
    obtain rfl := hv0 rfl
    obtain rfl := hv1 rfl
    refine wpOp_step rfl (fun K hK => ?_)
    replace hK := Lib.hid hK
    go_simp
    exact hK.out _ _ ⟨true, true, true, b3, b4, b5, b6, b7, b8, b9, b10, b11, b12, b13, .slice (some ⟨g, o, none⟩) n ca, .int .i64 m, .slice (some ⟨g, o + m * 4, none⟩) (n - m) (ca - m), x68, x69, x70, x71, x72, x73, x64, x74, x75, x13, x14, rfl, by first | (simp only [Act.put, pL]; done) | rfl, q, fun _ => rfl, fun _ => rfl, fun _ => rfl, hv3, hv4, hv5, hv6, hv7, hv8, hv9, hv10, hv11, hv12, hv13, ho7, ho8, ho9, ho10, ho12⟩
   ·
    have e2 : b2 = true := hdep _ rfl ⟨2, .data⟩ (by simp) rfl
    have f3 : b3 = false := by simpa using hun
    subst f3 e2
    obtain rfl := hv2 rfl
    refine wpOp_step rfl (fun K hK => ?_)
    replace hK := Lib.hid hK
    refine step_catW (by rfl) _ _ (by rfl) w' w7.heap.size (.slice none 0 0) [] (.slice (some ⟨g, o + m * 4, none⟩) (n - m) (ca - m)) (L.drop m) (by rfl) (OwnQ.nil _ _) (by rfl) (HLD.out _ q) (by have := HLN.out; simp <;> omega) q.size ?_
    intro v3 wa own3 hq3
    exact hK.out _ _ ⟨b0, b1, true, true, b4, b5, b6, b7, b8, b9, b10, b11, b12, b13, x65, x66, .slice (some ⟨g, o + m * 4, none⟩) (n - m) (ca - m), v3, x69, x70, x71, x72, x73, x64, x74, x75, x13, x14, rfl, by first | (simp only [Act.put, pL]; done) | rfl, hq3 _ q (Nat.le_refl _), hv0, hv1, fun _ => rfl, fun _ _ => own3, hv4, hv5, hv6, fun h => absurd (ho7 h) (by simp), fun h => absurd (ho7 (ho8 h)) (by simp), fun h => absurd (ho7 (ho8 (ho9 h))) (by simp), fun h => absurd (ho7 (ho8 (ho9 (ho10 h)))) (by simp), hv11, fun h => absurd (ho7 (ho8 (ho9 (ho10 (ho12 h))))) (by simp), hv13, fun _ => rfl, ho8, ho9, ho10, ho12⟩
   ·
    have f4 : b4 = false := by simpa using hun
    subst f4
    refine wpOp_step rfl (fun K hK => ?_)
    replace hK := Lib.hid hK
    go_simp
    exact hK.out _ _ ⟨b0, b1, b2, b3, true, b5, b6, b7, b8, b9, b10, b11, b12, b13, x65, x66, x67, x68, .slice (some ⟨g, o, none⟩) n ca, x70, x71, x72, x73, x64, x74, x75, x13, x14, rfl, by first | (simp only [Act.put, pL]; done) | rfl, q, hv0, hv1, hv2, hv3, fun _ => rfl, hv5, hv6, hv7, hv8, hv9, hv10, hv11, hv12, hv13, ho7, ho8, ho9, ho10, ho12⟩
   ·
    have f5 : b5 = false := by simpa using hun
    subst f5
    refine wpOp_step rfl (fun K hK => ?_)
    replace hK := Lib.hid hK
    go_simp
    exact hK.out _ _ ⟨b0, b1, b2, b3, b4, true, b6, b7, b8, b9, b10, b11, b12, b13, x65, x66, x67, x68, x69, .int .i64 m, x71, x72, x73, x64, x74, x75, x13, x14, rfl, by first | (simp only [Act.put, pL]; done) | rfl, q, hv0, hv1, hv2, hv3, hv4, fun _ => rfl, hv6, hv7, hv8, hv9, hv10, hv11, hv12, hv13, ho7, ho8, ho9, ho10, ho12⟩
   ·
    have e4 : b4 = true := hdep _ rfl ⟨4, .data⟩ (by simp) rfl
    have e5 : b5 = true := hdep _ rfl ⟨5, .data⟩ (by simp) rfl
    have f6 : b6 = false := by simpa using hun
    subst f6 e4 e5
    obtain rfl := hv4 rfl
    obtain rfl := hv5 rfl
    refine wpOp_step rfl (fun K hK => ?_)
    replace hK := Lib.hid hK
    go_simp
    exact hK.out _ _ ⟨b0, b1, b2, b3, true, true, true, b7, b8, b9, b10, b11, b12, b13, x65, x66, x67, x68, .slice (some ⟨g, o, none⟩) n ca, .int .i64 m, .slice (some ⟨g, o, none⟩) m ca, x72, x73, x64, x74, x75, x13, x14, rfl, by first | (simp only [Act.put, pL]; done) | rfl, q, hv0, hv1, hv2, hv3, fun _ => rfl, fun _ => rfl, fun _ => rfl, hv7, hv8, hv9, hv10, hv11, hv12, hv13, ho7, ho8, ho9, ho10, ho12⟩
   ·
    have e3 : b3 = true := hdep _ rfl ⟨3, .data⟩ (by simp) rfl
    have e6 : b6 = true := hdep _ rfl ⟨6, .data⟩ (by simp) rfl
    have f7 : b7 = false := by simpa using hun
    subst f7 e3 e6
    obtain rfl := hv6 rfl
    refine wpOp_step rfl (fun K hK => ?_)
    replace hK := Lib.hid hK
    have k3 := hv3 rfl rfl
    refine step_catW (by rfl) _ _ (by rfl) w' w7.heap.size x68 (L.drop m) (.slice (some ⟨g, o, none⟩) m ca) (L.take m) (by rfl) k3 (by rfl) (HLT.out _ q) (by have := HLN.out; simp <;> omega) q.size ?_
    intro v7 wa own7 hq7
    exact hK.out _ _ ⟨b0, b1, b2, true, b4, b5, true, true, b8, b9, b10, b11, b12, b13, x65, x66, x67, x68, x69, x70, .slice (some ⟨g, o, none⟩) m ca, v7, x73, x64, x74, x75, x13, x14, rfl, by first | (simp only [Act.put, pL]; done) | rfl, hq7 _ q (Nat.le_refl _), hv0, hv1, hv2, (fun _ h => by cases h), hv4, hv5, fun _ => rfl, fun _ => (show OwnQ wa _ v7 T by rw [HT.out]; exact own7).slR, fun h => absurd (ho8 h) (by simp), fun h => absurd (ho8 (ho9 h)) (by simp), fun h => absurd (ho8 (ho9 (ho10 h))) (by simp), hv11, fun h => absurd (ho8 (ho9 (ho10 (ho12 h)))) (by simp), hv13, fun _ => rfl, fun _ => rfl, ho9, ho10, ho12⟩
   ·
    have e7 : b7 = true := hdep _ rfl ⟨7, .data⟩ (by simp) rfl
    have f8 : b8 = false := by simpa using hun
    subst f8 e7
    obtain ⟨p7, c7, rfl, r7⟩ := hv7 rfl
    refine wpOp_step rfl (fun K hK => ?_)
    replace hK := Lib.hid hK
    go_simp
    go_at_call 10
    refine (HTU.out _ _ _ r7.row).mono ?_
    rintro e wa ⟨p8, rfl, r8, qa⟩
    try go_wp2_with fail
    exact hK.out _ _ ⟨b0, b1, b2, b3, b4, b5, b6, true, true, b9, b10, b11, b12, b13, x65, x66, x67, x68, x69, x70, x71, .slice p7 T.length c7, .tuple #[.slice p8 R.length R.length, .int .i64 0], x64, x74, x75, x13, x14, rfl, by first | (simp only [Act.put, pL]; done) | rfl, q.trans qa, hv0, hv1, hv2, fun h h2 => (hv3 h h2).dn qa, hv4, hv5, hv6, fun _ => ⟨p7, c7, rfl, r7.dn qa⟩, fun _ => ⟨p8, rfl, r8⟩, fun h => (hv9 h).dn qa, fun h => (hv10 h).dn qa, hv11, fun h => (hv12 h).dn qa, hv13, (fun _ => by first | exact ho7 rfl | exact ho7 trivial), fun _ => rfl, fun _ => rfl, ho10, ho12⟩
   ·
    have e8 : b8 = true := hdep _ rfl ⟨8, .data⟩ (by simp) rfl
    have f9 : b9 = false := by simpa using hun
    subst f9 e8
    obtain ⟨p8, rfl, r8⟩ := hv8 rfl
    refine wpOp_step rfl (fun K hK => ?_)
    replace hK := Lib.hid hK
    go_simp
    exact hK.out _ _ ⟨b0, b1, b2, b3, b4, b5, b6, b7, true, true, b10, b11, b12, b13, x65, x66, x67, x68, x69, x70, x71, x72, .tuple #[.slice p8 R.length R.length, .int .i64 0], .tuple #[.slice p8 R.length R.length, .int .i64 0], x74, x75, x13, x14, rfl, by first | (simp only [Act.put, pL]; done) | rfl, q, hv0, hv1, hv2, hv3, hv4, hv5, hv6, hv7, fun _ => ⟨p8, rfl, r8⟩, fun _ => ⟨p8, rfl, r8⟩, hv10, hv11, hv12, hv13, ho7, (fun _ => by first | exact ho8 rfl | exact ho8 trivial), fun _ => rfl, fun _ => rfl, ho12⟩
   ·
    have e9 : b9 = true := hdep _ rfl ⟨9, .data⟩ (by simp) rfl
    have f10 : b10 = false := by simpa using hun
    subst f10 e9
    obtain ⟨p9, rfl, r9⟩ := hv9 rfl
    refine wpOp_step rfl (fun K hK => ?_)
    replace hK := Lib.hid hK
    go_simp
    exact hK.out _ _ ⟨b0, b1, b2, b3, b4, b5, b6, b7, b8, true, true, b11, b12, b13, x65, x66, x67, x68, x69, x70, x71, x72, x73, .tuple #[.slice p9 R.length R.length, .int .i64 0], .slice p9 R.length R.length, x75, x13, x14, rfl, by first | (simp only [Act.put, pL]; done) | rfl, q, hv0, hv1, hv2, hv3, hv4, hv5, hv6, hv7, hv8, fun _ => ⟨p9, rfl, r9⟩, fun _ => ⟨p9, rfl, r9⟩, hv11, hv12, hv13, ho7, ho8, (fun _ => by first | exact ho9 rfl | exact ho9 trivial), fun _ => rfl, fun _ => rfl⟩
   ·
    have e9 : b9 = true := hdep _ rfl ⟨9, .data⟩ (by simp) rfl
    have f11 : b11 = false := by simpa using hun
    subst f11 e9
    obtain ⟨p9, rfl, r9⟩ := hv9 rfl
    refine wpOp_step rfl (fun K hK => ?_)
    replace hK := Lib.hid hK
    go_simp
    exact hK.out _ _ ⟨b0, b1, b2, b3, b4, b5, b6, b7, b8, true, b10, true, b12, b13, x65, x66, x67, x68, x69, x70, x71, x72, x73, .tuple #[.slice p9 R.length R.length, .int .i64 0], x74, .int .i64 0, x13, x14, rfl, by first | (simp only [Act.put, pL]; done) | rfl, q, hv0, hv1, hv2, hv3, hv4, hv5, hv6, hv7, hv8, fun _ => ⟨p9, rfl, r9⟩, hv10, fun _ => rfl, hv12, hv13, ho7, ho8, (fun _ => by first | exact ho9 rfl | exact ho9 trivial), fun _ => rfl, ho12⟩
   ·
    have e10 : b10 = true := hdep _ rfl ⟨10, .data⟩ (by simp) rfl
    have f12 : b12 = false := by simpa using hun
    subst f12 e10
    obtain ⟨p10, rfl, r10⟩ := hv10 rfl
    refine wpOp_step rfl (fun K hK => ?_)
    replace hK := Lib.hid hK
    go_simp
    exact hK.out _ _ ⟨b0, b1, b2, b3, b4, b5, b6, b7, b8, b9, true, b11, true, b13, x65, x66, x67, x68, x69, x70, x71, x72, x73, x64, .slice p10 R.length R.length, x75, .slice p10 R.length R.length, x14, rfl, by first | (simp only [Act.put, pL]; done) | rfl, q, hv0, hv1, hv2, hv3, hv4, hv5, hv6, hv7, hv8, hv9, fun _ => ⟨p10, rfl, r10⟩, hv11, fun _ => ⟨p10, rfl, r10⟩, hv13, ho7, ho8, ho9, (fun _ => by first | exact ho10 rfl | exact ho10 trivial), fun _ => rfl⟩
   ·
    have e11 : b11 = true := hdep _ rfl ⟨11, .data⟩ (by simp) rfl
    have f13 : b13 = false := by simpa using hun
    subst f13 e11
    obtain rfl := hv11 rfl
    refine wpOp_step rfl (fun K hK => ?_)
    replace hK := Lib.hid hK
    go_simp
    exact hK.out _ _ ⟨b0, b1, b2, b3, b4, b5, b6, b7, b8, b9, b10, true, b12, true, x65, x66, x67, x68, x69, x70, x71, x72, x73, x64, x74, .int .i64 0, x13, .int .i64 0, rfl, by first | (simp only [Act.put, pL]; done) | rfl, q, hv0, hv1, hv2, hv3, hv4, hv5, hv6, hv7, hv8, hv9, hv10, fun _ => rfl, hv12, fun _ => rfl, ho7, ho8, ho9, ho10, ho12⟩
 · rintro l a' W ⟨b0, b1, b2, b3, b4, b5, b6, b7, b8, b9, b10, b11, b12, b13, x65, x66, x67, x68, x69, x70, x71, x72, x73, x64, x74, x75, x13, x14, rfl, rfl, qW, hv0, hv1, hv2, hv3, hv4, hv5, hv6, hv7, hv8, hv9, hv10, hv11, hv12, hv13, ho7, ho8, ho9, ho10, ho12⟩ hall
   obtain rfl : b0 = true := by
    cases b0 with
    | true => rfl
    | false => exact absurd (by intro e he hb; simp at he <;> (repeat' (rcases he with rfl | he)) <;> first | rfl | exact absurd hb (by decide)) (hall 0 _ rfl rfl)
   obtain rfl : b1 = true := by
    cases b1 with
    | true => rfl
    | false => exact absurd (by intro e he hb; simp at he <;> (repeat' (rcases he with rfl | he)) <;> first | rfl | exact absurd hb (by decide)) (hall 1 _ rfl rfl)
   obtain rfl : b2 = true := by
    cases b2 with
    | true => rfl
    | false => exact absurd (by intro e he hb; simp at he <;> (repeat' (rcases he with rfl | he)) <;> first | rfl | exact absurd hb (by decide)) (hall 2 _ rfl rfl)
   obtain rfl : b3 = true := by
    cases b3 with
    | true => rfl
    | false => exact absurd (by intro e he hb; simp at he <;> (repeat' (rcases he with rfl | he)) <;> first | rfl | exact absurd hb (by decide)) (hall 3 _ rfl rfl)
   obtain rfl : b4 = true := by
    cases b4 with
    | true => rfl
    | false => exact absurd (by intro e he hb; simp at he <;> (repeat' (rcases he with rfl | he)) <;> first | rfl | exact absurd hb (by decide)) (hall 4 _ rfl rfl)
   obtain rfl : b5 = true := by
    cases b5 with
    | true => rfl
    | false => exact absurd (by intro e he hb; simp at he <;> (repeat' (rcases he with rfl | he)) <;> first | rfl | exact absurd hb (by decide)) (hall 5 _ rfl rfl)
   obtain rfl : b6 = true := by
    cases b6 with
    | true => rfl
    | false => exact absurd (by intro e he hb; simp at he <;> (repeat' (rcases he with rfl | he)) <;> first | rfl | exact absurd hb (by decide)) (hall 6 _ rfl rfl)
   obtain rfl : b7 = true := by
    cases b7 with
    | true => rfl
    | false => exact absurd (by intro e he hb; simp at he <;> (repeat' (rcases he with rfl | he)) <;> first | rfl | exact absurd hb (by decide)) (hall 7 _ rfl rfl)
   obtain rfl : b8 = true := by
    cases b8 with
    | true => rfl
    | false => exact absurd (by intro e he hb; simp at he <;> (repeat' (rcases he with rfl | he)) <;> first | rfl | exact absurd hb (by decide)) (hall 8 _ rfl rfl)
   obtain rfl : b9 = true := by
    cases b9 with
    | true => rfl
    | false => exact absurd (by intro e he hb; simp at he <;> (repeat' (rcases he with rfl | he)) <;> first | rfl | exact absurd hb (by decide)) (hall 9 _ rfl rfl)
   obtain rfl : b10 = true := by
    cases b10 with
    | true => rfl
    | false => exact absurd (by intro e he hb; simp at he <;> (repeat' (rcases he with rfl | he)) <;> first | rfl | exact absurd hb (by decide)) (hall 10 _ rfl rfl)
   obtain rfl : b11 = true := by
    cases b11 with
    | true => rfl
    | false => exact absurd (by intro e he hb; simp at he <;> (repeat' (rcases he with rfl | he)) <;> first | rfl | exact absurd hb (by decide)) (hall 11 _ rfl rfl)
   obtain rfl : b12 = true := by
    cases b12 with
    | true => rfl
    | false => exact absurd (by intro e he hb; simp at he <;> (repeat' (rcases he with rfl | he)) <;> first | rfl | exact absurd hb (by decide)) (hall 12 _ rfl rfl)
   obtain rfl : b13 = true := by
    cases b13 with
    | true => rfl
    | false => exact absurd (by intro e he hb; simp at he <;> (repeat' (rcases he with rfl | he)) <;> first | rfl | exact absurd hb (by decide)) (hall 13 _ rfl rfl)
   obtain rfl := hv0 rfl
   obtain rfl := hv1 rfl
   obtain rfl := hv2 rfl
   obtain rfl := hv4 rfl
   obtain rfl := hv5 rfl
   obtain rfl := hv6 rfl
   obtain rfl := hv11 rfl
   obtain rfl := hv13 rfl
   obtain ⟨p12, rfl, r12⟩ := hv12 rfl
   clear hall hv3 hv7 hv8 hv9 hv10 hv12 ho7 ho8 ho9 ho10 ho12
   have uW := HU.out.trans qW
   have rf := HRF.out.dn qW
   have ro := HRO.out.dn qW
   simp only [Act.put, pL]
   go_wp2_with fail
   refine (GO.out _ _ _ _ r12 rf).mono ?_
   rintro e w8 ⟨rfl, qw8⟩
   replace ro := ro.dn qw8
   replace rf := rf.dn qw8
   replace r12 := r12.dn qw8
   have uw8 := uW.trans qw8
   clear qw8 uW
   go_wp2_with fail
   refine (HCK.out _ _ ro).mono ?_
   rintro e w9 ⟨rfl, qw9⟩
   replace ro := ro.dn qw9
   replace rf := rf.dn qw9
   replace r12 := r12.dn qw9
   have uw9 := uw8.trans qw9
   clear qw9 uw8
   go_wp2_with fail
   refine (HHR.out _ _ ro).mono ?_
   rintro e w10 ⟨rfl, qw10⟩
   replace ro := ro.dn qw10
   replace rf := rf.dn qw10
   replace r12 := r12.dn qw10
   have uw10 := uw9.trans qw10
   clear qw10 uw9
   go_wp2_with fail
   refine (lives10 _ (hE.dn uw10)).mono ?_
   rintro e w11 ⟨rfl, qw11⟩
   replace ro := ro.dn qw11
   replace rf := rf.dn qw11
   replace r12 := r12.dn qw11
   have uw11 := uw10.trans qw11
   clear qw11 uw10
   go_wp2_with fail
   go_ret
   exact ⟨rfl, uw11⟩
theorem of_ok_false (g o : Nat) (n ca m : Nat) (L T : List Rq) (HT : Hid (T = L.drop m ++ L.take m)) (kk day ck : Int) (R : List Rq) (w : World) (h1 : n ≤ 20) (hmn : m < n) (hm : kk % (n : Int) = (m : Int)) (hca : n ≤ ca) (hmx : ca ≤ 9223372036854775807) (hln : L.length = n) (hcs : Cs w g o L) (hk : 0 ≤ kk ∧ kk ≤ 255) (HO : Hid (∀ W, Dn w W → Calls Tryz.prog 10 #[.slice (some ⟨g, o, none⟩) n ca] W fun ro w' => ∃ p', ro = .returned (.tuple #[.slice p' R.length R.length, .int .i64 0]) ∧ Row w' p' R ∧ Dn W w')) (FO : Hid (∀ W, Dn w W → Calls Tryz.prog 11 #[.slice (some ⟨g, o, none⟩) n ca] W fun ro w' => ∃ p' cap', ro = .returned (.tuple #[.slice p' R.length cap', .int .i64 0]) ∧ Row w' p' R ∧ Dn W w')) (FH : Hid (∀ W, Dn w W → Calls Tryz.prog 12 #[.slice (some ⟨g, o, none⟩) n ca, .int .i64 day] W fun ro w' => ro = .returned (.int .i64 0) ∧ Dn W w')) (HK : Hid (∀ W, Dn w W → Calls Tryz.prog 14 #[.slice (some ⟨g, o, none⟩) n ca] W fun ro w' => ro = .returned (.int .i64 ck) ∧ Dn W w')) (FK : Hid (∀ W, Dn w W → Calls Tryz.prog 15 #[.slice (some ⟨g, o, none⟩) n ca] W fun ro w' => ro = .returned (.int .i64 ck) ∧ Dn W w')) (HH : Hid (∀ W, Dn w W → Calls Tryz.prog 16 #[.slice (some ⟨g, o, none⟩) n ca, .int .i64 day] W fun ro w' => ro = .returned (.bool false) ∧ Dn W w')) (GO : Hid (∀ W p1 p2 c2, Row W p1 R → Row W p2 R → Calls Tryz.prog 13 #[.slice p1 R.length R.length, .int .i64 0, .slice p2 R.length c2, .int .i64 0] W fun ro w' => ro = .returned (.bool true) ∧ Dn W w')) (HTU : Hid (∀ W p1 c1, Row W p1 T → Calls Tryz.prog 10 #[.slice p1 T.length c1] W fun ro w' => ∃ p', ro = .returned (.tuple #[.slice p' R.length R.length, .int .i64 0]) ∧ Row w' p' R ∧ Dn W w')) (HCK : Hid (∀ W p1, Row W p1 R → Calls Tryz.prog 14 #[.slice p1 R.length R.length] W fun ro w' => ro = .returned (.int .i64 0) ∧ Dn W w')) (HHR : Hid (∀ W p1, Row W p1 R → Calls Tryz.prog 16 #[.slice p1 R.length R.length, .int .i64 day] W fun ro w' => ro = .returned (.bool false) ∧ Dn W w')) (hE : EnvR w) :
   Calls Tryz.prog 3 #[.slice (some ⟨g, o, none⟩) n ca, .int .u8 kk, .int .i64 day] w fun ro w' => ro = .returned (.bool true) ∧ Dn w w' := by
 have e1 : decide ((n : Int) > 20) = false := by simp; omega
 have e2 : ¬ (20 : Int) < n := by omega
 have e3 : (ck != ck) = false := by simp
 clear h1
 have e9 : decide ((n : Int) > 0) = true := by simp; omega
 have e10 : (0 : Int) < n := by omega
 have e11 : (m : Int) ≤ n := by omega
 have e12 : m ≤ n := by omega
 have e13 : (m : Int) ≤ ca := by omega
 have e14 : m ≤ ca := by omega
 have e15 : ¬ ca = m := by omega
 have e16 : m < ca := by omega
 have e17 : (m : Int) < ca := by omega
 have e18 : (0 : Int) ≤ m := by omega
 have e19 : n ≤ ca := hca
 have e20 : (n : Int) ≤ ca := by omega
 have HCS := Lib.hid hcs
 have HLN := Lib.hid hln
 clear hcs hln
 go_enter Tryz.func3, Tryz.ntmps3
 go_wp2_with fail
 refine (HO.out _ (Dn.refl _)).mono ?_
 rintro e w1 ⟨po, rfl, ro, qw1⟩
 have uw1 := qw1
 clear qw1
 go_wp2_with fail
 refine (FO.out _ uw1).mono ?_
 rintro e w2 ⟨pf, cf, rfl, rf, qw2⟩
 replace ro := ro.dn qw2
 have uw2 := uw1.trans qw2
 clear qw2 uw1
 go_wp2_with fail
 refine (FH.out _ uw2).mono ?_
 rintro e w3 ⟨rfl, qw3⟩
 replace ro := ro.dn qw3
 replace rf := rf.dn qw3
 have uw3 := uw2.trans qw3
 clear qw3 uw2
 go_wp2_with fail
 refine (GO.out _ _ _ _ ro rf).mono ?_
 rintro e w4 ⟨rfl, qw4⟩
 replace ro := ro.dn qw4
 replace rf := rf.dn qw4
 have uw4 := uw3.trans qw4
 clear qw4 uw3
 go_wp2_with fail
 refine (HK.out _ uw4).mono ?_
 rintro e w5 ⟨rfl, qw5⟩
 replace ro := ro.dn qw5
 replace rf := rf.dn qw5
 have uw5 := uw4.trans qw5
 clear qw5 uw4
 go_wp2_with fail
 refine (FK.out _ uw5).mono ?_
 rintro e w6 ⟨rfl, qw6⟩
 replace ro := ro.dn qw6
 replace rf := rf.dn qw6
 have uw6 := uw5.trans qw6
 clear qw6 uw5
 go_wp2_with fail
 refine (HH.out _ uw6).mono ?_
 rintro e w7 ⟨rfl, qw7⟩
 replace ro := ro.dn qw7
 replace rf := rf.dn qw7
 have uw7 := uw6.trans qw7
 clear qw7 uw6
 go_wp2_with fail
 have HC2 := Lib.hid (HCS.out.dn uw7)
 have HU := Lib.hid uw7
 have HLD := Lib.hid (fun W (q : Dn w7 W) => Or.inl (b := Value.slice (some ⟨g, o + m * 4, none⟩) (n - m) (ca - m) = .slice none 0 0 ∧ L.drop m = []) (lsW_drop (cap := ca - m) (m := m) (HC2.out.dn q) HLN.out))
 have HLT := Lib.hid (fun W (q : Dn w7 W) => Or.inl (b := Value.slice (some ⟨g, o, none⟩) m ca = .slice none 0 0 ∧ L.take m = []) (lsW_take (cap := ca) (m := m) (HC2.out.dn q) HLN.out e12))
 have HRO := Lib.hid ro
 have HRF := Lib.hid rf
 clear ro rf
 have e21 : decide (0 < n) = true := by simp; omega
 rw [hm]
 simp only [e21]
 clear hm
 refine region_inv (fun A l a' w' => ∃ (b0 b1 b2 b3 b4 b5 b6 b7 b8 b9 b10 b11 b12 b13 : Bool) (x65 x66 x67 x68 x69 x70 x71 x72 x73 x64 x74 x75 x13 x14 : Value), l = #[b0, b1, b2, b3, b4, b5, b6, b7, b8, b9, b10, b11, b12, b13] ∧ a' = ((((((((((((((A.put (some 65) x65).put (some 66) x66).put (some 67) x67).put (some 68) x68).put (some 69) x69).put (some 70) x70).put (some 71) x71).put (some 72) x72).put (some 73) x73).put (some 64) x64).put (some 74) x74).put (some 75) x75).put (some 13) x13).put (some 14) x14) ∧ Dn w7 w' ∧ (b0 = true → x65 = .slice (some ⟨g, o, none⟩) n ca) ∧ (b1 = true → x66 = .int .i64 m) ∧ (b2 = true → x67 = .slice (some ⟨g, o + m * 4, none⟩) (n - m) (ca - m)) ∧ (b3 = true → b7 = false → OwnQ w' w7.heap.size x68 (L.drop m)) ∧ (b4 = true → x69 = .slice (some ⟨g, o, none⟩) n ca) ∧ (b5 = true → x70 = .int .i64 m) ∧ (b6 = true → x71 = .slice (some ⟨g, o, none⟩) m ca) ∧ (b7 = true → SlR w' x72 T) ∧ (b8 = true → TuR w' x73 R) ∧ (b9 = true → TuR w' x64 R) ∧ (b10 = true → SlE w' x74 R) ∧ (b11 = true → x75 = .int .i64 0) ∧ (b12 = true → SlE w' x13 R) ∧ (b13 = true → x14 = .int .i64 0) ∧ (b7 = true → b3 = true) ∧ (b8 = true → b7 = true) ∧ (b9 = true → b8 = true) ∧ (b10 = true → b9 = true) ∧ (b12 = true → b10 = true)) (by kernel_rfl) ?_ ?_ ?_
 · exact ⟨false, false, false, false, false, false, false, false, false, false, false, false, false, false, undef, undef, undef, undef, undef, undef, undef, undef, undef, undef, undef, undef, undef, undef, rfl, by simp only [Act.put, pL], (Dn.refl _).drew, (fun h => by cases h), (fun h => by cases h), (fun h => by cases h), (fun h => by cases h), (fun h => by cases h), (fun h => by cases h), (fun h => by cases h), (fun h => by cases h), (fun h => by cases h), (fun h => by cases h), (fun h => by cases h), (fun h => by cases h), (fun h => by cases h), (fun h => by cases h), (fun h => by cases h), (fun h => by cases h), (fun h => by cases h), (fun h => by cases h), (fun h => by cases h)⟩
 · rintro l a' w' i ⟨b0, b1, b2, b3, b4, b5, b6, b7, b8, b9, b10, b11, b12, b13, x65, x66, x67, x68, x69, x70, x71, x72, x73, x64, x74, x75, x13, x14, rfl, rfl, q, hv0, hv1, hv2, hv3, hv4, hv5, hv6, hv7, hv8, hv9, hv10, hv11, hv12, hv13, ho7, ho8, ho9, ho10, ho12⟩ hun hdep hi
   simp only [Act.put, pL]
   have hi' : i < 14 := hi
   rcases (show i = 0 ∨ i = 1 ∨ i = 2 ∨ i = 3 ∨ i = 4 ∨ i = 5 ∨ i = 6 ∨ i = 7 ∨ i = 8 ∨ i = 9 ∨ i = 10 ∨ i = 11 ∨ i = 12 ∨ i = 13 by omega) with rfl | rfl | rfl | rfl | rfl | rfl | rfl | rfl | rfl | rfl | rfl | rfl | rfl | rfl
   ·
    have f0 : b0 = false := by simpa using hun
    subst f0
    refine wpOp_step rfl (fun K hK => ?_)
    replace hK := Lib.hid hK
    go_simp
    exact hK.out _ _ ⟨true, b1, b2, b3, b4, b5, b6, b7, b8, b9, b10, b11, b12, b13, .slice (some ⟨g, o, none⟩) n ca, x66, x67, x68, x69, x70, x71, x72, x73, x64, x74, x75, x13, x14, rfl, by first | (simp only [Act.put, pL]; done) | rfl, q, fun _ => rfl, hv1, hv2, hv3, hv4, hv5, hv6, hv7, hv8, hv9, hv10, hv11, hv12, hv13, ho7, ho8, ho9, ho10, ho12⟩
   ·
    have f1 : b1 = false := by simpa using hun
    subst f1
    refine wpOp_step rfl (fun K hK => ?_)
    replace hK := Lib.hid hK
    go_simp
    exact hK.out _ _ ⟨b0, true, b2, b3, b4, b5, b6, b7, b8, b9, b10, b11, b12, b13, x65, .int .i64 m, x67, x68, x69, x70, x71, x72, x73, x64, x74, x75, x13, x14, rfl, by first | (simp only [Act.put, pL]; done) | rfl, q, hv0, fun _ => rfl, hv2, hv3, hv4, hv5, hv6, hv7, hv8, hv9, hv10, hv11, hv12, hv13, ho7, ho8, ho9, ho10, ho12⟩
   ·
    have e0 : b0 = true := hdep _ rfl ⟨0, .data⟩ (by simp) rfl
    have e1 : b1 = true := hdep _ rfl ⟨1, .data⟩ (by simp) rfl
    have f2 : b2 = false := by simpa using hun
    subst f2 e0 e1
    obtain rfl := hv0 rfl
    obtain rfl := hv1 rfl
    refine wpOp_step rfl (fun K hK => ?_)
    replace hK := Lib.hid hK
    go_simp
    exact hK.out _ _ ⟨true, true, true, b3, b4, b5, b6, b7, b8, b9, b10, b11, b12, b13, .slice (some ⟨g, o, none⟩) n ca, .int .i64 m, .slice (some ⟨g, o + m * 4, none⟩) (n - m) (ca - m), x68, x69, x70, x71, x72, x73, x64, x74, x75, x13, x14, rfl, by first | (simp only [Act.put, pL]; done) | rfl, q, fun _ => rfl, fun _ => rfl, fun _ => rfl, hv3, hv4, hv5, hv6, hv7, hv8, hv9, hv10, hv11, hv12, hv13, ho7, ho8, ho9, ho10, ho12⟩
   ·
    have e2 : b2 = true := hdep _ rfl ⟨2, .data⟩ (by simp) rfl
    have f3 : b3 = false := by simpa using hun
    subst f3 e2
    obtain rfl := hv2 rfl
    refine wpOp_step rfl (fun K hK => ?_)
    replace hK := Lib.hid hK
    refine step_catW (by rfl) _ _ (by rfl) w' w7.heap.size (.slice none 0 0) [] (.slice (some ⟨g, o + m * 4, none⟩) (n - m) (ca - m)) (L.drop m) (by rfl) (OwnQ.nil _ _) (by rfl) (HLD.out _ q) (by have := HLN.out; simp <;> omega) q.size ?_
    intro v3 wa own3 hq3
    exact hK.out _ _ ⟨b0, b1, true, true, b4, b5, b6, b7, b8, b9, b10, b11, b12, b13, x65, x66, .slice (some ⟨g, o + m * 4, none⟩) (n - m) (ca - m), v3, x69, x70, x71, x72, x73, x64, x74, x75, x13, x14, rfl, by first | (simp only [Act.put, pL]; done) | rfl, hq3 _ q (Nat.le_refl _), hv0, hv1, fun _ => rfl, fun _ _ => own3, hv4, hv5, hv6, fun h => absurd (ho7 h) (by simp), fun h => absurd (ho7 (ho8 h)) (by simp), fun h => absurd (ho7 (ho8 (ho9 h))) (by simp), fun h => absurd (ho7 (ho8 (ho9 (ho10 h)))) (by simp), hv11, fun h => absurd (ho7 (ho8 (ho9 (ho10 (ho12 h))))) (by simp), hv13, fun _ => rfl, ho8, ho9, ho10, ho12⟩
   ·
    have f4 : b4 = false := by simpa using hun
    subst f4
    refine wpOp_step rfl (fun K hK => ?_)
    replace hK := Lib.hid hK
    go_simp
    exact hK.out _ _ ⟨b0, b1, b2, b3, true, b5, b6, b7, b8, b9, b10, b11, b12, b13, x65, x66, x67, x68, .slice (some ⟨g, o, none⟩) n ca, x70, x71, x72, x73, x64, x74, x75, x13, x14, rfl, by first | (simp only [Act.put, pL]; done) | rfl, q, hv0, hv1, hv2, hv3, fun _ => rfl, hv5, hv6, hv7, hv8, hv9, hv10, hv11, hv12, hv13, ho7, ho8, ho9, ho10, ho12⟩
   ·
    have f5 : b5 = false := by simpa using hun
    subst f5
    refine wpOp_step rfl (fun K hK => ?_)
    replace hK := Lib.hid hK
    go_simp
    exact hK.out _ _ ⟨b0, b1, b2, b3, b4, true, b6, b7, b8, b9, b10, b11, b12, b13, x65, x66, x67, x68, x69, .int .i64 m, x71, x72, x73, x64, x74, x75, x13, x14, rfl, by first | (simp only [Act.put, pL]; done) | rfl, q, hv0, hv1, hv2, hv3, hv4, fun _ => rfl, hv6, hv7, hv8, hv9, hv10, hv11, hv12, hv13, ho7, ho8, ho9, ho10, ho12⟩
   ·
    have e4 : b4 = true := hdep _ rfl ⟨4, .data⟩ (by simp) rfl
    have e5 : b5 = true := hdep _ rfl ⟨5, .data⟩ (by simp) rfl
    have f6 : b6 = false := by simpa using hun
    subst f6 e4 e5
    obtain rfl := hv4 rfl
    obtain rfl := hv5 rfl
    refine wpOp_step rfl (fun K hK => ?_)
    replace hK := Lib.hid hK
    go_simp
    exact hK.out _ _ ⟨b0, b1, b2, b3, true, true, true, b7, b8, b9, b10, b11, b12, b13, x65, x66, x67, x68, .slice (some ⟨g, o, none⟩) n ca, .int .i64 m, .slice (some ⟨g, o, none⟩) m ca, x72, x73, x64, x74, x75, x13, x14, rfl, by first | (simp only [Act.put, pL]; done) | rfl, q, hv0, hv1, hv2, hv3, fun _ => rfl, fun _ => rfl, fun _ => rfl, hv7, hv8, hv9, hv10, hv11, hv12, hv13, ho7, ho8, ho9, ho10, ho12⟩
   ·
    have e3 : b3 = true := hdep _ rfl ⟨3, .data⟩ (by simp) rfl
    have e6 : b6 = true := hdep _ rfl ⟨6, .data⟩ (by simp) rfl
    have f7 : b7 = false := by simpa using hun
    subst f7 e3 e6
    obtain rfl := hv6 rfl
    refine wpOp_step rfl (fun K hK => ?_)
    replace hK := Lib.hid hK
    have k3 := hv3 rfl rfl
    refine step_catW (by rfl) _ _ (by rfl) w' w7.heap.size x68 (L.drop m) (.slice (some ⟨g, o, none⟩) m ca) (L.take m) (by rfl) k3 (by rfl) (HLT.out _ q) (by have := HLN.out; simp <;> omega) q.size ?_
    intro v7 wa own7 hq7
    exact hK.out _ _ ⟨b0, b1, b2, true, b4, b5, true, true, b8, b9, b10, b11, b12, b13, x65, x66, x67, x68, x69, x70, .slice (some ⟨g, o, none⟩) m ca, v7, x73, x64, x74, x75, x13, x14, rfl, by first | (simp only [Act.put, pL]; done) | rfl, hq7 _ q (Nat.le_refl _), hv0, hv1, hv2, (fun _ h => by cases h), hv4, hv5, fun _ => rfl, fun _ => (show OwnQ wa _ v7 T by rw [HT.out]; exact own7).slR, fun h => absurd (ho8 h) (by simp), fun h => absurd (ho8 (ho9 h)) (by simp), fun h => absurd (ho8 (ho9 (ho10 h))) (by simp), hv11, fun h => absurd (ho8 (ho9 (ho10 (ho12 h)))) (by simp), hv13, fun _ => rfl, fun _ => rfl, ho9, ho10, ho12⟩
   ·
    have e7 : b7 = true := hdep _ rfl ⟨7, .data⟩ (by simp) rfl
    have f8 : b8 = false := by simpa using hun
    subst f8 e7
    obtain ⟨p7, c7, rfl, r7⟩ := hv7 rfl
    refine wpOp_step rfl (fun K hK => ?_)
    replace hK := Lib.hid hK
    go_simp
    go_at_call 10
    refine (HTU.out _ _ _ r7.row).mono ?_
    rintro e wa ⟨p8, rfl, r8, qa⟩
    try go_wp2_with fail
    exact hK.out _ _ ⟨b0, b1, b2, b3, b4, b5, b6, true, true, b9, b10, b11, b12, b13, x65, x66, x67, x68, x69, x70, x71, .slice p7 T.length c7, .tuple #[.slice p8 R.length R.length, .int .i64 0], x64, x74, x75, x13, x14, rfl, by first | (simp only [Act.put, pL]; done) | rfl, q.trans qa, hv0, hv1, hv2, fun h h2 => (hv3 h h2).dn qa, hv4, hv5, hv6, fun _ => ⟨p7, c7, rfl, r7.dn qa⟩, fun _ => ⟨p8, rfl, r8⟩, fun h => (hv9 h).dn qa, fun h => (hv10 h).dn qa, hv11, fun h => (hv12 h).dn qa, hv13, (fun _ => by first | exact ho7 rfl | exact ho7 trivial), fun _ => rfl, fun _ => rfl, ho10, ho12⟩
   ·
    have e8 : b8 = true := hdep _ rfl ⟨8, .data⟩ (by simp) rfl
    have f9 : b9 = false := by simpa using hun
    subst f9 e8
    obtain ⟨p8, rfl, r8⟩ := hv8 rfl
    refine wpOp_step rfl (fun K hK => ?_)
    replace hK := Lib.hid hK
    go_simp
    exact hK.out _ _ ⟨b0, b1, b2, b3, b4, b5, b6, b7, true, true, b10, b11, b12, b13, x65, x66, x67, x68, x69, x70, x71, x72, .tuple #[.slice p8 R.length R.length, .int .i64 0], .tuple #[.slice p8 R.length R.length, .int .i64 0], x74, x75, x13, x14, rfl, by first | (simp only [Act.put, pL]; done) | rfl, q, hv0, hv1, hv2, hv3, hv4, hv5, hv6, hv7, fun _ => ⟨p8, rfl, r8⟩, fun _ => ⟨p8, rfl, r8⟩, hv10, hv11, hv12, hv13, ho7, (fun _ => by first | exact ho8 rfl | exact ho8 trivial), fun _ => rfl, fun _ => rfl, ho12⟩
   ·
    have e9 : b9 = true := hdep _ rfl ⟨9, .data⟩ (by simp) rfl
    have f10 : b10 = false := by simpa using hun
    subst f10 e9
    obtain ⟨p9, rfl, r9⟩ := hv9 rfl
    refine wpOp_step rfl (fun K hK => ?_)
    replace hK := Lib.hid hK
    go_simp
    exact hK.out _ _ ⟨b0, b1, b2, b3, b4, b5, b6, b7, b8, true, true, b11, b12, b13, x65, x66, x67, x68, x69, x70, x71, x72, x73, .tuple #[.slice p9 R.length R.length, .int .i64 0], .slice p9 R.length R.length, x75, x13, x14, rfl, by first | (simp only [Act.put, pL]; done) | rfl, q, hv0, hv1, hv2, hv3, hv4, hv5, hv6, hv7, hv8, fun _ => ⟨p9, rfl, r9⟩, fun _ => ⟨p9, rfl, r9⟩, hv11, hv12, hv13, ho7, ho8, (fun _ => by first | exact ho9 rfl | exact ho9 trivial), fun _ => rfl, fun _ => rfl⟩
   ·
    have e9 : b9 = true := hdep _ rfl ⟨9, .data⟩ (by simp) rfl
    have f11 : b11 = false := by simpa using hun
    subst f11 e9
    obtain ⟨p9, rfl, r9⟩ := hv9 rfl
    refine wpOp_step rfl (fun K hK => ?_)
    replace hK := Lib.hid hK
    go_simp
    exact hK.out _ _ ⟨b0, b1, b2, b3, b4, b5, b6, b7, b8, true, b10, true, b12, b13, x65, x66, x67, x68, x69, x70, x71, x72, x73, .tuple #[.slice p9 R.length R.length, .int .i64 0], x74, .int .i64 0, x13, x14, rfl, by first | (simp only [Act.put, pL]; done) | rfl, q, hv0, hv1, hv2, hv3, hv4, hv5, hv6, hv7, hv8, fun _ => ⟨p9, rfl, r9⟩, hv10, fun _ => rfl, hv12, hv13, ho7, ho8, (fun _ => by first | exact ho9 rfl | exact ho9 trivial), fun _ => rfl, ho12⟩
   ·
    have e10 : b10 = true := hdep _ rfl ⟨10, .data⟩ (by simp) rfl
    have f12 : b12 = false := by simpa using hun
    subst f12 e10
    obtain ⟨p10, rfl, r10⟩ := hv10 rfl
    refine wpOp_step rfl (fun K hK => ?_)
    replace hK := Lib.hid hK
    go_simp
    exact hK.out _ _ ⟨b0, b1, b2, b3, b4, b5, b6, b7, b8, b9, true, b11, true, b13, x65, x66, x67, x68, x69, x70, x71, x72, x73, x64, .slice p10 R.length R.length, x75, .slice p10 R.length R.length, x14, rfl, by first | (simp only [Act.put, pL]; done) | rfl, q, hv0, hv1, hv2, hv3, hv4, hv5, hv6, hv7, hv8, hv9, fun _ => ⟨p10, rfl, r10⟩, hv11, fun _ => ⟨p10, rfl, r10⟩, hv13, ho7, ho8, ho9, (fun _ => by first | exact ho10 rfl | exact ho10 trivial), fun _ => rfl⟩
   ·
    have e11 : b11 = true := hdep _ rfl ⟨11, .data⟩ (by simp) rfl
    have f13 : b13 = false := by simpa using hun
    subst f13 e11
    obtain rfl := hv11 rfl
    refine wpOp_step rfl (fun K hK => ?_)
    replace hK := Lib.hid hK
    go_simp
    exact hK.out _ _ ⟨b0, b1, b2, b3, b4, b5, b6, b7, b8, b9, b10, true, b12, true, x65, x66, x67, x68, x69, x70, x71, x72, x73, x64, x74, .int .i64 0, x13, .int .i64 0, rfl, by first | (simp only [Act.put, pL]; done) | rfl, q, hv0, hv1, hv2, hv3, hv4, hv5, hv6, hv7, hv8, hv9, hv10, fun _ => rfl, hv12, fun _ => rfl, ho7, ho8, ho9, ho10, ho12⟩
 · rintro l a' W ⟨b0, b1, b2, b3, b4, b5, b6, b7, b8, b9, b10, b11, b12, b13, x65, x66, x67, x68, x69, x70, x71, x72, x73, x64, x74, x75, x13, x14, rfl, rfl, qW, hv0, hv1, hv2, hv3, hv4, hv5, hv6, hv7, hv8, hv9, hv10, hv11, hv12, hv13, ho7, ho8, ho9, ho10, ho12⟩ hall
   obtain rfl : b0 = true := by
    cases b0 with
    | true => rfl
    | false => exact absurd (by intro e he hb; simp at he <;> (repeat' (rcases he with rfl | he)) <;> first | rfl | exact absurd hb (by decide)) (hall 0 _ rfl rfl)
   obtain rfl : b1 = true := by
    cases b1 with
    | true => rfl
    | false => exact absurd (by intro e he hb; simp at he <;> (repeat' (rcases he with rfl | he)) <;> first | rfl | exact absurd hb (by decide)) (hall 1 _ rfl rfl)
   obtain rfl : b2 = true := by
    cases b2 with
    | true => rfl
    | false => exact absurd (by intro e he hb; simp at he <;> (repeat' (rcases he with rfl | he)) <;> first | rfl | exact absurd hb (by decide)) (hall 2 _ rfl rfl)
   obtain rfl : b3 = true := by
    cases b3 with
    | true => rfl
    | false => exact absurd (by intro e he hb; simp at he <;> (repeat' (rcases he with rfl | he)) <;> first | rfl | exact absurd hb (by decide)) (hall 3 _ rfl rfl)
   obtain rfl : b4 = true := by
    cases b4 with
    | true => rfl
    | false => exact absurd (by intro e he hb; simp at he <;> (repeat' (rcases he with rfl | he)) <;> first | rfl | exact absurd hb (by decide)) (hall 4 _ rfl rfl)
   obtain rfl : b5 = true := by
    cases b5 with
    | true => rfl
    | false => exact absurd (by intro e he hb; simp at he <;> (repeat' (rcases he with rfl | he)) <;> first | rfl | exact absurd hb (by decide)) (hall 5 _ rfl rfl)
   obtain rfl : b6 = true := by
    cases b6 with
    | true => rfl
    | false => exact absurd (by intro e he hb; simp at he <;> (repeat' (rcases he with rfl | he)) <;> first | rfl | exact absurd hb (by decide)) (hall 6 _ rfl rfl)
   obtain rfl : b7 = true := by
    cases b7 with
    | true => rfl
    | false => exact absurd (by intro e he hb; simp at he <;> (repeat' (rcases he with rfl | he)) <;> first | rfl | exact absurd hb (by decide)) (hall 7 _ rfl rfl)
   obtain rfl : b8 = true := by
    cases b8 with
    | true => rfl
    | false => exact absurd (by intro e he hb; simp at he <;> (repeat' (rcases he with rfl | he)) <;> first | rfl | exact absurd hb (by decide)) (hall 8 _ rfl rfl)
   obtain rfl : b9 = true := by
    cases b9 with
    | true => rfl
    | false => exact absurd (by intro e he hb; simp at he <;> (repeat' (rcases he with rfl | he)) <;> first | rfl | exact absurd hb (by decide)) (hall 9 _ rfl rfl)
   obtain rfl : b10 = true := by
    cases b10 with
    | true => rfl
    | false => exact absurd (by intro e he hb; simp at he <;> (repeat' (rcases he with rfl | he)) <;> first | rfl | exact absurd hb (by decide)) (hall 10 _ rfl rfl)
   obtain rfl : b11 = true := by
    cases b11 with
    | true => rfl
    | false => exact absurd (by intro e he hb; simp at he <;> (repeat' (rcases he with rfl | he)) <;> first | rfl | exact absurd hb (by decide)) (hall 11 _ rfl rfl)
   obtain rfl : b12 = true := by
    cases b12 with
    | true => rfl
    | false => exact absurd (by intro e he hb; simp at he <;> (repeat' (rcases he with rfl | he)) <;> first | rfl | exact absurd hb (by decide)) (hall 12 _ rfl rfl)
   obtain rfl : b13 = true := by
    cases b13 with
    | true => rfl
    | false => exact absurd (by intro e he hb; simp at he <;> (repeat' (rcases he with rfl | he)) <;> first | rfl | exact absurd hb (by decide)) (hall 13 _ rfl rfl)
   obtain rfl := hv0 rfl
   obtain rfl := hv1 rfl
   obtain rfl := hv2 rfl
   obtain rfl := hv4 rfl
   obtain rfl := hv5 rfl
   obtain rfl := hv6 rfl
   obtain rfl := hv11 rfl
   obtain rfl := hv13 rfl
   obtain ⟨p12, rfl, r12⟩ := hv12 rfl
   clear hall hv3 hv7 hv8 hv9 hv10 hv12 ho7 ho8 ho9 ho10 ho12
   have uW := HU.out.trans qW
   have rf := HRF.out.dn qW
   have ro := HRO.out.dn qW
   simp only [Act.put, pL]
   go_wp2_with fail
   refine (GO.out _ _ _ _ r12 rf).mono ?_
   rintro e w8 ⟨rfl, qw8⟩
   replace ro := ro.dn qw8
   replace rf := rf.dn qw8
   replace r12 := r12.dn qw8
   have uw8 := uW.trans qw8
   clear qw8 uW
   go_wp2_with fail
   refine (HCK.out _ _ ro).mono ?_
   rintro e w9 ⟨rfl, qw9⟩
   replace ro := ro.dn qw9
   replace rf := rf.dn qw9
   replace r12 := r12.dn qw9
   have uw9 := uw8.trans qw9
   clear qw9 uw8
   go_wp2_with fail
   refine (HHR.out _ _ ro).mono ?_
   rintro e w10 ⟨rfl, qw10⟩
   replace ro := ro.dn qw10
   replace rf := rf.dn qw10
   replace r12 := r12.dn qw10
   have uw10 := uw9.trans qw10
   clear qw10 uw9
   go_wp2_with fail
   refine (lives10 _ (hE.dn uw10)).mono ?_
   rintro e w11 ⟨rfl, qw11⟩
   replace ro := ro.dn qw11
   replace rf := rf.dn qw11
   replace r12 := r12.dn qw11
   have uw11 := uw10.trans qw11
   clear qw11 uw10
   go_wp2_with fail
   go_ret
   exact ⟨rfl, uw11⟩
theorem of_nil0 (p : Option Addr) (T : List Rq) (HT : Hid (T = [] ++ [])) (kk day ck : Int) (R : List Rq) (w : World) (HO : Hid (∀ W, Dn w W → Calls Tryz.prog 10 #[.slice p 0 0] W fun ro w' => ∃ p', ro = .returned (.tuple #[.slice p' R.length R.length, .int .i64 0]) ∧ Row w' p' R ∧ Dn W w')) (FO : Hid (∀ W, Dn w W → Calls Tryz.prog 11 #[.slice p 0 0] W fun ro w' => ∃ p' cap', ro = .returned (.tuple #[.slice p' R.length cap', .int .i64 0]) ∧ Row w' p' R ∧ Dn W w')) (FH : Hid (∀ W, Dn w W → Calls Tryz.prog 12 #[.slice p 0 0, .int .i64 day] W fun ro w' => ro = .returned (.int .i64 0) ∧ Dn W w')) (HK : Hid (∀ W, Dn w W → Calls Tryz.prog 14 #[.slice p 0 0] W fun ro w' => ro = .returned (.int .i64 ck) ∧ Dn W w')) (FK : Hid (∀ W, Dn w W → Calls Tryz.prog 15 #[.slice p 0 0] W fun ro w' => ro = .returned (.int .i64 ck) ∧ Dn W w')) (HH : Hid (∀ W, Dn w W → Calls Tryz.prog 16 #[.slice p 0 0, .int .i64 day] W fun ro w' => ro = .returned (.bool false) ∧ Dn W w')) (GO : Hid (∀ W p1 p2 c2, Row W p1 R → Row W p2 R → Calls Tryz.prog 13 #[.slice p1 R.length R.length, .int .i64 0, .slice p2 R.length c2, .int .i64 0] W fun ro w' => ro = .returned (.bool true) ∧ Dn W w')) (HTU : Hid (∀ W p1 c1, Row W p1 T → Calls Tryz.prog 10 #[.slice p1 T.length c1] W fun ro w' => ∃ p', ro = .returned (.tuple #[.slice p' R.length R.length, .int .i64 0]) ∧ Row w' p' R ∧ Dn W w')) (HCK : Hid (∀ W p1, Row W p1 R → Calls Tryz.prog 14 #[.slice p1 R.length R.length] W fun ro w' => ro = .returned (.int .i64 0) ∧ Dn W w')) (HHR : Hid (∀ W p1, Row W p1 R → Calls Tryz.prog 16 #[.slice p1 R.length R.length, .int .i64 day] W fun ro w' => ro = .returned (.bool false) ∧ Dn W w')) (hE : EnvR w) :
   Calls Tryz.prog 3 #[.slice p 0 0, .int .u8 kk, .int .i64 day] w fun ro w' => ro = .returned (.bool true) ∧ Dn w w' := by
 have e3 : (ck != ck) = false := by simp
 go_enter Tryz.func3, Tryz.ntmps3
 go_wp2_with fail
 refine (HO.out _ (Dn.refl _)).mono ?_
 rintro e w1 ⟨po, rfl, ro, qw1⟩
 have uw1 := qw1
 clear qw1
 go_wp2_with fail
 refine (FO.out _ uw1).mono ?_
 rintro e w2 ⟨pf, cf, rfl, rf, qw2⟩
 replace ro := ro.dn qw2
 have uw2 := uw1.trans qw2
 clear qw2 uw1
 go_wp2_with fail
 refine (FH.out _ uw2).mono ?_
 rintro e w3 ⟨rfl, qw3⟩
 replace ro := ro.dn qw3
 replace rf := rf.dn qw3
 have uw3 := uw2.trans qw3
 clear qw3 uw2
 go_wp2_with fail
 refine (GO.out _ _ _ _ ro rf).mono ?_
 rintro e w4 ⟨rfl, qw4⟩
 replace ro := ro.dn qw4
 replace rf := rf.dn qw4
 have uw4 := uw3.trans qw4
 clear qw4 uw3
 go_wp2_with fail
 refine (HK.out _ uw4).mono ?_
 rintro e w5 ⟨rfl, qw5⟩
 replace ro := ro.dn qw5
 replace rf := rf.dn qw5
 have uw5 := uw4.trans qw5
 clear qw5 uw4
 go_wp2_with fail
 refine (FK.out _ uw5).mono ?_
 rintro e w6 ⟨rfl, qw6⟩
 replace ro := ro.dn qw6
 replace rf := rf.dn qw6
 have uw6 := uw5.trans qw6
 clear qw6 uw5
 go_wp2_with fail
 refine (HH.out _ uw6).mono ?_
 rintro e w7 ⟨rfl, qw7⟩
 replace ro := ro.dn qw7
 replace rf := rf.dn qw7
 have uw7 := uw6.trans qw7
 clear qw7 uw6
 go_wp2_with fail
 have HU := Lib.hid uw7
 have HRO := Lib.hid ro
 have HRF := Lib.hid rf
 clear ro rf
 refine region_inv (fun A l a' w' => ∃ (b0 b1 b2 b3 b4 b5 b6 b7 b8 b9 b10 b11 b12 b13 : Bool) (x65 x66 x67 x68 x69 x70 x71 x72 x73 x64 x74 x75 x13 x14 : Value), l = #[b0, b1, b2, b3, b4, b5, b6, b7, b8, b9, b10, b11, b12, b13] ∧ a' = ((((((((((((((A.put (some 65) x65).put (some 66) x66).put (some 67) x67).put (some 68) x68).put (some 69) x69).put (some 70) x70).put (some 71) x71).put (some 72) x72).put (some 73) x73).put (some 64) x64).put (some 74) x74).put (some 75) x75).put (some 13) x13).put (some 14) x14) ∧ Dn w7 w' ∧ (b0 = true → x65 = .slice p 0 0) ∧ (b1 = true → x66 = .int .i64 0) ∧ (b2 = true → x67 = .slice p 0 0) ∧ (b3 = true → b7 = false → OwnQ w' w7.heap.size x68 ([] : List Rq)) ∧ (b4 = true → x69 = .slice p 0 0) ∧ (b5 = true → x70 = .int .i64 0) ∧ (b6 = true → x71 = .slice p 0 0) ∧ (b7 = true → SlR w' x72 T) ∧ (b8 = true → TuR w' x73 R) ∧ (b9 = true → TuR w' x64 R) ∧ (b10 = true → SlE w' x74 R) ∧ (b11 = true → x75 = .int .i64 0) ∧ (b12 = true → SlE w' x13 R) ∧ (b13 = true → x14 = .int .i64 0) ∧ (b7 = true → b3 = true) ∧ (b8 = true → b7 = true) ∧ (b9 = true → b8 = true) ∧ (b10 = true → b9 = true) ∧ (b12 = true → b10 = true)) (by kernel_rfl) ?_ ?_ ?_
 · exact ⟨false, false, false, false, false, false, false, false, false, false, false, false, false, false, undef, undef, undef, undef, undef, undef, undef, undef, undef, undef, undef, undef, undef, undef, rfl, by simp only [Act.put, pL], (Dn.refl _).drew, (fun h => by cases h), (fun h => by cases h), (fun h => by cases h), (fun h => by cases h), (fun h => by cases h), (fun h => by cases h), (fun h => by cases h), (fun h => by cases h), (fun h => by cases h), (fun h => by cases h), (fun h => by cases h), (fun h => by cases h), (fun h => by cases h), (fun h => by cases h), (fun h => by cases h), (fun h => by cases h), (fun h => by cases h), (fun h => by cases h), (fun h => by cases h)⟩
 · rintro l a' w' i ⟨b0, b1, b2, b3, b4, b5, b6, b7, b8, b9, b10, b11, b12, b13, x65, x66, x67, x68, x69, x70, x71, x72, x73, x64, x74, x75, x13, x14, rfl, rfl, q, hv0, hv1, hv2, hv3, hv4, hv5, hv6, hv7, hv8, hv9, hv10, hv11, hv12, hv13, ho7, ho8, ho9, ho10, ho12⟩ hun hdep hi
   simp only [Act.put, pL]
   have hi' : i < 14 := hi
   rcases (show i = 0 ∨ i = 1 ∨ i = 2 ∨ i = 3 ∨ i = 4 ∨ i = 5 ∨ i = 6 ∨ i = 7 ∨ i = 8 ∨ i = 9 ∨ i = 10 ∨ i = 11 ∨ i = 12 ∨ i = 13 by omega) with rfl | rfl | rfl | rfl | rfl | rfl | rfl | rfl | rfl | rfl | rfl | rfl | rfl | rfl
   ·
    have f0 : b0 = false := by simpa using hun
    subst f0
    refine wpOp_step rfl (fun K hK => ?_)
    replace hK := Lib.hid hK
    go_simp
    exact hK.out _ _ ⟨true, b1, b2, b3, b4, b5, b6, b7, b8, b9, b10, b11, b12, b13, .slice p 0 0, x66, x67, x68, x69, x70, x71, x72, x73, x64, x74, x75, x13, x14, rfl, by first | (simp only [Act.put, pL]; done) | rfl, q, fun _ => rfl, hv1, hv2, hv3, hv4, hv5, hv6, hv7, hv8, hv9, hv10, hv11, hv12, hv13, ho7, ho8, ho9, ho10, ho12⟩
   ·
    have f1 : b1 = false := by simpa using hun
    subst f1
    refine wpOp_step rfl (fun K hK => ?_)
    replace hK := Lib.hid hK
    go_simp
    exact hK.out _ _ ⟨b0, true, b2, b3, b4, b5, b6, b7, b8, b9, b10, b11, b12, b13, x65, .int .i64 0, x67, x68, x69, x70, x71, x72, x73, x64, x74, x75, x13, x14, rfl, by first | (simp only [Act.put, pL]; done) | rfl, q, hv0, fun _ => rfl, hv2, hv3, hv4, hv5, hv6, hv7, hv8, hv9, hv10, hv11, hv12, hv13, ho7, ho8, ho9, ho10, ho12⟩
   ·
    have e0 : b0 = true := hdep _ rfl ⟨0, .data⟩ (by simp) rfl
    have e1 : b1 = true := hdep _ rfl ⟨1, .data⟩ (by simp) rfl
    have f2 : b2 = false := by simpa using hun
    subst f2 e0 e1
    obtain rfl := hv0 rfl
    obtain rfl := hv1 rfl
    refine wpOp_step rfl (fun K hK => ?_)
    replace hK := Lib.hid hK
    go_simp
    exact hK.out _ _ ⟨true, true, true, b3, b4, b5, b6, b7, b8, b9, b10, b11, b12, b13, .slice p 0 0, .int .i64 0, .slice p 0 0, x68, x69, x70, x71, x72, x73, x64, x74, x75, x13, x14, rfl, by first | (simp only [Act.put, pL]; done) | rfl, q, fun _ => rfl, fun _ => rfl, fun _ => rfl, hv3, hv4, hv5, hv6, hv7, hv8, hv9, hv10, hv11, hv12, hv13, ho7, ho8, ho9, ho10, ho12⟩
   ·
    have e2 : b2 = true := hdep _ rfl ⟨2, .data⟩ (by simp) rfl
    have f3 : b3 = false := by simpa using hun
    subst f3 e2
    obtain rfl := hv2 rfl
    refine wpOp_step rfl (fun K hK => ?_)
    replace hK := Lib.hid hK
    refine step_catW (by rfl) _ _ (by rfl) w' w7.heap.size (.slice none 0 0) [] (.slice p 0 0) ([] : List Rq) (by rfl) (OwnQ.nil _ _) (by rfl) (lsV_nil _ _ _ (fun h => by first | rfl | cases h)) (by simp <;> omega) q.size ?_
    intro v3 wa own3 hq3
    exact hK.out _ _ ⟨b0, b1, true, true, b4, b5, b6, b7, b8, b9, b10, b11, b12, b13, x65, x66, .slice p 0 0, v3, x69, x70, x71, x72, x73, x64, x74, x75, x13, x14, rfl, by first | (simp only [Act.put, pL]; done) | rfl, hq3 _ q (Nat.le_refl _), hv0, hv1, fun _ => rfl, fun _ _ => own3, hv4, hv5, hv6, fun h => absurd (ho7 h) (by simp), fun h => absurd (ho7 (ho8 h)) (by simp), fun h => absurd (ho7 (ho8 (ho9 h))) (by simp), fun h => absurd (ho7 (ho8 (ho9 (ho10 h)))) (by simp), hv11, fun h => absurd (ho7 (ho8 (ho9 (ho10 (ho12 h))))) (by simp), hv13, fun _ => rfl, ho8, ho9, ho10, ho12⟩
   ·
    have f4 : b4 = false := by simpa using hun
    subst f4
    refine wpOp_step rfl (fun K hK => ?_)
    replace hK := Lib.hid hK
    go_simp
    exact hK.out _ _ ⟨b0, b1, b2, b3, true, b5, b6, b7, b8, b9, b10, b11, b12, b13, x65, x66, x67, x68, .slice p 0 0, x70, x71, x72, x73, x64, x74, x75, x13, x14, rfl, by first | (simp only [Act.put, pL]; done) | rfl, q, hv0, hv1, hv2, hv3, fun _ => rfl, hv5, hv6, hv7, hv8, hv9, hv10, hv11, hv12, hv13, ho7, ho8, ho9, ho10, ho12⟩
   ·
    have f5 : b5 = false := by simpa using hun
    subst f5
    refine wpOp_step rfl (fun K hK => ?_)
    replace hK := Lib.hid hK
    go_simp
    exact hK.out _ _ ⟨b0, b1, b2, b3, b4, true, b6, b7, b8, b9, b10, b11, b12, b13, x65, x66, x67, x68, x69, .int .i64 0, x71, x72, x73, x64, x74, x75, x13, x14, rfl, by first | (simp only [Act.put, pL]; done) | rfl, q, hv0, hv1, hv2, hv3, hv4, fun _ => rfl, hv6, hv7, hv8, hv9, hv10, hv11, hv12, hv13, ho7, ho8, ho9, ho10, ho12⟩
   ·
    have e4 : b4 = true := hdep _ rfl ⟨4, .data⟩ (by simp) rfl
    have e5 : b5 = true := hdep _ rfl ⟨5, .data⟩ (by simp) rfl
    have f6 : b6 = false := by simpa using hun
    subst f6 e4 e5
    obtain rfl := hv4 rfl
    obtain rfl := hv5 rfl
    refine wpOp_step rfl (fun K hK => ?_)
    replace hK := Lib.hid hK
    go_simp
    exact hK.out _ _ ⟨b0, b1, b2, b3, true, true, true, b7, b8, b9, b10, b11, b12, b13, x65, x66, x67, x68, .slice p 0 0, .int .i64 0, .slice p 0 0, x72, x73, x64, x74, x75, x13, x14, rfl, by first | (simp only [Act.put, pL]; done) | rfl, q, hv0, hv1, hv2, hv3, fun _ => rfl, fun _ => rfl, fun _ => rfl, hv7, hv8, hv9, hv10, hv11, hv12, hv13, ho7, ho8, ho9, ho10, ho12⟩
   ·
    have e3 : b3 = true := hdep _ rfl ⟨3, .data⟩ (by simp) rfl
    have e6 : b6 = true := hdep _ rfl ⟨6, .data⟩ (by simp) rfl
    have f7 : b7 = false := by simpa using hun
    subst f7 e3 e6
    obtain rfl := hv6 rfl
    refine wpOp_step rfl (fun K hK => ?_)
    replace hK := Lib.hid hK
    have k3 := hv3 rfl rfl
    refine step_catW (by rfl) _ _ (by rfl) w' w7.heap.size x68 ([] : List Rq) (.slice p 0 0) ([] : List Rq) (by rfl) k3 (by rfl) (lsV_nil _ _ _ (fun h => by first | rfl | cases h)) (by simp <;> omega) q.size ?_
    intro v7 wa own7 hq7
    exact hK.out _ _ ⟨b0, b1, b2, true, b4, b5, true, true, b8, b9, b10, b11, b12, b13, x65, x66, x67, x68, x69, x70, .slice p 0 0, v7, x73, x64, x74, x75, x13, x14, rfl, by first | (simp only [Act.put, pL]; done) | rfl, hq7 _ q (Nat.le_refl _), hv0, hv1, hv2, (fun _ h => by cases h), hv4, hv5, fun _ => rfl, fun _ => (show OwnQ wa _ v7 T by rw [HT.out]; exact own7).slR, fun h => absurd (ho8 h) (by simp), fun h => absurd (ho8 (ho9 h)) (by simp), fun h => absurd (ho8 (ho9 (ho10 h))) (by simp), hv11, fun h => absurd (ho8 (ho9 (ho10 (ho12 h)))) (by simp), hv13, fun _ => rfl, fun _ => rfl, ho9, ho10, ho12⟩
   ·
    have e7 : b7 = true := hdep _ rfl ⟨7, .data⟩ (by simp) rfl
    have f8 : b8 = false := by simpa using hun
    subst f8 e7
    obtain ⟨p7, c7, rfl, r7⟩ := hv7 rfl
    refine wpOp_step rfl (fun K hK => ?_)
    replace hK := Lib.hid hK
    go_simp
    go_at_call 10
    refine (HTU.out _ _ _ r7.row).mono ?_
    rintro e wa ⟨p8, rfl, r8, qa⟩
    try go_wp2_with fail
    exact hK.out _ _ ⟨b0, b1, b2, b3, b4, b5, b6, true, true, b9, b10, b11, b12, b13, x65, x66, x67, x68, x69, x70, x71, .slice p7 T.length c7, .tuple #[.slice p8 R.length R.length, .int .i64 0], x64, x74, x75, x13, x14, rfl, by first | (simp only [Act.put, pL]; done) | rfl, q.trans qa, hv0, hv1, hv2, fun h h2 => (hv3 h h2).dn qa, hv4, hv5, hv6, fun _ => ⟨p7, c7, rfl, r7.dn qa⟩, fun _ => ⟨p8, rfl, r8⟩, fun h => (hv9 h).dn qa, fun h => (hv10 h).dn qa, hv11, fun h => (hv12 h).dn qa, hv13, (fun _ => by first | exact ho7 rfl | exact ho7 trivial), fun _ => rfl, fun _ => rfl, ho10, ho12⟩
   ·
    have e8 : b8 = true := hdep _ rfl ⟨8, .data⟩ (by simp) rfl
    have f9 : b9 = false := by simpa using hun
    subst f9 e8
    obtain ⟨p8, rfl, r8⟩ := hv8 rfl
    refine wpOp_step rfl (fun K hK => ?_)
    replace hK := Lib.hid hK
    go_simp
    exact hK.out _ _ ⟨b0, b1, b2, b3, b4, b5, b6, b7, true, true, b10, b11, b12, b13, x65, x66, x67, x68, x69, x70, x71, x72, .tuple #[.slice p8 R.length R.length, .int .i64 0], .tuple #[.slice p8 R.length R.length, .int .i64 0], x74, x75, x13, x14, rfl, by first | (simp only [Act.put, pL]; done) | rfl, q, hv0, hv1, hv2, hv3, hv4, hv5, hv6, hv7, fun _ => ⟨p8, rfl, r8⟩, fun _ => ⟨p8, rfl, r8⟩, hv10, hv11, hv12, hv13, ho7, (fun _ => by first | exact ho8 rfl | exact ho8 trivial), fun _ => rfl, fun _ => rfl, ho12⟩
   ·
    have e9 : b9 = true := hdep _ rfl ⟨9, .data⟩ (by simp) rfl
    have f10 : b10 = false := by simpa using hun
    subst f10 e9
    obtain ⟨p9, rfl, r9⟩ := hv9 rfl
    refine wpOp_step rfl (fun K hK => ?_)
    replace hK := Lib.hid hK
    go_simp
    exact hK.out _ _ ⟨b0, b1, b2, b3, b4, b5, b6, b7, b8, true, true, b11, b12, b13, x65, x66, x67, x68, x69, x70, x71, x72, x73, .tuple #[.slice p9 R.length R.length, .int .i64 0], .slice p9 R.length R.length, x75, x13, x14, rfl, by first | (simp only [Act.put, pL]; done) | rfl, q, hv0, hv1, hv2, hv3, hv4, hv5, hv6, hv7, hv8, fun _ => ⟨p9, rfl, r9⟩, fun _ => ⟨p9, rfl, r9⟩, hv11, hv12, hv13, ho7, ho8, (fun _ => by first | exact ho9 rfl | exact ho9 trivial), fun _ => rfl, fun _ => rfl⟩
   ·
    have e9 : b9 = true := hdep _ rfl ⟨9, .data⟩ (by simp) rfl
    have f11 : b11 = false := by simpa using hun
    subst f11 e9
    obtain ⟨p9, rfl, r9⟩ := hv9 rfl
    refine wpOp_step rfl (fun K hK => ?_)
    replace hK := Lib.hid hK
    go_simp
    exact hK.out _ _ ⟨b0, b1, b2, b3, b4, b5, b6, b7, b8, true, b10, true, b12, b13, x65, x66, x67, x68, x69, x70, x71, x72, x73, .tuple #[.slice p9 R.length R.length, .int .i64 0], x74, .int .i64 0, x13, x14, rfl, by first | (simp only [Act.put, pL]; done) | rfl, q, hv0, hv1, hv2, hv3, hv4, hv5, hv6, hv7, hv8, fun _ => ⟨p9, rfl, r9⟩, hv10, fun _ => rfl, hv12, hv13, ho7, ho8, (fun _ => by first | exact ho9 rfl | exact ho9 trivial), fun _ => rfl, ho12⟩
   ·
    have e10 : b10 = true := hdep _ rfl ⟨10, .data⟩ (by simp) rfl
    have f12 : b12 = false := by simpa using hun
    subst f12 e10
    obtain ⟨p10, rfl, r10⟩ := hv10 rfl
    refine wpOp_step rfl (fun K hK => ?_)
    replace hK := Lib.hid hK
    go_simp
    exact hK.out _ _ ⟨b0, b1, b2, b3, b4, b5, b6, b7, b8, b9, true, b11, true, b13, x65, x66, x67, x68, x69, x70, x71, x72, x73, x64, .slice p10 R.length R.length, x75, .slice p10 R.length R.length, x14, rfl, by first | (simp only [Act.put, pL]; done) | rfl, q, hv0, hv1, hv2, hv3, hv4, hv5, hv6, hv7, hv8, hv9, fun _ => ⟨p10, rfl, r10⟩, hv11, fun _ => ⟨p10, rfl, r10⟩, hv13, ho7, ho8, ho9, (fun _ => by first | exact ho10 rfl | exact ho10 trivial), fun _ => rfl⟩
   ·
    have e11 : b11 = true := hdep _ rfl ⟨11, .data⟩ (by simp) rfl
    have f13 : b13 = false := by simpa using hun
    subst f13 e11
    obtain rfl := hv11 rfl
    refine wpOp_step rfl (fun K hK => ?_)
    replace hK := Lib.hid hK
    go_simp
    exact hK.out _ _ ⟨b0, b1, b2, b3, b4, b5, b6, b7, b8, b9, b10, true, b12, true, x65, x66, x67, x68, x69, x70, x71, x72, x73, x64, x74, .int .i64 0, x13, .int .i64 0, rfl, by first | (simp only [Act.put, pL]; done) | rfl, q, hv0, hv1, hv2, hv3, hv4, hv5, hv6, hv7, hv8, hv9, hv10, fun _ => rfl, hv12, fun _ => rfl, ho7, ho8, ho9, ho10, ho12⟩
 · rintro l a' W ⟨b0, b1, b2, b3, b4, b5, b6, b7, b8, b9, b10, b11, b12, b13, x65, x66, x67, x68, x69, x70, x71, x72, x73, x64, x74, x75, x13, x14, rfl, rfl, qW, hv0, hv1, hv2, hv3, hv4, hv5, hv6, hv7, hv8, hv9, hv10, hv11, hv12, hv13, ho7, ho8, ho9, ho10, ho12⟩ hall
   obtain rfl : b0 = true := by
    cases b0 with
    | true => rfl
    | false => exact absurd (by intro e he hb; simp at he <;> (repeat' (rcases he with rfl | he)) <;> first | rfl | exact absurd hb (by decide)) (hall 0 _ rfl rfl)
   obtain rfl : b1 = true := by
    cases b1 with
    | true => rfl
    | false => exact absurd (by intro e he hb; simp at he <;> (repeat' (rcases he with rfl | he)) <;> first | rfl | exact absurd hb (by decide)) (hall 1 _ rfl rfl)
   obtain rfl : b2 = true := by
    cases b2 with
    | true => rfl
    | false => exact absurd (by intro e he hb; simp at he <;> (repeat' (rcases he with rfl | he)) <;> first | rfl | exact absurd hb (by decide)) (hall 2 _ rfl rfl)
   obtain rfl : b3 = true := by
    cases b3 with
    | true => rfl
    | false => exact absurd (by intro e he hb; simp at he <;> (repeat' (rcases he with rfl | he)) <;> first | rfl | exact absurd hb (by decide)) (hall 3 _ rfl rfl)
   obtain rfl : b4 = true := by
    cases b4 with
    | true => rfl
    | false => exact absurd (by intro e he hb; simp at he <;> (repeat' (rcases he with rfl | he)) <;> first | rfl | exact absurd hb (by decide)) (hall 4 _ rfl rfl)
   obtain rfl : b5 = true := by
    cases b5 with
    | true => rfl
    | false => exact absurd (by intro e he hb; simp at he <;> (repeat' (rcases he with rfl | he)) <;> first | rfl | exact absurd hb (by decide)) (hall 5 _ rfl rfl)
   obtain rfl : b6 = true := by
    cases b6 with
    | true => rfl
    | false => exact absurd (by intro e he hb; simp at he <;> (repeat' (rcases he with rfl | he)) <;> first | rfl | exact absurd hb (by decide)) (hall 6 _ rfl rfl)
   obtain rfl : b7 = true := by
    cases b7 with
    | true => rfl
    | false => exact absurd (by intro e he hb; simp at he <;> (repeat' (rcases he with rfl | he)) <;> first | rfl | exact absurd hb (by decide)) (hall 7 _ rfl rfl)
   obtain rfl : b8 = true := by
    cases b8 with
    | true => rfl
    | false => exact absurd (by intro e he hb; simp at he <;> (repeat' (rcases he with rfl | he)) <;> first | rfl | exact absurd hb (by decide)) (hall 8 _ rfl rfl)
   obtain rfl : b9 = true := by
    cases b9 with
    | true => rfl
    | false => exact absurd (by intro e he hb; simp at he <;> (repeat' (rcases he with rfl | he)) <;> first | rfl | exact absurd hb (by decide)) (hall 9 _ rfl rfl)
   obtain rfl : b10 = true := by
    cases b10 with
    | true => rfl
    | false => exact absurd (by intro e he hb; simp at he <;> (repeat' (rcases he with rfl | he)) <;> first | rfl | exact absurd hb (by decide)) (hall 10 _ rfl rfl)
   obtain rfl : b11 = true := by
    cases b11 with
    | true => rfl
    | false => exact absurd (by intro e he hb; simp at he <;> (repeat' (rcases he with rfl | he)) <;> first | rfl | exact absurd hb (by decide)) (hall 11 _ rfl rfl)
   obtain rfl : b12 = true := by
    cases b12 with
    | true => rfl
    | false => exact absurd (by intro e he hb; simp at he <;> (repeat' (rcases he with rfl | he)) <;> first | rfl | exact absurd hb (by decide)) (hall 12 _ rfl rfl)
   obtain rfl : b13 = true := by
    cases b13 with
    | true => rfl
    | false => exact absurd (by intro e he hb; simp at he <;> (repeat' (rcases he with rfl | he)) <;> first | rfl | exact absurd hb (by decide)) (hall 13 _ rfl rfl)
   obtain rfl := hv0 rfl
   obtain rfl := hv1 rfl
   obtain rfl := hv2 rfl
   obtain rfl := hv4 rfl
   obtain rfl := hv5 rfl
   obtain rfl := hv6 rfl
   obtain rfl := hv11 rfl
   obtain rfl := hv13 rfl
   obtain ⟨p12, rfl, r12⟩ := hv12 rfl
   clear hall hv3 hv7 hv8 hv9 hv10 hv12 ho7 ho8 ho9 ho10 ho12
   have uW := HU.out.trans qW
   have rf := HRF.out.dn qW
   have ro := HRO.out.dn qW
   simp only [Act.put, pL]
   go_wp2_with fail
   refine (GO.out _ _ _ _ r12 rf).mono ?_
   rintro e w8 ⟨rfl, qw8⟩
   replace ro := ro.dn qw8
   replace rf := rf.dn qw8
   replace r12 := r12.dn qw8
   have uw8 := uW.trans qw8
   clear qw8 uW
   go_wp2_with fail
   refine (HCK.out _ _ ro).mono ?_
   rintro e w9 ⟨rfl, qw9⟩
   replace ro := ro.dn qw9
   replace rf := rf.dn qw9
   replace r12 := r12.dn qw9
   have uw9 := uw8.trans qw9
   clear qw9 uw8
   go_wp2_with fail
   refine (HHR.out _ _ ro).mono ?_
   rintro e w10 ⟨rfl, qw10⟩
   replace ro := ro.dn qw10
   replace rf := rf.dn qw10
   replace r12 := r12.dn qw10
   have uw10 := uw9.trans qw10
   clear qw10 uw9
   go_wp2_with fail
   refine (lives10 _ (hE.dn uw10)).mono ?_
   rintro e w11 ⟨rfl, qw11⟩
   replace ro := ro.dn qw11
   replace rf := rf.dn qw11
   replace r12 := r12.dn qw11
   have uw11 := uw10.trans qw11
   clear qw11 uw10
   go_wp2_with fail
   go_ret
   exact ⟨rfl, uw11⟩
theorem of_nil1 (ad : Addr) (ca : Nat) (h0 : 0 < ca) (hmx : ca ≤ 9223372036854775807) (T : List Rq) (HT : Hid (T = [] ++ [])) (kk day ck : Int) (R : List Rq) (w : World) (HO : Hid (∀ W, Dn w W → Calls Tryz.prog 10 #[.slice (some ad) 0 ca] W fun ro w' => ∃ p', ro = .returned (.tuple #[.slice p' R.length R.length, .int .i64 0]) ∧ Row w' p' R ∧ Dn W w')) (FO : Hid (∀ W, Dn w W → Calls Tryz.prog 11 #[.slice (some ad) 0 ca] W fun ro w' => ∃ p' cap', ro = .returned (.tuple #[.slice p' R.length cap', .int .i64 0]) ∧ Row w' p' R ∧ Dn W w')) (FH : Hid (∀ W, Dn w W → Calls Tryz.prog 12 #[.slice (some ad) 0 ca, .int .i64 day] W fun ro w' => ro = .returned (.int .i64 0) ∧ Dn W w')) (HK : Hid (∀ W, Dn w W → Calls Tryz.prog 14 #[.slice (some ad) 0 ca] W fun ro w' => ro = .returned (.int .i64 ck) ∧ Dn W w')) (FK : Hid (∀ W, Dn w W → Calls Tryz.prog 15 #[.slice (some ad) 0 ca] W fun ro w' => ro = .returned (.int .i64 ck) ∧ Dn W w')) (HH : Hid (∀ W, Dn w W → Calls Tryz.prog 16 #[.slice (some ad) 0 ca, .int .i64 day] W fun ro w' => ro = .returned (.bool false) ∧ Dn W w')) (GO : Hid (∀ W p1 p2 c2, Row W p1 R → Row W p2 R → Calls Tryz.prog 13 #[.slice p1 R.length R.length, .int .i64 0, .slice p2 R.length c2, .int .i64 0] W fun ro w' => ro = .returned (.bool true) ∧ Dn W w')) (HTU : Hid (∀ W p1 c1, Row W p1 T → Calls Tryz.prog 10 #[.slice p1 T.length c1] W fun ro w' => ∃ p', ro = .returned (.tuple #[.slice p' R.length R.length, .int .i64 0]) ∧ Row w' p' R ∧ Dn W w')) (HCK : Hid (∀ W p1, Row W p1 R → Calls Tryz.prog 14 #[.slice p1 R.length R.length] W fun ro w' => ro = .returned (.int .i64 0) ∧ Dn W w')) (HHR : Hid (∀ W p1, Row W p1 R → Calls Tryz.prog 16 #[.slice p1 R.length R.length, .int .i64 day] W fun ro w' => ro = .returned (.bool false) ∧ Dn W w')) (hE : EnvR w) :
   Calls Tryz.prog 3 #[.slice (some ad) 0 ca, .int .u8 kk, .int .i64 day] w fun ro w' => ro = .returned (.bool true) ∧ Dn w w' := by
 have e3 : (ck != ck) = false := by simp
 have e15 : ¬ ca = 0 := by omega
 have e16 : 0 < ca := by omega
 have e17 : (0 : Int) < ca := by omega
 have e18 : (0 : Int) ≤ ca := by omega
 go_enter Tryz.func3, Tryz.ntmps3
 go_wp2_with fail
 refine (HO.out _ (Dn.refl _)).mono ?_
 rintro e w1 ⟨po, rfl, ro, qw1⟩
 have uw1 := qw1
 clear qw1
 go_wp2_with fail
 refine (FO.out _ uw1).mono ?_
 rintro e w2 ⟨pf, cf, rfl, rf, qw2⟩
 replace ro := ro.dn qw2
 have uw2 := uw1.trans qw2
 clear qw2 uw1
 go_wp2_with fail
 refine (FH.out _ uw2).mono ?_
 rintro e w3 ⟨rfl, qw3⟩
 replace ro := ro.dn qw3
 replace rf := rf.dn qw3
 have uw3 := uw2.trans qw3
 clear qw3 uw2
 go_wp2_with fail
 refine (GO.out _ _ _ _ ro rf).mono ?_
 rintro e w4 ⟨rfl, qw4⟩
 replace ro := ro.dn qw4
 replace rf := rf.dn qw4
 have uw4 := uw3.trans qw4
 clear qw4 uw3
 go_wp2_with fail
 refine (HK.out _ uw4).mono ?_
 rintro e w5 ⟨rfl, qw5⟩
 replace ro := ro.dn qw5
 replace rf := rf.dn qw5
 have uw5 := uw4.trans qw5
 clear qw5 uw4
 go_wp2_with fail
 refine (FK.out _ uw5).mono ?_
 rintro e w6 ⟨rfl, qw6⟩
 replace ro := ro.dn qw6
 replace rf := rf.dn qw6
 have uw6 := uw5.trans qw6
 clear qw6 uw5
 go_wp2_with fail
 refine (HH.out _ uw6).mono ?_
 rintro e w7 ⟨rfl, qw7⟩
 replace ro := ro.dn qw7
 replace rf := rf.dn qw7
 have uw7 := uw6.trans qw7
 clear qw7 uw6
 go_wp2_with fail
 have HU := Lib.hid uw7
 have HRO := Lib.hid ro
 have HRF := Lib.hid rf
 clear ro rf
 refine region_inv (fun A l a' w' => ∃ (b0 b1 b2 b3 b4 b5 b6 b7 b8 b9 b10 b11 b12 b13 : Bool) (x65 x66 x67 x68 x69 x70 x71 x72 x73 x64 x74 x75 x13 x14 : Value), l = #[b0, b1, b2, b3, b4, b5, b6, b7, b8, b9, b10, b11, b12, b13] ∧ a' = ((((((((((((((A.put (some 65) x65).put (some 66) x66).put (some 67) x67).put (some 68) x68).put (some 69) x69).put (some 70) x70).put (some 71) x71).put (some 72) x72).put (some 73) x73).put (some 64) x64).put (some 74) x74).put (some 75) x75).put (some 13) x13).put (some 14) x14) ∧ Dn w7 w' ∧ (b0 = true → x65 = .slice (some ad) 0 ca) ∧ (b1 = true → x66 = .int .i64 0) ∧ (b2 = true → x67 = .slice (some ad) 0 ca) ∧ (b3 = true → b7 = false → OwnQ w' w7.heap.size x68 ([] : List Rq)) ∧ (b4 = true → x69 = .slice (some ad) 0 ca) ∧ (b5 = true → x70 = .int .i64 0) ∧ (b6 = true → x71 = .slice (some ad) 0 ca) ∧ (b7 = true → SlR w' x72 T) ∧ (b8 = true → TuR w' x73 R) ∧ (b9 = true → TuR w' x64 R) ∧ (b10 = true → SlE w' x74 R) ∧ (b11 = true → x75 = .int .i64 0) ∧ (b12 = true → SlE w' x13 R) ∧ (b13 = true → x14 = .int .i64 0) ∧ (b7 = true → b3 = true) ∧ (b8 = true → b7 = true) ∧ (b9 = true → b8 = true) ∧ (b10 = true → b9 = true) ∧ (b12 = true → b10 = true)) (by kernel_rfl) ?_ ?_ ?_
 · exact ⟨false, false, false, false, false, false, false, false, false, false, false, false, false, false, undef, undef, undef, undef, undef, undef, undef, undef, undef, undef, undef, undef, undef, undef, rfl, by simp only [Act.put, pL], (Dn.refl _).drew, (fun h => by cases h), (fun h => by cases h), (fun h => by cases h), (fun h => by cases h), (fun h => by cases h), (fun h => by cases h), (fun h => by cases h), (fun h => by cases h), (fun h => by cases h), (fun h => by cases h), (fun h => by cases h), (fun h => by cases h), (fun h => by cases h), (fun h => by cases h), (fun h => by cases h), (fun h => by cases h), (fun h => by cases h), (fun h => by cases h), (fun h => by cases h)⟩
 · rintro l a' w' i ⟨b0, b1, b2, b3, b4, b5, b6, b7, b8, b9, b10, b11, b12, b13, x65, x66, x67, x68, x69, x70, x71, x72, x73, x64, x74, x75, x13, x14, rfl, rfl, q, hv0, hv1, hv2, hv3, hv4, hv5, hv6, hv7, hv8, hv9, hv10, hv11, hv12, hv13, ho7, ho8, ho9, ho10, ho12⟩ hun hdep hi
   simp only [Act.put, pL]
   have hi' : i < 14 := hi
   rcases (show i = 0 ∨ i = 1 ∨ i = 2 ∨ i = 3 ∨ i = 4 ∨ i = 5 ∨ i = 6 ∨ i = 7 ∨ i = 8 ∨ i = 9 ∨ i = 10 ∨ i = 11 ∨ i = 12 ∨ i = 13 by omega) with rfl | rfl | rfl | rfl | rfl | rfl | rfl | rfl | rfl | rfl | rfl | rfl | rfl | rfl
   ·
    have f0 : b0 = false := by simpa using hun
    subst f0
    refine wpOp_step rfl (fun K hK => ?_)
    replace hK := Lib.hid hK
    go_simp
    exact hK.out _ _ ⟨true, b1, b2, b3, b4, b5, b6, b7, b8, b9, b10, b11, b12, b13, .slice (some ad) 0 ca, x66, x67, x68, x69, x70, x71, x72, x73, x64, x74, x75, x13, x14, rfl, by first | (simp only [Act.put, pL]; done) | rfl, q, fun _ => rfl, hv1, hv2, hv3, hv4, hv5, hv6, hv7, hv8, hv9, hv10, hv11, hv12, hv13, ho7, ho8, ho9, ho10, ho12⟩
   ·
    have f1 : b1 = false := by simpa using hun
    subst f1
    refine wpOp_step rfl (fun K hK => ?_)
    replace hK := Lib.hid hK
    go_simp
    exact hK.out _ _ ⟨b0, true, b2, b3, b4, b5, b6, b7, b8, b9, b10, b11, b12, b13, x65, .int .i64 0, x67, x68, x69, x70, x71, x72, x73, x64, x74, x75, x13, x14, rfl, by first | (simp only [Act.put, pL]; done) | rfl, q, hv0, fun _ => rfl, hv2, hv3, hv4, hv5, hv6, hv7, hv8, hv9, hv10, hv11, hv12, hv13, ho7, ho8, ho9, ho10, ho12⟩
   ·
    have e0 : b0 = true := hdep _ rfl ⟨0, .data⟩ (by simp) rfl
    have e1 : b1 = true := hdep _ rfl ⟨1, .data⟩ (by simp) rfl
    have f2 : b2 = false := by simpa using hun
    subst f2 e0 e1
    obtain rfl := hv0 rfl
    obtain rfl := hv1 rfl
    refine wpOp_step rfl (fun K hK => ?_)
    replace hK := Lib.hid hK
    go_simp
    exact hK.out _ _ ⟨true, true, true, b3, b4, b5, b6, b7, b8, b9, b10, b11, b12, b13, .slice (some ad) 0 ca, .int .i64 0, .slice (some ad) 0 ca, x68, x69, x70, x71, x72, x73, x64, x74, x75, x13, x14, rfl, by first | (simp only [Act.put, pL]; done) | rfl, q, fun _ => rfl, fun _ => rfl, fun _ => rfl, hv3, hv4, hv5, hv6, hv7, hv8, hv9, hv10, hv11, hv12, hv13, ho7, ho8, ho9, ho10, ho12⟩
   ·
    have e2 : b2 = true := hdep _ rfl ⟨2, .data⟩ (by simp) rfl
    have f3 : b3 = false := by simpa using hun
    subst f3 e2
    obtain rfl := hv2 rfl
    refine wpOp_step rfl (fun K hK => ?_)
    replace hK := Lib.hid hK
    refine step_catW (by rfl) _ _ (by rfl) w' w7.heap.size (.slice none 0 0) [] (.slice (some ad) 0 ca) ([] : List Rq) (by rfl) (OwnQ.nil _ _) (by rfl) (lsV_nil _ _ _ (fun h => by first | rfl | cases h)) (by simp <;> omega) q.size ?_
    intro v3 wa own3 hq3
    exact hK.out _ _ ⟨b0, b1, true, true, b4, b5, b6, b7, b8, b9, b10, b11, b12, b13, x65, x66, .slice (some ad) 0 ca, v3, x69, x70, x71, x72, x73, x64, x74, x75, x13, x14, rfl, by first | (simp only [Act.put, pL]; done) | rfl, hq3 _ q (Nat.le_refl _), hv0, hv1, fun _ => rfl, fun _ _ => own3, hv4, hv5, hv6, fun h => absurd (ho7 h) (by simp), fun h => absurd (ho7 (ho8 h)) (by simp), fun h => absurd (ho7 (ho8 (ho9 h))) (by simp), fun h => absurd (ho7 (ho8 (ho9 (ho10 h)))) (by simp), hv11, fun h => absurd (ho7 (ho8 (ho9 (ho10 (ho12 h))))) (by simp), hv13, fun _ => rfl, ho8, ho9, ho10, ho12⟩
   ·
    have f4 : b4 = false := by simpa using hun
    subst f4
    refine wpOp_step rfl (fun K hK => ?_)
    replace hK := Lib.hid hK
    go_simp
    exact hK.out _ _ ⟨b0, b1, b2, b3, true, b5, b6, b7, b8, b9, b10, b11, b12, b13, x65, x66, x67, x68, .slice (some ad) 0 ca, x70, x71, x72, x73, x64, x74, x75, x13, x14, rfl, by first | (simp only [Act.put, pL]; done) | rfl, q, hv0, hv1, hv2, hv3, fun _ => rfl, hv5, hv6, hv7, hv8, hv9, hv10, hv11, hv12, hv13, ho7, ho8, ho9, ho10, ho12⟩
   ·
    have f5 : b5 = false := by simpa using hun
    subst f5
    refine wpOp_step rfl (fun K hK => ?_)
    replace hK := Lib.hid hK
    go_simp
    exact hK.out _ _ ⟨b0, b1, b2, b3, b4, true, b6, b7, b8, b9, b10, b11, b12, b13, x65, x66, x67, x68, x69, .int .i64 0, x71, x72, x73, x64, x74, x75, x13, x14, rfl, by first | (simp only [Act.put, pL]; done) | rfl, q, hv0, hv1, hv2, hv3, hv4, fun _ => rfl, hv6, hv7, hv8, hv9, hv10, hv11, hv12, hv13, ho7, ho8, ho9, ho10, ho12⟩
   ·
    have e4 : b4 = true := hdep _ rfl ⟨4, .data⟩ (by simp) rfl
    have e5 : b5 = true := hdep _ rfl ⟨5, .data⟩ (by simp) rfl
    have f6 : b6 = false := by simpa using hun
    subst f6 e4 e5
    obtain rfl := hv4 rfl
    obtain rfl := hv5 rfl
    refine wpOp_step rfl (fun K hK => ?_)
    replace hK := Lib.hid hK
    go_simp
    exact hK.out _ _ ⟨b0, b1, b2, b3, true, true, true, b7, b8, b9, b10, b11, b12, b13, x65, x66, x67, x68, .slice (some ad) 0 ca, .int .i64 0, .slice (some ad) 0 ca, x72, x73, x64, x74, x75, x13, x14, rfl, by first | (simp only [Act.put, pL]; done) | rfl, q, hv0, hv1, hv2, hv3, fun _ => rfl, fun _ => rfl, fun _ => rfl, hv7, hv8, hv9, hv10, hv11, hv12, hv13, ho7, ho8, ho9, ho10, ho12⟩
   ·
    have e3 : b3 = true := hdep _ rfl ⟨3, .data⟩ (by simp) rfl
    have e6 : b6 = true := hdep _ rfl ⟨6, .data⟩ (by simp) rfl
    have f7 : b7 = false := by simpa using hun
    subst f7 e3 e6
    obtain rfl := hv6 rfl
    refine wpOp_step rfl (fun K hK => ?_)
    replace hK := Lib.hid hK
    have k3 := hv3 rfl rfl
    refine step_catW (by rfl) _ _ (by rfl) w' w7.heap.size x68 ([] : List Rq) (.slice (some ad) 0 ca) ([] : List Rq) (by rfl) k3 (by rfl) (lsV_nil _ _ _ (fun h => by first | rfl | cases h)) (by simp <;> omega) q.size ?_
    intro v7 wa own7 hq7
    exact hK.out _ _ ⟨b0, b1, b2, true, b4, b5, true, true, b8, b9, b10, b11, b12, b13, x65, x66, x67, x68, x69, x70, .slice (some ad) 0 ca, v7, x73, x64, x74, x75, x13, x14, rfl, by first | (simp only [Act.put, pL]; done) | rfl, hq7 _ q (Nat.le_refl _), hv0, hv1, hv2, (fun _ h => by cases h), hv4, hv5, fun _ => rfl, fun _ => (show OwnQ wa _ v7 T by rw [HT.out]; exact own7).slR, fun h => absurd (ho8 h) (by simp), fun h => absurd (ho8 (ho9 h)) (by simp), fun h => absurd (ho8 (ho9 (ho10 h))) (by simp), hv11, fun h => absurd (ho8 (ho9 (ho10 (ho12 h)))) (by simp), hv13, fun _ => rfl, fun _ => rfl, ho9, ho10, ho12⟩
   ·
    have e7 : b7 = true := hdep _ rfl ⟨7, .data⟩ (by simp) rfl
    have f8 : b8 = false := by simpa using hun
    subst f8 e7
    obtain ⟨p7, c7, rfl, r7⟩ := hv7 rfl
    refine wpOp_step rfl (fun K hK => ?_)
    replace hK := Lib.hid hK
    go_simp
    go_at_call 10
    refine (HTU.out _ _ _ r7.row).mono ?_
    rintro e wa ⟨p8, rfl, r8, qa⟩
    try go_wp2_with fail
    exact hK.out _ _ ⟨b0, b1, b2, b3, b4, b5, b6, true, true, b9, b10, b11, b12, b13, x65, x66, x67, x68, x69, x70, x71, .slice p7 T.length c7, .tuple #[.slice p8 R.length R.length, .int .i64 0], x64, x74, x75, x13, x14, rfl, by first | (simp only [Act.put, pL]; done) | rfl, q.trans qa, hv0, hv1, hv2, fun h h2 => (hv3 h h2).dn qa, hv4, hv5, hv6, fun _ => ⟨p7, c7, rfl, r7.dn qa⟩, fun _ => ⟨p8, rfl, r8⟩, fun h => (hv9 h).dn qa, fun h => (hv10 h).dn qa, hv11, fun h => (hv12 h).dn qa, hv13, (fun _ => by first | exact ho7 rfl | exact ho7 trivial), fun _ => rfl, fun _ => rfl, ho10, ho12⟩
   ·
    have e8 : b8 = true := hdep _ rfl ⟨8, .data⟩ (by simp) rfl
    have f9 : b9 = false := by simpa using hun
    subst f9 e8
    obtain ⟨p8, rfl, r8⟩ := hv8 rfl
    refine wpOp_step rfl (fun K hK => ?_)
    replace hK := Lib.hid hK
    go_simp
    exact hK.out _ _ ⟨b0, b1, b2, b3, b4, b5, b6, b7, true, true, b10, b11, b12, b13, x65, x66, x67, x68, x69, x70, x71, x72, .tuple #[.slice p8 R.length R.length, .int .i64 0], .tuple #[.slice p8 R.length R.length, .int .i64 0], x74, x75, x13, x14, rfl, by first | (simp only [Act.put, pL]; done) | rfl, q, hv0, hv1, hv2, hv3, hv4, hv5, hv6, hv7, fun _ => ⟨p8, rfl, r8⟩, fun _ => ⟨p8, rfl, r8⟩, hv10, hv11, hv12, hv13, ho7, (fun _ => by first | exact ho8 rfl | exact ho8 trivial), fun _ => rfl, fun _ => rfl, ho12⟩
   ·
    have e9 : b9 = true := hdep _ rfl ⟨9, .data⟩ (by simp) rfl
    have f10 : b10 = false := by simpa using hun
    subst f10 e9
    obtain ⟨p9, rfl, r9⟩ := hv9 rfl
    refine wpOp_step rfl (fun K hK => ?_)
    replace hK := Lib.hid hK
    go_simp
    exact hK.out _ _ ⟨b0, b1, b2, b3, b4, b5, b6, b7, b8, true, true, b11, b12, b13, x65, x66, x67, x68, x69, x70, x71, x72, x73, .tuple #[.slice p9 R.length R.length, .int .i64 0], .slice p9 R.length R.length, x75, x13, x14, rfl, by first | (simp only [Act.put, pL]; done) | rfl, q, hv0, hv1, hv2, hv3, hv4, hv5, hv6, hv7, hv8, fun _ => ⟨p9, rfl, r9⟩, fun _ => ⟨p9, rfl, r9⟩, hv11, hv12, hv13, ho7, ho8, (fun _ => by first | exact ho9 rfl | exact ho9 trivial), fun _ => rfl, fun _ => rfl⟩
   ·
    have e9 : b9 = true := hdep _ rfl ⟨9, .data⟩ (by simp) rfl
    have f11 : b11 = false := by simpa using hun
    subst f11 e9
    obtain ⟨p9, rfl, r9⟩ := hv9 rfl
    refine wpOp_step rfl (fun K hK => ?_)
    replace hK := Lib.hid hK
    go_simp
    exact hK.out _ _ ⟨b0, b1, b2, b3, b4, b5, b6, b7, b8, true, b10, true, b12, b13, x65, x66, x67, x68, x69, x70, x71, x72, x73, .tuple #[.slice p9 R.length R.length, .int .i64 0], x74, .int .i64 0, x13, x14, rfl, by first | (simp only [Act.put, pL]; done) | rfl, q, hv0, hv1, hv2, hv3, hv4, hv5, hv6, hv7, hv8, fun _ => ⟨p9, rfl, r9⟩, hv10, fun _ => rfl, hv12, hv13, ho7, ho8, (fun _ => by first | exact ho9 rfl | exact ho9 trivial), fun _ => rfl, ho12⟩
   ·
    have e10 : b10 = true := hdep _ rfl ⟨10, .data⟩ (by simp) rfl
    have f12 : b12 = false := by simpa using hun
    subst f12 e10
    obtain ⟨p10, rfl, r10⟩ := hv10 rfl
    refine wpOp_step rfl (fun K hK => ?_)
    replace hK := Lib.hid hK
    go_simp
    exact hK.out _ _ ⟨b0, b1, b2, b3, b4, b5, b6, b7, b8, b9, true, b11, true, b13, x65, x66, x67, x68, x69, x70, x71, x72, x73, x64, .slice p10 R.length R.length, x75, .slice p10 R.length R.length, x14, rfl, by first | (simp only [Act.put, pL]; done) | rfl, q, hv0, hv1, hv2, hv3, hv4, hv5, hv6, hv7, hv8, hv9, fun _ => ⟨p10, rfl, r10⟩, hv11, fun _ => ⟨p10, rfl, r10⟩, hv13, ho7, ho8, ho9, (fun _ => by first | exact ho10 rfl | exact ho10 trivial), fun _ => rfl⟩
   ·
    have e11 : b11 = true := hdep _ rfl ⟨11, .data⟩ (by simp) rfl
    have f13 : b13 = false := by simpa using hun
    subst f13 e11
    obtain rfl := hv11 rfl
    refine wpOp_step rfl (fun K hK => ?_)
    replace hK := Lib.hid hK
    go_simp
    exact hK.out _ _ ⟨b0, b1, b2, b3, b4, b5, b6, b7, b8, b9, b10, true, b12, true, x65, x66, x67, x68, x69, x70, x71, x72, x73, x64, x74, .int .i64 0, x13, .int .i64 0, rfl, by first | (simp only [Act.put, pL]; done) | rfl, q, hv0, hv1, hv2, hv3, hv4, hv5, hv6, hv7, hv8, hv9, hv10, fun _ => rfl, hv12, fun _ => rfl, ho7, ho8, ho9, ho10, ho12⟩
 · rintro l a' W ⟨b0, b1, b2, b3, b4, b5, b6, b7, b8, b9, b10, b11, b12, b13, x65, x66, x67, x68, x69, x70, x71, x72, x73, x64, x74, x75, x13, x14, rfl, rfl, qW, hv0, hv1, hv2, hv3, hv4, hv5, hv6, hv7, hv8, hv9, hv10, hv11, hv12, hv13, ho7, ho8, ho9, ho10, ho12⟩ hall
   obtain rfl : b0 = true := by
    cases b0 with
    | true => rfl
    | false => exact absurd (by intro e he hb; simp at he <;> (repeat' (rcases he with rfl | he)) <;> first | rfl | exact absurd hb (by decide)) (hall 0 _ rfl rfl)
   obtain rfl : b1 = true := by
    cases b1 with
    | true => rfl
    | false => exact absurd (by intro e he hb; simp at he <;> (repeat' (rcases he with rfl | he)) <;> first | rfl | exact absurd hb (by decide)) (hall 1 _ rfl rfl)
   obtain rfl : b2 = true := by
    cases b2 with
    | true => rfl
    | false => exact absurd (by intro e he hb; simp at he <;> (repeat' (rcases he with rfl | he)) <;> first | rfl | exact absurd hb (by decide)) (hall 2 _ rfl rfl)
   obtain rfl : b3 = true := by
    cases b3 with
    | true => rfl
    | false => exact absurd (by intro e he hb; simp at he <;> (repeat' (rcases he with rfl | he)) <;> first | rfl | exact absurd hb (by decide)) (hall 3 _ rfl rfl)
   obtain rfl : b4 = true := by
    cases b4 with
    | true => rfl
    | false => exact absurd (by intro e he hb; simp at he <;> (repeat' (rcases he with rfl | he)) <;> first | rfl | exact absurd hb (by decide)) (hall 4 _ rfl rfl)
   obtain rfl : b5 = true := by
    cases b5 with
    | true => rfl
    | false => exact absurd (by intro e he hb; simp at he <;> (repeat' (rcases he with rfl | he)) <;> first | rfl | exact absurd hb (by decide)) (hall 5 _ rfl rfl)
   obtain rfl : b6 = true := by
    cases b6 with
    | true => rfl
    | false => exact absurd (by intro e he hb; simp at he <;> (repeat' (rcases he with rfl | he)) <;> first | rfl | exact absurd hb (by decide)) (hall 6 _ rfl rfl)
   obtain rfl : b7 = true := by
    cases b7 with
    | true => rfl
    | false => exact absurd (by intro e he hb; simp at he <;> (repeat' (rcases he with rfl | he)) <;> first | rfl | exact absurd hb (by decide)) (hall 7 _ rfl rfl)
   obtain rfl : b8 = true := by
    cases b8 with
    | true => rfl
    | false => exact absurd (by intro e he hb; simp at he <;> (repeat' (rcases he with rfl | he)) <;> first | rfl | exact absurd hb (by decide)) (hall 8 _ rfl rfl)
   obtain rfl : b9 = true := by
    cases b9 with
    | true => rfl
    | false => exact absurd (by intro e he hb; simp at he <;> (repeat' (rcases he with rfl | he)) <;> first | rfl | exact absurd hb (by decide)) (hall 9 _ rfl rfl)
   obtain rfl : b10 = true := by
    cases b10 with
    | true => rfl
    | false => exact absurd (by intro e he hb; simp at he <;> (repeat' (rcases he with rfl | he)) <;> first | rfl | exact absurd hb (by decide)) (hall 10 _ rfl rfl)
   obtain rfl : b11 = true := by
    cases b11 with
    | true => rfl
    | false => exact absurd (by intro e he hb; simp at he <;> (repeat' (rcases he with rfl | he)) <;> first | rfl | exact absurd hb (by decide)) (hall 11 _ rfl rfl)
   obtain rfl : b12 = true := by
    cases b12 with
    | true => rfl
    | false => exact absurd (by intro e he hb; simp at he <;> (repeat' (rcases he with rfl | he)) <;> first | rfl | exact absurd hb (by decide)) (hall 12 _ rfl rfl)
   obtain rfl : b13 = true := by
    cases b13 with
    | true => rfl
    | false => exact absurd (by intro e he hb; simp at he <;> (repeat' (rcases he with rfl | he)) <;> first | rfl | exact absurd hb (by decide)) (hall 13 _ rfl rfl)
   obtain rfl := hv0 rfl
   obtain rfl := hv1 rfl
   obtain rfl := hv2 rfl
   obtain rfl := hv4 rfl
   obtain rfl := hv5 rfl
   obtain rfl := hv6 rfl
   obtain rfl := hv11 rfl
   obtain rfl := hv13 rfl
   obtain ⟨p12, rfl, r12⟩ := hv12 rfl
   clear hall hv3 hv7 hv8 hv9 hv10 hv12 ho7 ho8 ho9 ho10 ho12
   have uW := HU.out.trans qW
   have rf := HRF.out.dn qW
   have ro := HRO.out.dn qW
   simp only [Act.put, pL]
   go_wp2_with fail
   refine (GO.out _ _ _ _ r12 rf).mono ?_
   rintro e w8 ⟨rfl, qw8⟩
   replace ro := ro.dn qw8
   replace rf := rf.dn qw8
   replace r12 := r12.dn qw8
   have uw8 := uW.trans qw8
   clear qw8 uW
   go_wp2_with fail
   refine (HCK.out _ _ ro).mono ?_
   rintro e w9 ⟨rfl, qw9⟩
   replace ro := ro.dn qw9
   replace rf := rf.dn qw9
   replace r12 := r12.dn qw9
   have uw9 := uw8.trans qw9
   clear qw9 uw8
   go_wp2_with fail
   refine (HHR.out _ _ ro).mono ?_
   rintro e w10 ⟨rfl, qw10⟩
   replace ro := ro.dn qw10
   replace rf := rf.dn qw10
   replace r12 := r12.dn qw10
   have uw10 := uw9.trans qw10
   clear qw10 uw9
   go_wp2_with fail
   refine (lives10 _ (hE.dn uw10)).mono ?_
   rintro e w11 ⟨rfl, qw11⟩
   replace ro := ro.dn qw11
   replace rf := rf.dn qw11
   replace r12 := r12.dn qw11
   have uw11 := uw10.trans qw11
   clear qw11 uw10
   go_wp2_with fail
   go_ret
   exact ⟨rfl, uw11⟩
theorem runsetsOf_true (p : Option Addr) (ca : Nat) (L : List Rq) (kk day : Int) (w : World) (hR : Rl w p ca L) (hI : I6 L) (hk : 0 ≤ kk ∧ kk ≤ 255) (hd : I64 day) (hE : EnvR w) :
   Calls Tryz.prog 3 #[.slice p L.length ca, .int .u8 kk, .int .i64 day] w fun ro w' => ro = .returned (.bool true) ∧ Dn w w' := by
 have la := Nat.le_trans hR.le hR.mx
 by_cases h1 : 20 < L.length
 · exact of_a p L.length ca kk day w la h1 hE
 obtain ⟨c, hc⟩ : ∃ c, c = ofE L := ⟨_, rfl⟩
 obtain ⟨ck, hck⟩ : ∃ ck, ck = chkL L := ⟨_, rfl⟩
 obtain ⟨R, hRR⟩ : ∃ R, R = if c = 0 then L.foldl putL [] else [] := ⟨_, rfl⟩
 have hR2 : R = if c = 0 then joinedL (srt L) else [] := by
   rw [hRR]
   by_cases h : c = 0
   · rw [if_pos h, if_pos h, of_same hI (hc.symm.trans h)]
   · rw [if_neg h, if_neg h]
 have lR : R.length ≤ 20 := by
   rw [hRR]
   split
   · have := of_len L; omega
   · simp
 have HO := Lib.hid (fun W (k : Dn w W) => rsOf p ca L c R W hc hR2 (by omega) hI (hR.dn k).row)
 have FO := Lib.hid (fun W (k : Dn w W) => rfOf p ca L c R W hc hRR (by omega) hI (hR.dn k).row)
 have HK := Lib.hid (fun W (k : Dn w W) => rsCheckE p ca L ck W hck (by omega) hI (hR.dn k).row)
 have FK := Lib.hid (fun W (k : Dn w W) => rfCheckE p ca L ck W hck (by omega) hI (hR.dn k).row)
 have gv : GvT R R.length c R c := by
   by_cases h : c = 0
   · exact Or.inl ⟨h, rfl, rfl, h⟩
   · exact Or.inr ⟨h, by rw [hRR, if_neg h], rfl⟩
 have GO := Lib.hid (fun W p1 p2 c2 (h : Row W p1 R) (k : Row W p2 R) => gv10 p1 R.length R c p2 c2 R c W gv (by omega) h (fun _ => k))
 have FH := fun (hb : Bool) (e : decide (HasL L day) = hb) => Lib.hid (fun W (k : Dn w W) => rfHasS p ca L day (if hb = true then 1 else 0) W hd (by rw [← e]; by_cases h : HasL L day <;> simp [h]) (by omega) hI (hR.dn k).row)
 have HH := fun (hb : Bool) (e : decide (HasL L day) = hb) => Lib.hid (fun W (k : Dn w W) => rsHasS p ca L day hb W hd e.symm (by omega) hI (hR.dn k).row)
 by_cases h0 : c = 0
 rotate_left
 · cases hh : decide (HasL L day) with
   | true => exact of_bad_true p L.length ca kk day c ck R w (by omega) HO FO (FH true hh) HK FK (HH true hh) GO h0 hE
   | false => exact of_bad_false p L.length ca kk day c ck R w (by omega) HO FO (FH false hh) HK FK (HH false hh) GO h0 hE
 subst h0
 have hz : ofE L = 0 := hc.symm
 have hok := err_ok_all hI hz
 have eR : R = L.foldl putL [] := by rw [hRR, if_pos rfl]
 have sR : Sep R := by rw [eR]; exact sep_of_fold hok
 have HCK := Lib.hid (fun W p1 (q : Row W p1 R) => rsCheckE p1 R.length R 0 W (chk_of (i6_sep sR) sR (by omega)).symm (by omega) (i6_sep sR) q)
 have HHR := fun (hb : Bool) (e : decide (HasL L day) = hb) => Lib.hid (fun W p1 (q : Row W p1 R) => rsHasS p1 R.length R day hb W hd (by rw [eR, has_of hI hok]; exact e.symm) (by omega) (i6_sep sR) q)
 have HTU := fun (m : Nat) (hm : m ≤ L.length) => Lib.hid (fun W p1 c1 (q : Row W p1 (L.drop m ++ L.take m)) => rsOf p1 c1 (L.drop m ++ L.take m) 0 R W (rot_of hI hz m hm (by omega)).1.symm (by rw [if_pos rfl, (rot_of hI hz m hm (by omega)).2, eR]) (by rw [rot_len m hm]; omega) (fun x hx => hI x ((rot_mem m x).1 hx)) q)
 by_cases hn : L = []
 · subst hn
   have hh : decide (HasL [] day) = false := by simp [HasL]
   have hT := HTU 0 (Nat.le_refl _)
   simp only [List.drop_nil, List.take_nil] at hT
   by_cases hca : ca = 0
   · subst hca
     exact of_nil0 p ([] ++ []) (Lib.hid rfl) kk day ck R w HO FO (FH false hh) HK FK (HH false hh) GO hT HCK (HHR false hh) hE
   · obtain ⟨ad, rfl⟩ : ∃ ad, p = some ad := by
      cases p with
      | none => exact absurd (hR.nl rfl) hca
      | some ad => exact ⟨ad, rfl⟩
     exact of_nil1 ad ca (by omega) hR.mx ([] ++ []) (Lib.hid rfl) kk day ck R w HO FO (FH false hh) HK FK (HH false hh) GO hT HCK (HHR false hh) hE
 have hln : 0 < L.length := List.length_pos_iff.2 hn
 obtain ⟨g, o, rfl, hcs⟩ := hR.row.cs hln
 obtain ⟨m, hm⟩ : ∃ m : Nat, kk % (L.length : Int) = m := ⟨(kk % (L.length : Int)).toNat, (Int.toNat_of_nonneg (Int.emod_nonneg _ (by omega))).symm⟩
 have hmn : m < L.length := by have := Int.emod_lt_of_pos kk (show (0 : Int) < (L.length : Int) by omega); omega
 cases hh : decide (HasL L day) with
 | true => exact of_ok_true g o L.length ca m L _ (Lib.hid rfl) kk day ck R w (by omega) hmn hm hR.le hR.mx rfl hcs hk HO FO (FH true hh) HK FK (HH true hh) GO (HTU m (by omega)) HCK (HHR true hh) hE
 | false => exact of_ok_false g o L.length ca m L _ (Lib.hid rfl) kk day ck R w (by omega) hmn hm hR.le hR.mx rfl hcs hk HO FO (FH false hh) HK FK (HH false hh) GO (HTU m (by omega)) HCK (HHR false hh) hE
end Go.Proofs.YtoghoddjkdoohaaGreatDoor
