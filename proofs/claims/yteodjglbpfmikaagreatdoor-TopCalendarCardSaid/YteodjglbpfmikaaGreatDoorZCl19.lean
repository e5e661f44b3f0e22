/- Walks and laws that the claim's theorem leans on: part 19. -/
import Derived.Test.YteodjglbpfmikaaGreatDoorZCl1
import Derived.Test.YteodjglbpfmikaaGreatDoorZCl3
import Derived.Test.YteodjglbpfmikaaGreatDoorZCl8
import Derived.Test.YteodjglbpfmikaaGreatDoorZCl11
import Derived.Test.YteodjglbpfmikaaGreatDoorZCl18
import Derived.ProofKit
import Derived.LaidMore
import Derived.OpenShut
import Derived.Stop.Joined
import Derived.Lib.LaidTab
import Derived.Shelf.Vars
import Derived.Deep.Slices
namespace Go.Proofs.YteodjglbpfmikaaGreatDoor
set_option maxHeartbeats 4000000
set_option maxRecDepth 100000
open Go.RowKit
set_option linter.unusedVariables false
set_option linter.unusedSimpArgs false
structure EnvQ (w : World) : Prop where
 p : EnvP w
 j : EnvJ w
theorem EnvQ.dn {w w' : World} (h : EnvQ w) (k : Dn w w') : EnvQ w' := ⟨h.p.dn k, h.j.dn k⟩
theorem EnvQ.k {w : World} (h : EnvQ w) : EnvK w := ⟨h.p.c, h.j⟩
theorem tSame {P : Program} {f : FuncId} {args : Array Value} {w : World} {v : Value} (h : Calls P f args w fun e w' => e = .returned v ∧ w = w') : Calls P f args w fun e w' => e = .returned v ∧ Dn w w' :=
 h.mono fun e w' q => ⟨q.1, dn_eq q.2⟩
theorem tUp {P : Program} {f : FuncId} {args : Array Value} {w : World} {v : Value} (h : Calls P f args w fun e w' => e = .returned v ∧ Up w w') : Calls P f args w fun e w' => e = .returned v ∧ Dn w w' :=
 h.mono fun e w' q => ⟨q.1, q.2.dn⟩
structure C3 (w : World) (B : Nat) (v0 v1 v2 : Value) : Prop where
 c0 : w.cell? ⟨B, 0, none⟩ = some v0
 c1 : w.cell? ⟨B, 1, none⟩ = some v1
 c2 : w.cell? ⟨B, 2, none⟩ = some v2
 f0 : w.frozen? ⟨B, 0, none⟩ = false
 f1 : w.frozen? ⟨B, 1, none⟩ = false
 f2 : w.frozen? ⟨B, 2, none⟩ = false
 lt : B < w.heap.size
theorem C3.dn {w w' : World} {B : Nat} {v0 v1 v2 : Value} (h : C3 w B v0 v1 v2) (k : Dn w w') : C3 w' B v0 v1 v2 :=
 ⟨k.cell h.c0, k.cell h.c1, k.cell h.c2, by rw [k.frozen h.lt]; exact h.f0, by rw [k.frozen h.lt]; exact h.f1, by rw [k.frozen h.lt]; exact h.f2, Nat.lt_of_lt_of_le h.lt k.size⟩
theorem C3.new (w : World) (v0 v1 v2 : Value) (t : TypeId) : C3 (w.alloc (.cells #[v0, v1, v2] t)) w.heap.size v0 v1 v2 := by
 refine ⟨?_, ?_, ?_, ?_, ?_, ?_, ?_⟩ <;> simp [go_sem]
theorem C3.far {w : World} {B n : Nat} {v0 v1 v2 : Value} (h : C3 w n v0 v1 v2) (hn : n ≠ B) (j : Nat) (v : Value) : C3 (w.setCell ⟨B, j, none⟩ v) n v0 v1 v2 := by
 have hx : ∀ i u, w.cell? ⟨n, i, none⟩ = some u → (w.setCell ⟨B, j, none⟩ v).cell? ⟨n, i, none⟩ = some u := fun i u hu => by
  rw [World.cell?_setCell_other _ _ _ _ (fun e => hn (by simpa using (congrArg Addr.block e).symm))]; exact hu
 exact ⟨hx _ _ h.c0, hx _ _ h.c1, hx _ _ h.c2, by simpa using h.f0, by simpa using h.f1, by simpa using h.f2, by simpa using h.lt⟩
theorem C3.set0 {w : World} {B : Nat} {v0 v1 v2 : Value} (h : C3 w B v0 v1 v2) (v : Value) : C3 (w.setCell ⟨B, 0, none⟩ v) B v v1 v2 := by
 have h0 := h.c0; have h1 := h.c1; have h2 := h.c2
 refine ⟨?_, ?_, ?_, by simpa using h.f0, by simpa using h.f1, by simpa using h.f2, by simpa using h.lt⟩ <;> simp [go_sem, h0, h1, h2]
theorem C3.set1 {w : World} {B : Nat} {v0 v1 v2 : Value} (h : C3 w B v0 v1 v2) (v : Value) : C3 (w.setCell ⟨B, 1, none⟩ v) B v0 v v2 := by
 have h0 := h.c0; have h1 := h.c1; have h2 := h.c2
 refine ⟨?_, ?_, ?_, by simpa using h.f0, by simpa using h.f1, by simpa using h.f2, by simpa using h.lt⟩ <;> simp [go_sem, h0, h1, h2]
theorem C3.set2 {w : World} {B : Nat} {v0 v1 v2 : Value} (h : C3 w B v0 v1 v2) (v : Value) : C3 (w.setCell ⟨B, 2, none⟩ v) B v0 v1 v := by
 have h0 := h.c0; have h1 := h.c1; have h2 := h.c2
 refine ⟨?_, ?_, ?_, by simpa using h.f0, by simpa using h.f1, by simpa using h.f2, by simpa using h.lt⟩ <;> simp [go_sem, h0, h1, h2]
def SlC (w : World) (g : Nat) (L : List Int) : Prop := ∀ (j : Nat) (x : Int), L[j]? = some x → w.cell? ⟨g, j, none⟩ = some (.int .i64 x)
theorem SlC.dn {w w' : World} {g : Nat} {L : List Int} (h : SlC w g L) (k : Dn w w') : SlC w' g L := fun j x hx => k.cell (h j x hx)
theorem SlC.far {w : World} {B g : Nat} {L : List Int} (h : SlC w g L) (hn : g ≠ B) (j : Nat) (v : Value) : SlC (w.setCell ⟨B, j, none⟩ v) g L := fun i x hx => by
 rw [World.cell?_setCell_other _ _ _ _ (fun e => hn (by simpa using (congrArg Addr.block e).symm))]; exact h i x hx
structure Tcf (day y m D lo hi a b v : Int) : Prop where
 dd : I64 day
 ey : Cal.yr day = y
 em : mo day = m
 eD : day - Cal.sm y m + 1 = D
 elo : Cal.sm y m = lo
 ehi : Cal.sm y (m + 1) - 1 = hi
 ea : Cal.sy y = a
 eb : Cal.sy (y + 1) - 1 = b
 hy : IsY y
 hm : 1 ≤ m ∧ m ≤ 12
 ev : (day % 7 + 5) % 7 = v
section
variable {day y m D lo hi a b v : Int}
theorem Tcf.yY (F : Tcf day y m D lo hi a b v) : IsY (Cal.yr day) := by rw [F.ey]; exact F.hy
theorem Tcf.lims (F : Tcf day y m D lo hi a b v) : a ≤ lo ∧ lo ≤ day ∧ day ≤ hi ∧ hi ≤ b ∧ I64 lo ∧ I64 hi ∧ I64 a ∧ I64 b ∧ 1 ≤ D := by
 obtain ⟨m1, m2⟩ := F.hm
 obtain ⟨_, _, m3, m4⟩ := mo_spec day
 rw [F.ey, F.em] at m3 m4
 have h1 := sm_mono y 1 m (by omega) m1 (by omega)
 have h2 := sm_mono y (m + 1) 13 (by omega) (by omega) (by omega)
 rw [sm_one] at h1
 rw [sm_13] at h2
 have hb := F.hy
 unfold IsY at hb
 have e1 := F.elo; have e2 := F.ehi; have e3 := F.ea; have e4 := F.eb; have e5 := F.eD
 have s1 := sy_bd y ⟨by omega, by omega⟩
 have s2 := sy_bd (y + 1) ⟨by omega, by omega⟩
 have hd := F.dd
 unfold I64 at hd ⊢
 refine ⟨by omega, by omega, by omega, by omega, ⟨by omega, by omega⟩, ⟨by omega, by omega⟩, ⟨by omega, by omega⟩, ⟨by omega, by omega⟩, by omega⟩
theorem Tcf.err (F : Tcf day y m D lo hi a b v) : cErr y m D = 0 := by
 obtain ⟨m1, m2⟩ := F.hm
 obtain ⟨_, h1, h2, _⟩ := F.lims
 have e1 := F.elo; have e2 := F.ehi; have e5 := F.eD
 rw [sm_succ _ _ m1 m2] at e2
 exact cErr_of ⟨F.hy, m1, m2⟩ (by omega) (by omega)
theorem Tcf.of (F : Tcf day y m D lo hi a b v) (W : World) (hE : EnvC W) : Calls Tryz.prog 29 #[.int .i64 day] W fun ro w' => ro = .returned (.tuple #[.agg #[.int .i64 y, .int .i64 m, .int .i64 D], .int .i64 0]) ∧ Dn W w' := by
 have h := cvOf_yes day F.dd F.yY W hE
 rw [F.em, F.ey, F.eD] at h
 exact h
theorem Tcf.rof (F : Tcf day y m D lo hi a b v) (W : World) : Calls Tryz.prog 30 #[.int .i64 day] W fun ro w' => ro = .returned (.tuple #[.int .i64 y, .bool true]) ∧ Dn W w' := by
 have h := rOf_yes day W F.dd F.yY
 rw [F.ey] at h
 exact tSame h
theorem Tcf.yof (F : Tcf day y m D lo hi a b v) (W : World) (hE : Steps W) : Calls Tryz.prog 31 #[.int .i64 day] W fun ro w' => ro = .returned (.tuple #[.int .i64 y, .int .i64 0]) ∧ Dn W w' := by
 have h := of_yes day W F.dd F.yY hE
 rw [F.ey] at h
 exact tUp h
theorem Tcf.mof (F : Tcf day y m D lo hi a b v) (W : World) (hE : EnvM W) : Calls Tryz.prog 32 #[.int .i64 day] W fun ro w' => ro = .returned (.tuple #[.int .i64 y, .int .i64 m, .int .i64 0]) ∧ Dn W w' := by
 have h := mof_yes day W F.dd F.yY hE
 rw [F.em, F.ey] at h
 exact tUp h
theorem Tcf.yr (F : Tcf day y m D lo hi a b v) (W : World) (hE : EnvP W) : Calls Tryz.prog 17 #[.int .i64 y] W fun ro w' => ro = .returned (.tuple #[.agg #[.int .i8 0, .int .i64 a, .int .i8 0, .int .i64 b], .bool true]) ∧ Dn W w' :=
 tYear y a b W F.ea F.eb F.hy hE
theorem Tcf.ms (F : Tcf day y m D lo hi a b v) (W : World) (hE : EnvM W) : Calls Tryz.prog 19 #[.int .i64 y, .int .i64 m] W fun ro w' => ro = .returned (.tuple #[.int .i64 lo, .int .i64 0]) ∧ Dn W w' := by
 have h := mstart_yes y m W ⟨F.hy, F.hm.1, F.hm.2⟩ hE
 rw [F.elo] at h
 exact tUp h
theorem Tcf.me (F : Tcf day y m D lo hi a b v) (W : World) (hE : EnvM W) : Calls Tryz.prog 20 #[.int .i64 y, .int .i64 m] W fun ro w' => ro = .returned (.tuple #[.int .i64 hi, .int .i64 0]) ∧ Dn W w' := by
 have h := mend_yes y m W ⟨F.hy, F.hm.1, F.hm.2⟩ hE
 rw [F.ehi] at h
 exact tUp h
theorem Tcf.mr (F : Tcf day y m D lo hi a b v) (W : World) : Calls Tryz.prog 21 #[.int .i64 lo, .int .i64 hi] W fun ro w' => ro = .returned (.tuple #[.agg #[.int .i8 0, .int .i64 lo, .int .i8 0, .int .i64 hi], .int .i64 0]) ∧ Dn W w' :=
 rnOf_yes lo hi (by have := F.lims; omega) W
theorem Tcf.wd (F : Tcf day y m D lo hi a b v) (W : World) : Calls Tryz.prog 37 #[.int .i64 day] W fun ro w' => ro = .returned (.int .i64 v) ∧ Dn W w' := by
 have h := cvWd day F.dd W
 rw [F.ev] at h
 exact h
theorem Tcf.wd2 (F : Tcf day y m D lo hi a b v) (h : day ≤ 9223372036854629710) (W : World) : Calls Tryz.prog 37 #[.int .i64 (day + 146097)] W fun ro w' => ro = .returned (.int .i64 v) ∧ Dn W w' := by
 have hd := F.dd
 have k := cvWd (day + 146097) ⟨by have := hd.1; omega, by have := hd.2; omega⟩ W
 rw [show ((day + 146097) % 7 + 5) % 7 = v by have := F.ev; omega] at k
 exact k
theorem sm_400y (y m : Int) : Cal.sm (y + 400) m = Cal.sm y m + 146097 := by
 unfold Cal.sm
 have h1 : Cal.sy (y + 400) = Cal.sy y + 146097 := by
  have := Cal.sy_cycle 1 y
  rw [show y + 400 = 400 * 1 + y by omega, this]
  omega
 have h2 : Cal.lpN (y + 400) = Cal.lpN y := by
  have := Cal.lpN_cycle 1 y
  rwa [show 400 * 1 + y = y + 400 by omega] at this
 have h3 : Cal.cum (y + 400) m = Cal.cum y m := by unfold Cal.cum; rw [h2]
 omega
theorem Tcf.later (F : Tcf day y m D lo hi a b v) : Cal.yr (day + 146097) = y + 400 ∧ mo (day + 146097) = m ∧ day + 146097 - Cal.sm (y + 400) m + 1 = D := by
 obtain ⟨m1, m2⟩ := F.hm
 obtain ⟨_, _, m3, m4⟩ := mo_spec day
 rw [F.ey, F.em] at m3 m4
 have h := mo_of (day + 146097) (y + 400) m m1 m2 (by rw [sm_400y]; omega) (by rw [sm_400y]; omega)
 exact ⟨h.1, h.2, by rw [sm_400y]; have := F.eD; omega⟩
theorem Tcf.of2 (F : Tcf day y m D lo hi a b v) (h : day ≤ 9223372036854629710) (hy : IsY (y + 400)) (W : World) (hE : EnvC W) : Calls Tryz.prog 29 #[.int .i64 (day + 146097)] W fun ro w' => ro = .returned (.tuple #[.agg #[.int .i64 (y + 400), .int .i64 m, .int .i64 D], .int .i64 0]) ∧ Dn W w' := by
 have hd := F.dd
 obtain ⟨l1, l2, l3⟩ := F.later
 have k := cvOf_yes (day + 146097) ⟨by have := hd.1; omega, by have := hd.2; omega⟩ (by rw [l1]; exact hy) W hE
 rw [l2, l1, l3] at k
 exact k
theorem Tcf.of3 (F : Tcf day y m D lo hi a b v) (h : day ≤ 9223372036854629710) (hy : ¬ IsY (y + 400)) (W : World) (hE : EnvC W) : Calls Tryz.prog 29 #[.int .i64 (day + 146097)] W fun ro w' => ro = .returned (.tuple #[.agg #[.int .i64 0, .int .i64 0, .int .i64 0], .int .i64 6]) ∧ Dn W w' := by
 have hd := F.dd
 exact cvOf_no (day + 146097) ⟨by have := hd.1; omega, by have := hd.2; omega⟩ (by rw [F.later.1]; exact hy) W hE
theorem Tcf.codes (F : Tcf day y m D lo hi a b v) (W : World) (hE : EnvS W) : Calls Tryz.prog 36 #[.int .i64 day] W fun ro w' => (∃ g, ro = .returned (.tuple #[.slice (some ⟨g, 0, none⟩) (codesL day 21).length (codesL day 21).length, .int .i64 0]) ∧ SlC w' g (codesL day 21) ∧ g < w'.heap.size) ∧ Dn W w' := by
 refine (scodes_yes day W F.dd F.yY hE).mono ?_
 rintro e w' ⟨v, rfl, hL, hB⟩
 refine ⟨?_, ⟨hB⟩⟩
 have hc := cn_codes day F.yY
 rcases hL with ⟨_, h⟩ | ⟨g, rfl, hg⟩
 · rw [h] at hc
   exact absurd hc.1 (by decide)
 · refine ⟨g, rfl, hg, ?_⟩
   cases hl : codesL day 21 with
   | nil => rw [hl] at hc; exact absurd hc.1 (by decide)
   | cons x r =>
     have := hg 0 x (by rw [hl]; rfl)
     exact lt_of_cell this
theorem Tcf.run (F : Tcf day y m D lo hi a b v) (c : Int) (h : 33 ≤ c) (hc : c ≤ 41) (ho : IsOf day c) (W : World) (hE : EnvS W) :
  Calls Tryz.prog 22 #[.int .i64 y, .int .i64 c] W fun ro w' => (∃ p q, ro = .returned (.tuple #[.agg #[.int .i8 0, .int .i64 p, .int .i8 0, .int .i64 q], .int .i64 0]) ∧ a ≤ p ∧ p ≤ day ∧ day ≤ q ∧ q ≤ b) ∧ Dn W w' := by
 obtain ⟨h1, h2, h3, h4, h5⟩ := big_run day c F.yY h hc ho
 rw [F.ey] at h1 h2 h3 h4 h5
 rw [F.ea] at h2
 rw [F.eb] at h5
 refine (srun_yes y c W ⟨by omega, by omega⟩ h1 hE).mono ?_
 rintro e w' ⟨rfl, q⟩
 exact ⟨⟨_, _, rfl, h2, h3, h4, h5⟩, q.dn⟩
theorem Tcf.runA (F : Tcf day y m D lo hi a b v) (c : Int) (h : 21 ≤ c) (hc : c ≤ 41) (W : World) (hE : EnvS W) :
   Calls Tryz.prog 22 #[.int .i64 y, .int .i64 c] W fun ro w' => (∃ p q e, ro = .returned (.tuple #[.agg #[.int .i8 0, .int .i64 p, .int .i8 0, .int .i64 q], .int .i64 e])) ∧ Dn W w' := by
 by_cases h1 : IsSY y c
 · exact (srun_yes y c W ⟨h, hc⟩ h1 hE).mono fun e w' q => ⟨⟨_, _, _, q.1⟩, q.2.dn⟩
 · exact (srun_bad y c W ⟨h, hc⟩ h1 hE).mono fun e w' q => ⟨⟨_, _, _, q.1⟩, q.2.dn⟩
end
theorem tHas (p q day : Int) (hp : I64 p) (hq : I64 q) (hd : I64 day) (h1 : p ≤ day) (h2 : day ≤ q) (W : World) : Calls Tryz.prog 14 #[.agg #[.int .i8 0, .int .i64 p, .int .i8 0, .int .i64 q], .int .i64 day] W fun ro w' => ro = .returned (.bool true) ∧ Dn W w' := by
 have h := rnHas 0 p 0 q day W hp hq hd
 rw [wi_of h1 (Int.le_refl _) h2] at h
 exact h
theorem tWi (p q r s : Int) (hp : I64 p) (hq : I64 q) (hr : I64 r) (hs : I64 s) (h1 : r ≤ p) (h2 : p ≤ q) (h3 : q ≤ s) (W : World) : Calls Tryz.prog 33 #[.agg #[.int .i8 0, .int .i64 p, .int .i8 0, .int .i64 q], .agg #[.int .i8 0, .int .i64 r, .int .i8 0, .int .i64 s]] W fun ro w' => ro = .returned (.bool true) ∧ Dn W w' := by
 have h := rnWithin 0 p 0 q 0 r 0 s W hp hq hr hs
 rw [wi_of h1 h2 h3] at h
 exact h
theorem eq_three (w : World) : Sem.run Tryz.prog (Op.equalIn 10000 78 (.agg #[.int .i64 1, .int .i64 1, .int .i64 1]) (.agg #[.int .i64 1, .int .i64 1, .int .i64 1])) w = .ok true w := by kernel_rfl
structure TcL (w wr : World) (bc by_ bk bp g : Nat) (y m D a b : Int) (L : List Int) (n0 n1 n2 : Nat) : Prop where
 u : Dn w wr
 c : C3 wr bc (.int .i64 y) (.int .i64 m) (.int .i64 D)
 yr : C4 wr by_ (.int .i8 0) (.int .i64 a) (.int .i8 0) (.int .i64 b)
 k : C3 wr bk (.int .i64 y) (.int .i64 m) (.int .i64 D)
 p : C3 wr bp (.int .i64 n0) (.int .i64 n1) (.int .i64 n2)
 sl : SlC wr g L
 nc : bc ≠ bp
 ny : by_ ≠ bp
 nk : bk ≠ bp
 ng : g ≠ bp
 lc : w.heap.size ≤ bc
 lp : w.heap.size ≤ bp
section
variable {w wr wr' : World} {bc by_ bk bp g n0 n1 n2 : Nat} {y m D a b : Int} {L : List Int}
theorem TcL.dn (h : TcL w wr bc by_ bk bp g y m D a b L n0 n1 n2) (q : Dn wr wr') : TcL w wr' bc by_ bk bp g y m D a b L n0 n1 n2 :=
 ⟨h.u.trans q, h.c.dn q, h.yr.dn q, h.k.dn q, h.p.dn q, h.sl.dn q, h.nc, h.ny, h.nk, h.ng, h.lc, h.lp⟩
theorem TcL.s0 (h : TcL w wr bc by_ bk bp g y m D a b L n0 n1 n2) (k : Nat) : TcL w (wr.setCell ⟨bp, 0, none⟩ (.int .i64 k)) bc by_ bk bp g y m D a b L k n1 n2 :=
 ⟨h.u.setCell h.lp _, h.c.far h.nc _ _, h.yr.far h.ny _ _, h.k.far h.nk _ _, h.p.set0 _, h.sl.far h.ng _ _, h.nc, h.ny, h.nk, h.ng, h.lc, h.lp⟩
theorem TcL.s1 (h : TcL w wr bc by_ bk bp g y m D a b L n0 n1 n2) (k : Nat) : TcL w (wr.setCell ⟨bp, 1, none⟩ (.int .i64 k)) bc by_ bk bp g y m D a b L n0 k n2 :=
 ⟨h.u.setCell h.lp _, h.c.far h.nc _ _, h.yr.far h.ny _ _, h.k.far h.nk _ _, h.p.set1 _, h.sl.far h.ng _ _, h.nc, h.ny, h.nk, h.ng, h.lc, h.lp⟩
theorem TcL.s2 (h : TcL w wr bc by_ bk bp g y m D a b L n0 n1 n2) (k : Nat) : TcL w (wr.setCell ⟨bp, 2, none⟩ (.int .i64 k)) bc by_ bk bp g y m D a b L n0 n1 k :=
 ⟨h.u.setCell h.lp _, h.c.far h.nc _ _, h.yr.far h.ny _ _, h.k.far h.nk _ _, h.p.set2 _, h.sl.far h.ng _ _, h.nc, h.ny, h.nk, h.ng, h.lc, h.lp⟩
theorem TcL.lt (h : TcL w wr bc by_ bk bp g y m D a b L n0 n1 n2) : bp < wr.heap.size ∧ by_ < wr.heap.size ∧ bc < wr.heap.size ∧ bk < wr.heap.size := ⟨h.p.lt, h.yr.lt, h.c.lt, h.k.lt⟩
end
theorem topCalendar_yes (day y m D lo hi a b v : Int) (F : Tcf day y m D lo hi a b v) (w : World) (hE : EnvQ w) :
  Calls Tryz.prog 5 #[.int .i64 day] w fun ro w' => ro = .returned (.bool true) ∧ Dn w w' := by
 have HF := Lib.hid F
 have HI := Lib.hid F.lims
 obtain ⟨d1, d2⟩ := F.dd
 obtain ⟨y1, y2⟩ := F.hy
 obtain ⟨L, hLe⟩ : ∃ L, L = codesL day 21 := ⟨_, rfl⟩
 have HK := Lib.hid (hLe ▸ F.codes)
 have HM := Lib.hid (show ∀ x, x ∈ L → 21 ≤ x ∧ x ≤ 41 ∧ IsOf day x from fun x hx => by have := codes_mem day 21 x (hLe ▸ hx); exact ⟨this.1, by have := this.2.1; omega, this.2.2⟩)
 have HN := Lib.hid (hLe ▸ cn_codes day F.yY)
 have hLl : L.length ≤ 21 := hLe ▸ codesL_le day 21
 clear hLe F
 go_enter Tryz.func5, Tryz.ntmps5
 go_wp2_with fail
 refine (HF.out.of _ hE.p.c).mono ?_
 rintro e w1 ⟨rfl, qw1⟩
 have uw1 := qw1
 clear qw1
 go_wp2_with fail
 have lc0 := uw1.size
 obtain ⟨W1, hW1⟩ : ∃ W1, W1 = w1.alloc (.cells #[.int .i64 y, .int .i64 m, .int .i64 D] 64) := ⟨_, rfl⟩
 have uW1 : Dn w1 W1 := by rw [hW1]; exact (Dn.refl _).alloc _
 have o2 : w.heap.size ≤ w1.heap.size := by have := uw1.size; omega
 have c3 : W1.cell? ⟨w1.heap.size, 0, none⟩ = some (.int .i64 y) := by rw [hW1]; simp [go_sem]
 have c4 : W1.cell? ⟨w1.heap.size, 1, none⟩ = some (.int .i64 m) := by rw [hW1]; simp [go_sem]
 have c5 : W1.cell? ⟨w1.heap.size, 2, none⟩ = some (.int .i64 D) := by rw [hW1]; simp [go_sem]
 have l6 : w1.heap.size < W1.heap.size := by rw [hW1]; simp <;> omega
 have f7 : W1.frozen? ⟨w1.heap.size, 0, none⟩ = false := by rw [hW1]; simp [go_sem]
 have f8 : W1.frozen? ⟨w1.heap.size, 1, none⟩ = false := by rw [hW1]; simp [go_sem]
 have f9 : W1.frozen? ⟨w1.heap.size, 2, none⟩ = false := by rw [hW1]; simp [go_sem]
 rw [← hW1]
 clear hW1
 have vW1 := uw1.trans uW1
 clear uW1 uw1
 go_wp2_with fail
 refine (HF.out.rof _).mono ?_
 rintro e w2 ⟨rfl, qw2⟩
 have f10 := (qw2.frozen (a := ⟨w1.heap.size, 0, none⟩) l6).trans f7
 have f11 := (qw2.frozen (a := ⟨w1.heap.size, 1, none⟩) l6).trans f8
 have f12 := (qw2.frozen (a := ⟨w1.heap.size, 2, none⟩) l6).trans f9
 have aK := nlt l6 qw2.size
 obtain ⟨aX, aY, aZ⟩ := mv3 qw2.cell c3 c4 c5
 clear f7 f8 f9 l6 c3 c4 c5
 have uw2 := vW1.trans qw2
 clear qw2 vW1
 go_wp2_with fail
 refine (HF.out.yof _ (hE.dn uw2).p.st).mono ?_
 rintro e w3 ⟨rfl, qw3⟩
 have f17 := (qw3.frozen (a := ⟨w1.heap.size, 0, none⟩) aK).trans f10
 have f18 := (qw3.frozen (a := ⟨w1.heap.size, 1, none⟩) aK).trans f11
 have f19 := (qw3.frozen (a := ⟨w1.heap.size, 2, none⟩) aK).trans f12
 have aL := nlt aK qw3.size
 obtain ⟨b3, b4, b5⟩ := mv3 qw3.cell aX aY aZ
 clear f10 f11 f12 aK aX aY aZ
 have uw3 := uw2.trans qw3
 clear qw3 uw2
 go_wp2_with fail
 refine (HF.out.mof _ (hE.dn uw3).p.c.m).mono ?_
 rintro e w4 ⟨rfl, qw4⟩
 have f24 := (qw4.frozen (a := ⟨w1.heap.size, 0, none⟩) aL).trans f17
 have f25 := (qw4.frozen (a := ⟨w1.heap.size, 1, none⟩) aL).trans f18
 have f26 := (qw4.frozen (a := ⟨w1.heap.size, 2, none⟩) aL).trans f19
 have aM := nlt aL qw4.size
 obtain ⟨b6, b7, b8⟩ := mv3 qw4.cell b3 b4 b5
 clear f17 f18 f19 aL b3 b4 b5
 have uw4 := uw3.trans qw4
 clear qw4 uw3
 go_wp2_with fail
 refine (HF.out.yr _ (hE.dn uw4).p).mono ?_
 rintro e w5 ⟨rfl, qw5⟩
 have f31 := (qw5.frozen (a := ⟨w1.heap.size, 0, none⟩) aM).trans f24
 have f32 := (qw5.frozen (a := ⟨w1.heap.size, 1, none⟩) aM).trans f25
 have f33 := (qw5.frozen (a := ⟨w1.heap.size, 2, none⟩) aM).trans f26
 have a6 := nlt aM qw5.size
 obtain ⟨b9, bB, bC⟩ := mv3 qw5.cell b6 b7 b8
 clear f24 f25 f26 aM b6 b7 b8
 have uw5 := uw4.trans qw5
 clear qw5 uw4
 go_wp2_with fail
 obtain ⟨W38, hW38⟩ : ∃ W38, W38 = w5.alloc (.cells #[.int .i8 0, .int .i64 a, .int .i8 0, .int .i64 b] 30) := ⟨_, rfl⟩
 have uW38 : Dn w5 W38 := by rw [hW38]; exact (Dn.refl _).alloc _
 have o39 : w.heap.size ≤ w5.heap.size := by have := uw5.size; omega
 have n40 : w1.heap.size ≠ w5.heap.size := by have := a6; omega
 have f41 := (uW38.frozen (a := ⟨w1.heap.size, 0, none⟩) a6).trans f31
 have f42 := (uW38.frozen (a := ⟨w1.heap.size, 1, none⟩) a6).trans f32
 have f43 := (uW38.frozen (a := ⟨w1.heap.size, 2, none⟩) a6).trans f33
 have aN := nlt a6 uW38.size
 obtain ⟨bD, bE, bF⟩ := mv3 uW38.cell b9 bB bC
 clear f31 f32 f33 a6 b9 bB bC
 have bG : W38.cell? ⟨w5.heap.size, 0, none⟩ = some (.int .i8 0) := by rw [hW38]; simp [go_sem]
 have bH : W38.cell? ⟨w5.heap.size, 1, none⟩ = some (.int .i64 a) := by rw [hW38]; simp [go_sem]
 have bI : W38.cell? ⟨w5.heap.size, 2, none⟩ = some (.int .i8 0) := by rw [hW38]; simp [go_sem]
 have bJ : W38.cell? ⟨w5.heap.size, 3, none⟩ = some (.int .i64 b) := by rw [hW38]; simp [go_sem]
 have a7 : w5.heap.size < W38.heap.size := by rw [hW38]; simp <;> omega
 have f53 : W38.frozen? ⟨w5.heap.size, 0, none⟩ = false := by rw [hW38]; simp [go_sem]
 have f54 : W38.frozen? ⟨w5.heap.size, 1, none⟩ = false := by rw [hW38]; simp [go_sem]
 have f55 : W38.frozen? ⟨w5.heap.size, 2, none⟩ = false := by rw [hW38]; simp [go_sem]
 have f56 : W38.frozen? ⟨w5.heap.size, 3, none⟩ = false := by rw [hW38]; simp [go_sem]
 rw [← hW38]
 clear hW38
 have vW38 := uw5.trans uW38
 clear uW38 uw5
 go_wp2_with fail
 refine (HF.out.ms _ (hE.dn vW38).p.c.m).mono ?_
 rintro e w6 ⟨rfl, qw6⟩
 have f57 := (qw6.frozen (a := ⟨w1.heap.size, 0, none⟩) aN).trans f41
 have f58 := (qw6.frozen (a := ⟨w1.heap.size, 1, none⟩) aN).trans f42
 have f59 := (qw6.frozen (a := ⟨w1.heap.size, 2, none⟩) aN).trans f43
 have aO := nlt aN qw6.size
 obtain ⟨bK, bL, bM⟩ := mv3 qw6.cell bD bE bF
 have f64 := (qw6.frozen (a := ⟨w5.heap.size, 0, none⟩) a7).trans f53
 have f65 := (qw6.frozen (a := ⟨w5.heap.size, 1, none⟩) a7).trans f54
 have f66 := (qw6.frozen (a := ⟨w5.heap.size, 2, none⟩) a7).trans f55
 have f67 := (qw6.frozen (a := ⟨w5.heap.size, 3, none⟩) a7).trans f56
 have a8 := nlt a7 qw6.size
 obtain ⟨bN, bO, bP, bQ⟩ := mv4 qw6.cell bG bH bI bJ
 clear f41 f42 f43 aN bD bE bF f53 f54 f55 f56 a7 bG bH bI bJ
 have uw6 := vW38.trans qw6
 clear qw6 vW38
 go_wp2_with fail
 refine (HF.out.me _ (hE.dn uw6).p.c.m).mono ?_
 rintro e w7 ⟨rfl, qw7⟩
 have f73 := (qw7.frozen (a := ⟨w1.heap.size, 0, none⟩) aO).trans f57
 have f74 := (qw7.frozen (a := ⟨w1.heap.size, 1, none⟩) aO).trans f58
 have f75 := (qw7.frozen (a := ⟨w1.heap.size, 2, none⟩) aO).trans f59
 have aP := nlt aO qw7.size
 obtain ⟨bR, bS, bT⟩ := mv3 qw7.cell bK bL bM
 have f80 := (qw7.frozen (a := ⟨w5.heap.size, 0, none⟩) a8).trans f64
 have f81 := (qw7.frozen (a := ⟨w5.heap.size, 1, none⟩) a8).trans f65
 have f82 := (qw7.frozen (a := ⟨w5.heap.size, 2, none⟩) a8).trans f66
 have f83 := (qw7.frozen (a := ⟨w5.heap.size, 3, none⟩) a8).trans f67
 have a9 := nlt a8 qw7.size
 obtain ⟨bU, bV, bW, bX⟩ := mv4 qw7.cell bN bO bP bQ
 clear f57 f58 f59 aO bK bL bM f64 f65 f66 f67 a8 bN bO bP bQ
 have uw7 := uw6.trans qw7
 clear qw7 uw6
 go_wp2_with fail
 refine (HF.out.mr _).mono ?_
 rintro e w8 ⟨rfl, qw8⟩
 have f89 := (qw8.frozen (a := ⟨w1.heap.size, 0, none⟩) aP).trans f73
 have f90 := (qw8.frozen (a := ⟨w1.heap.size, 1, none⟩) aP).trans f74
 have f91 := (qw8.frozen (a := ⟨w1.heap.size, 2, none⟩) aP).trans f75
 have aA := nlt aP qw8.size
 obtain ⟨bY, bZ, c0⟩ := mv3 qw8.cell bR bS bT
 have f96 := (qw8.frozen (a := ⟨w5.heap.size, 0, none⟩) a9).trans f80
 have f97 := (qw8.frozen (a := ⟨w5.heap.size, 1, none⟩) a9).trans f81
 have f98 := (qw8.frozen (a := ⟨w5.heap.size, 2, none⟩) a9).trans f82
 have f99 := (qw8.frozen (a := ⟨w5.heap.size, 3, none⟩) a9).trans f83
 have a3 := nlt a9 qw8.size
 obtain ⟨c2, c6, c7, c8⟩ := mv4 qw8.cell bU bV bW bX
 clear f73 f74 f75 aP bR bS bT f80 f81 f82 f83 a9 bU bV bW bX
 have uw8 := uw7.trans qw8
 clear qw8 uw7
 go_wp2_with fail
 obtain ⟨W105, hW105⟩ : ∃ W105, W105 = w8.alloc (.cells #[.int .i8 0, .int .i64 lo, .int .i8 0, .int .i64 hi] 30) := ⟨_, rfl⟩
 have uW105 : Dn w8 W105 := by rw [hW105]; exact (Dn.refl _).alloc _
 have n106 : w1.heap.size ≠ w8.heap.size := by have := aA; omega
 have n107 : w5.heap.size ≠ w8.heap.size := by have := a3; omega
 have f108 := (uW105.frozen (a := ⟨w1.heap.size, 0, none⟩) aA).trans f89
 have f109 := (uW105.frozen (a := ⟨w1.heap.size, 1, none⟩) aA).trans f90
 have f110 := (uW105.frozen (a := ⟨w1.heap.size, 2, none⟩) aA).trans f91
 have aQ := nlt aA uW105.size
 obtain ⟨c9, cA, cB⟩ := mv3 uW105.cell bY bZ c0
 have f115 := (uW105.frozen (a := ⟨w5.heap.size, 0, none⟩) a3).trans f96
 have f116 := (uW105.frozen (a := ⟨w5.heap.size, 1, none⟩) a3).trans f97
 have f117 := (uW105.frozen (a := ⟨w5.heap.size, 2, none⟩) a3).trans f98
 have f118 := (uW105.frozen (a := ⟨w5.heap.size, 3, none⟩) a3).trans f99
 have aB := nlt a3 uW105.size
 obtain ⟨cC, cE, cF, cG⟩ := mv4 uW105.cell c2 c6 c7 c8
 clear f89 f90 f91 aA bY bZ c0 f96 f97 f98 f99 a3 c2 c6 c7 c8
 have cH : W105.cell? ⟨w8.heap.size, 0, none⟩ = some (.int .i8 0) := by rw [hW105]; simp [go_sem]
 have cI : W105.cell? ⟨w8.heap.size, 1, none⟩ = some (.int .i64 lo) := by rw [hW105]; simp [go_sem]
 have cJ : W105.cell? ⟨w8.heap.size, 2, none⟩ = some (.int .i8 0) := by rw [hW105]; simp [go_sem]
 have cK : W105.cell? ⟨w8.heap.size, 3, none⟩ = some (.int .i64 hi) := by rw [hW105]; simp [go_sem]
 have cL : w8.heap.size < W105.heap.size := by rw [hW105]; simp <;> omega
 rw [← hW105]
 clear hW105
 have vW105 := uw8.trans uW105
 clear uW105 uw8
 go_wp2_with fail
 refine (tHas a b day HI.out.2.2.2.2.2.2.1 HI.out.2.2.2.2.2.2.2.1 ⟨d1, d2⟩ (by have := HI.out; omega) (by have := HI.out; omega) _).mono ?_
 rintro e w9 ⟨rfl, qw9⟩
 have f129 := (qw9.frozen (a := ⟨w1.heap.size, 0, none⟩) aQ).trans f108
 have f130 := (qw9.frozen (a := ⟨w1.heap.size, 1, none⟩) aQ).trans f109
 have f131 := (qw9.frozen (a := ⟨w1.heap.size, 2, none⟩) aQ).trans f110
 have aR := nlt aQ qw9.size
 obtain ⟨cM, cN, cO⟩ := mv3 qw9.cell c9 cA cB
 have f136 := (qw9.frozen (a := ⟨w5.heap.size, 0, none⟩) aB).trans f115
 have f137 := (qw9.frozen (a := ⟨w5.heap.size, 1, none⟩) aB).trans f116
 have f138 := (qw9.frozen (a := ⟨w5.heap.size, 2, none⟩) aB).trans f117
 have f139 := (qw9.frozen (a := ⟨w5.heap.size, 3, none⟩) aB).trans f118
 have aC := nlt aB qw9.size
 have cU := nlt cL qw9.size
 obtain ⟨cP, cQ, cR, cS, cV, cW, cX, cY⟩ := mv8 qw9.cell cC cE cF cG cH cI cJ cK
 clear f108 f109 f110 aQ c9 cA cB f115 f116 f117 f118 aB cC cE cF cG cL cH cI cJ cK
 have uw9 := vW105.trans qw9
 clear qw9 vW105
 go_wp2_with fail
 refine (tHas lo hi day HI.out.2.2.2.2.1 HI.out.2.2.2.2.2.1 ⟨d1, d2⟩ (by have := HI.out; omega) (by have := HI.out; omega) _).mono ?_
 rintro e w10 ⟨rfl, qw10⟩
 have f150 := (qw10.frozen (a := ⟨w1.heap.size, 0, none⟩) aR).trans f129
 have f151 := (qw10.frozen (a := ⟨w1.heap.size, 1, none⟩) aR).trans f130
 have f152 := (qw10.frozen (a := ⟨w1.heap.size, 2, none⟩) aR).trans f131
 have aS := nlt aR qw10.size
 obtain ⟨cZ, d0, d3⟩ := mv3 qw10.cell cM cN cO
 have f157 := (qw10.frozen (a := ⟨w5.heap.size, 0, none⟩) aC).trans f136
 have f158 := (qw10.frozen (a := ⟨w5.heap.size, 1, none⟩) aC).trans f137
 have f159 := (qw10.frozen (a := ⟨w5.heap.size, 2, none⟩) aC).trans f138
 have f160 := (qw10.frozen (a := ⟨w5.heap.size, 3, none⟩) aC).trans f139
 have aD := nlt aC qw10.size
 have d8 := nlt cU qw10.size
 obtain ⟨d4, d5, d6, d7, d9, dA, dC, dD⟩ := mv8 qw10.cell cP cQ cR cS cV cW cX cY
 clear f129 f130 f131 aR cM cN cO f136 f137 f138 f139 aC cP cQ cR cS cU cV cW cX cY
 have uw10 := uw9.trans qw10
 clear qw10 uw9
 go_wp2_with fail
 refine (tWi lo hi a b HI.out.2.2.2.2.1 HI.out.2.2.2.2.2.1 HI.out.2.2.2.2.2.2.1 HI.out.2.2.2.2.2.2.2.1 (by have := HI.out; omega) (by have := HI.out; omega) (by have := HI.out; omega) _).mono ?_
 rintro e w11 ⟨rfl, qw11⟩
 have f171 := (qw11.frozen (a := ⟨w1.heap.size, 0, none⟩) aS).trans f150
 have f172 := (qw11.frozen (a := ⟨w1.heap.size, 1, none⟩) aS).trans f151
 have f173 := (qw11.frozen (a := ⟨w1.heap.size, 2, none⟩) aS).trans f152
 have aT := nlt aS qw11.size
 obtain ⟨dE, dF, dG⟩ := mv3 qw11.cell cZ d0 d3
 have f178 := (qw11.frozen (a := ⟨w5.heap.size, 0, none⟩) aD).trans f157
 have f179 := (qw11.frozen (a := ⟨w5.heap.size, 1, none⟩) aD).trans f158
 have f180 := (qw11.frozen (a := ⟨w5.heap.size, 2, none⟩) aD).trans f159
 have f181 := (qw11.frozen (a := ⟨w5.heap.size, 3, none⟩) aD).trans f160
 have aE := nlt aD qw11.size
 have fB := nlt d8 qw11.size
 obtain ⟨dH, dI, dJ, dK, fC, fD, fE, fF⟩ := mv8 qw11.cell d4 d5 d6 d7 d9 dA dC dD
 clear f150 f151 f152 aS cZ d0 d3 f157 f158 f159 f160 aD d4 d5 d6 d7 d8 d9 dA dC dD
 have uw11 := uw10.trans qw11
 clear qw11 uw10
 clear fC fD fE fF fB n106 n107
 go_wp2_with fail
 refine (cvTx_ok y m D _ (hE.dn uw11).p.c HF.out.err).mono ?_
 rintro e w12 ⟨rfl, qw12⟩
 have f192 := (qw12.frozen (a := ⟨w1.heap.size, 0, none⟩) aT).trans f171
 have f193 := (qw12.frozen (a := ⟨w1.heap.size, 1, none⟩) aT).trans f172
 have f194 := (qw12.frozen (a := ⟨w1.heap.size, 2, none⟩) aT).trans f173
 have aU := nlt aT qw12.size
 obtain ⟨dL, dM, dN⟩ := mv3 qw12.cell dE dF dG
 have f199 := (qw12.frozen (a := ⟨w5.heap.size, 0, none⟩) aE).trans f178
 have f200 := (qw12.frozen (a := ⟨w5.heap.size, 1, none⟩) aE).trans f179
 have f201 := (qw12.frozen (a := ⟨w5.heap.size, 2, none⟩) aE).trans f180
 have f202 := (qw12.frozen (a := ⟨w5.heap.size, 3, none⟩) aE).trans f181
 have aF := nlt aE qw12.size
 obtain ⟨dO, dP, dQ, dR⟩ := mv4 qw12.cell dH dI dJ dK
 clear f171 f172 f173 aT dE dF dG f178 f179 f180 f181 aE dH dI dJ dK
 have uw12 := uw11.trans qw12
 clear qw12 uw11
 go_wp2_with fail
 refine (tcParse y m D _ (hE.dn uw12).k HF.out.err).mono ?_
 rintro e w13 ⟨rfl, qw13⟩
 have f208 := (qw13.frozen (a := ⟨w1.heap.size, 0, none⟩) aU).trans f192
 have f209 := (qw13.frozen (a := ⟨w1.heap.size, 1, none⟩) aU).trans f193
 have f210 := (qw13.frozen (a := ⟨w1.heap.size, 2, none⟩) aU).trans f194
 have aG := nlt aU qw13.size
 obtain ⟨dS, dT, dU⟩ := mv3 qw13.cell dL dM dN
 have f215 := (qw13.frozen (a := ⟨w5.heap.size, 0, none⟩) aF).trans f199
 have f216 := (qw13.frozen (a := ⟨w5.heap.size, 1, none⟩) aF).trans f200
 have f217 := (qw13.frozen (a := ⟨w5.heap.size, 2, none⟩) aF).trans f201
 have f218 := (qw13.frozen (a := ⟨w5.heap.size, 3, none⟩) aF).trans f202
 have a4 := nlt aF qw13.size
 obtain ⟨dW, dX, dY, dZ⟩ := mv4 qw13.cell dO dP dQ dR
 clear f192 f193 f194 aU dL dM dN f199 f200 f201 f202 aF dO dP dQ dR
 have uw13 := uw12.trans qw13
 clear qw13 uw12
 go_wp2_with fail
 obtain ⟨W224, hW224⟩ : ∃ W224, W224 = w13.alloc (.cells #[.int .i64 y, .int .i64 m, .int .i64 D] 64) := ⟨_, rfl⟩
 have uW224 : Dn w13 W224 := by rw [hW224]; exact (Dn.refl _).alloc _
 have o225 : w.heap.size ≤ w13.heap.size := by have := uw13.size; omega
 have n226 : w1.heap.size ≠ w13.heap.size := by have := aG; omega
 have n227 : w5.heap.size ≠ w13.heap.size := by have := a4; omega
 have f228 := (uW224.frozen (a := ⟨w1.heap.size, 0, none⟩) aG).trans f208
 have f229 := (uW224.frozen (a := ⟨w1.heap.size, 1, none⟩) aG).trans f209
 have f230 := (uW224.frozen (a := ⟨w1.heap.size, 2, none⟩) aG).trans f210
 have aV := nlt aG uW224.size
 obtain ⟨e4, e5, e6⟩ := mv3 uW224.cell dS dT dU
 have f235 := (uW224.frozen (a := ⟨w5.heap.size, 0, none⟩) a4).trans f215
 have f236 := (uW224.frozen (a := ⟨w5.heap.size, 1, none⟩) a4).trans f216
 have f237 := (uW224.frozen (a := ⟨w5.heap.size, 2, none⟩) a4).trans f217
 have f238 := (uW224.frozen (a := ⟨w5.heap.size, 3, none⟩) a4).trans f218
 have aH := nlt a4 uW224.size
 obtain ⟨e7, e8, e9, eD⟩ := mv4 uW224.cell dW dX dY dZ
 clear f208 f209 f210 aG dS dT dU f215 f216 f217 f218 a4 dW dX dY dZ
 have eE : W224.cell? ⟨w13.heap.size, 0, none⟩ = some (.int .i64 y) := by rw [hW224]; simp [go_sem]
 have eF : W224.cell? ⟨w13.heap.size, 1, none⟩ = some (.int .i64 m) := by rw [hW224]; simp [go_sem]
 have eG : W224.cell? ⟨w13.heap.size, 2, none⟩ = some (.int .i64 D) := by rw [hW224]; simp [go_sem]
 have aW : w13.heap.size < W224.heap.size := by rw [hW224]; simp <;> omega
 have f248 : W224.frozen? ⟨w13.heap.size, 0, none⟩ = false := by rw [hW224]; simp [go_sem]
 have f249 : W224.frozen? ⟨w13.heap.size, 1, none⟩ = false := by rw [hW224]; simp [go_sem]
 have f250 : W224.frozen? ⟨w13.heap.size, 2, none⟩ = false := by rw [hW224]; simp [go_sem]
 rw [← hW224]
 clear hW224
 have vW224 := uw13.trans uW224
 clear uW224 uw13
 go_wp2_with fail
 refine (HK.out _ (hE.dn vW224).p.s).mono ?_
 rintro e wL ⟨⟨g, rfl, hSL, hgl⟩, qL⟩
 have f251 := (qL.frozen (a := ⟨w1.heap.size, 0, none⟩) aV).trans f228
 have f252 := (qL.frozen (a := ⟨w1.heap.size, 1, none⟩) aV).trans f229
 have f253 := (qL.frozen (a := ⟨w1.heap.size, 2, none⟩) aV).trans f230
 have aI := nlt aV qL.size
 obtain ⟨eH, eI, eJ⟩ := mv3 qL.cell e4 e5 e6
 have f258 := (qL.frozen (a := ⟨w5.heap.size, 0, none⟩) aH).trans f235
 have f259 := (qL.frozen (a := ⟨w5.heap.size, 1, none⟩) aH).trans f236
 have f260 := (qL.frozen (a := ⟨w5.heap.size, 2, none⟩) aH).trans f237
 have f261 := (qL.frozen (a := ⟨w5.heap.size, 3, none⟩) aH).trans f238
 have a5 := nlt aH qL.size
 obtain ⟨eK, eL, eM, eN⟩ := mv4 qL.cell e7 e8 e9 eD
 have f267 := (qL.frozen (a := ⟨w13.heap.size, 0, none⟩) aW).trans f248
 have f268 := (qL.frozen (a := ⟨w13.heap.size, 1, none⟩) aW).trans f249
 have f269 := (qL.frozen (a := ⟨w13.heap.size, 2, none⟩) aW).trans f250
 have aJ := nlt aW qL.size
 obtain ⟨eO, eP, eQ⟩ := mv3 qL.cell eE eF eG
 clear f228 f229 f230 aV e4 e5 e6 f235 f236 f237 f238 aH e7 e8 e9 eD f248 f249 f250 aW eE eF eG
 have uL := vW224.trans qL
 clear qL vW224
 go_wp2_with fail
 have hng : g ≠ wL.heap.size := Nat.ne_of_lt hgl
 obtain ⟨W274, hW274⟩ : ∃ W274, W274 = wL.alloc (.cells #[.int .i64 0, .int .i64 0, .int .i64 0] 78) := ⟨_, rfl⟩
 have uW274 : Dn wL W274 := by rw [hW274]; exact (Dn.refl _).alloc _
 have o275 : w.heap.size ≤ wL.heap.size := by have := uL.size; omega
 have n276 : w1.heap.size ≠ wL.heap.size := by have := aI; omega
 have n277 : w5.heap.size ≠ wL.heap.size := by have := a5; omega
 have n278 : w13.heap.size ≠ wL.heap.size := by have := aJ; omega
 replace hSL := hSL.dn uW274
 have f279 := (uW274.frozen (a := ⟨w1.heap.size, 0, none⟩) aI).trans f251
 have f280 := (uW274.frozen (a := ⟨w1.heap.size, 1, none⟩) aI).trans f252
 have f281 := (uW274.frozen (a := ⟨w1.heap.size, 2, none⟩) aI).trans f253
 have eR := nlt aI uW274.size
 obtain ⟨eS, eT, eU⟩ := mv3 uW274.cell eH eI eJ
 have f286 := (uW274.frozen (a := ⟨w5.heap.size, 0, none⟩) a5).trans f258
 have f287 := (uW274.frozen (a := ⟨w5.heap.size, 1, none⟩) a5).trans f259
 have f288 := (uW274.frozen (a := ⟨w5.heap.size, 2, none⟩) a5).trans f260
 have f289 := (uW274.frozen (a := ⟨w5.heap.size, 3, none⟩) a5).trans f261
 have eV := nlt a5 uW274.size
 obtain ⟨eW, eX, eY, eZ⟩ := mv4 uW274.cell eK eL eM eN
 have f295 := (uW274.frozen (a := ⟨w13.heap.size, 0, none⟩) aJ).trans f267
 have f296 := (uW274.frozen (a := ⟨w13.heap.size, 1, none⟩) aJ).trans f268
 have f297 := (uW274.frozen (a := ⟨w13.heap.size, 2, none⟩) aJ).trans f269
 have f0 := nlt aJ uW274.size
 obtain ⟨f1, f2, f3⟩ := mv3 uW274.cell eO eP eQ
 clear f251 f252 f253 aI eH eI eJ f258 f259 f260 f261 a5 eK eL eM eN f267 f268 f269 aJ eO eP eQ
 have f4 : W274.cell? ⟨wL.heap.size, 0, none⟩ = some (.int .i64 0) := by rw [hW274]; simp [go_sem]
 have f5 : W274.cell? ⟨wL.heap.size, 1, none⟩ = some (.int .i64 0) := by rw [hW274]; simp [go_sem]
 have f6 : W274.cell? ⟨wL.heap.size, 2, none⟩ = some (.int .i64 0) := by rw [hW274]; simp [go_sem]
 have fA : wL.heap.size < W274.heap.size := by rw [hW274]; simp <;> omega
 have f306 : W274.frozen? ⟨wL.heap.size, 0, none⟩ = false := by rw [hW274]; simp [go_sem]
 have f307 : W274.frozen? ⟨wL.heap.size, 1, none⟩ = false := by rw [hW274]; simp [go_sem]
 have f308 : W274.frozen? ⟨wL.heap.size, 2, none⟩ = false := by rw [hW274]; simp [go_sem]
 rw [← hW274]
 clear hW274
 have vW274 := uL.trans uW274
 clear uW274 uL
 have hT0 : TcL w W274 (w1.heap.size) (w5.heap.size) (w13.heap.size) (wL.heap.size) g y m D a b L 0 0 0 := ⟨vW274, ⟨eS, eT, eU, f279, f280, f281, eR⟩, ⟨eW, eX, eY, eZ, f286, f287, f288, f289, eV⟩, ⟨f1, f2, f3, f295, f296, f297, f0⟩, ⟨f4, f5, f6, f306, f307, f308, fA⟩, hSL, n276, n277, n278, hng, o2, o275⟩
 obtain ⟨bc, hbc⟩ : ∃ n, n = w1.heap.size := ⟨_, rfl⟩
 obtain ⟨by_, hby⟩ : ∃ n, n = w5.heap.size := ⟨_, rfl⟩
 obtain ⟨bk, hbk⟩ : ∃ n, n = w13.heap.size := ⟨_, rfl⟩
 obtain ⟨bp, hbp⟩ : ∃ n, n = wL.heap.size := ⟨_, rfl⟩
 rw [← hbc, ← hby, ← hbk, ← hbp] at hT0
 rw [← hbc, ← hby, ← hbk, ← hbp]
 clear eS eT eU f279 f280 f281 eR eW eX eY eZ f286 f287 f288 f289 eV f1 f2 f3 f295 f296 f297 f0 f4 f5 f6 f306 f307 f308 fA n40 n226 n227 n276 n277 n278 o2 o39 o225 o275 hSL hng hgl hbc hby hbk hbp
 have lz : bc ≠ bp := hT0.nc
 go_wp2_with fail
 go_loopw [24] (fun i wr => ∃ k : Nat, k ≤ L.length ∧ i = .int .i64 k ∧ TcL w wr bc by_ bk bp g y m D a b L (cn 33 37 (L.take k)) (cn 37 40 (L.take k)) (cn 40 42 (L.take k))) (fun i _ => L.length - (intOf i).toNat)
 case atStart => exact ⟨0, by omega, rfl, hT0⟩
 clear hT0 vW274 lc0
 case round =>
  obtain ⟨k, hk, rfl, hT⟩ := hrel
  by_cases hlt : k < L.length
  ·
   have c1 : decide ((k : Int) < L.length) = true := by simp; omega
   obtain ⟨x, hx⟩ : ∃ x, L[k]? = some x := ⟨L[k], by simp [hlt]⟩
   have b0 := cn_le 33 37 (L.take k)
   have b1 := cn_le 37 40 (L.take k)
   have b2 := cn_le 40 42 (L.take k)
   have HC0 := Lib.hid (cn_take 33 37 L k x hx)
   have HC1 := Lib.hid (cn_take 37 40 L k x hx)
   have HC2 := Lib.hid (cn_take 40 42 L k x hx)
   have HX := Lib.hid hx
   have HS := Lib.hid (HM.out x (List.mem_of_getElem? hx))
   clear hx
   obtain ⟨x1, x2, -⟩ := HS.out
   have hll : (L.take k).length ≤ 21 := by rw [List.length_take]; omega
   obtain ⟨n0, e0⟩ : ∃ n, n = cn 33 37 (L.take k) := ⟨_, rfl⟩
   obtain ⟨n1, e1⟩ : ∃ n, n = cn 37 40 (L.take k) := ⟨_, rfl⟩
   obtain ⟨n2, e2⟩ : ∃ n, n = cn 40 42 (L.take k) := ⟨_, rfl⟩
   rw [← e0] at hT b0 HC0
   rw [← e1] at hT b1 HC1
   rw [← e2] at hT b2 HC2
   clear e0 e1 e2
   replace b0 : n0 ≤ 21 := by omega
   replace b1 : n1 ≤ 21 := by omega
   replace b2 : n2 ≤ 21 := by omega
   have q0 := hT.sl k x HX.out
   by_cases h33 : x < 33
   ·
     have t1 : decide (x < 33) = true := by simp; omega
     have HT := Lib.hid hT
     go_wp2_with fail
     refine (HF.out.runA x x1 x2 _ (hE.dn HT.out.u).p.s).mono ?_
     rintro e w6 ⟨⟨p, q, e, rfl⟩, q6⟩
     have hT6 := HT.out.dn q6
     have q0' := hT6.sl k x HX.out
     have qB := ((Dn.refl w6).alloc (.cells #[.int .i8 0, .int .i64 p, .int .i8 0, .int .i64 q] 30)).cell q0'
     clear hT q0 q0'
     go_wp2_with fail
     go_roundw
     case rel => exact ⟨k + 1, by omega, by simp, by rw [HC0.out, HC1.out, HC2.out, if_neg (by omega), if_neg (by omega), if_neg (by omega)]; exact hT6.dn ((Dn.refl _).alloc _)⟩
     case measure => simp [intOf]; omega
   have t1 : decide (x < 33) = false := by simp; omega
   by_cases h37 : x < 37
   ·
     have t2 : decide (x < 37) = true := by simp; omega
     have HT := Lib.hid hT
     go_wp2_with fail
     refine (HF.out.run x (by omega) x2 HS.out.2.2 _ (hE.dn HT.out.u).p.s).mono ?_
     rintro e w6 ⟨⟨p, q, rfl, p1, p2, p3, p4⟩, q6⟩
     have hT6 := HT.out.dn q6
     have q0' := hT6.sl k x HX.out
     have HP := Lib.hid (And.intro p1 (And.intro p2 (And.intro p3 p4)))
     clear hT q0 p1 p2 p3 p4 q6
     have dB := (Dn.refl w6).alloc (.cells #[.int .i8 0, .int .i64 p, .int .i8 0, .int .i64 q] 30)
     have hTB := hT6.dn dB
     have qB := dB.cell q0'
     have hTC := (hT6.s0 (n0 + 1)).dn ((Dn.refl _).alloc (.cells #[.int .i8 0, .int .i64 p, .int .i8 0, .int .i64 q] 30))
     have HTC := Lib.hid hTC
     obtain ⟨l1, l2, -, -⟩ := hT6.lt
     obtain ⟨-, -, -, -, ⟨pc0, pc1, pc2, pf0, pf1, pf2, -⟩, -, -, -, -, -, -, -⟩ := hTB
     obtain ⟨-, -, ⟨y0, y1', y2', y3, -, -, -, -, -⟩, -, -, -, -, -, -, -, -, -⟩ := hTC
     have sz : (w6.setCell ⟨bp, 0, none⟩ (.int .i64 ((n0 + 1 : Nat) : Int))).heap.size = w6.heap.size := by simp
     have rC := C4.new (w6.setCell ⟨bp, 0, none⟩ (.int .i64 ((n0 + 1 : Nat) : Int))) (.int .i8 0) (.int .i64 p) (.int .i8 0) (.int .i64 q) 30
     rw [sz] at rC
     obtain ⟨r0, r1, r2, r3, -, -, -, -, -⟩ := rC
     have np : bp ≠ w6.heap.size := Nat.ne_of_lt l1
     clear sz q0' dB
     go_wp2_with fail
     have ip : I64 p := ⟨by have := HP.out; have := HI.out.2.2.2.2.2.2.1.1; omega, by have := HP.out; omega⟩
     have iq : I64 q := ⟨by have := HP.out; omega, by have := HP.out; have := HI.out.2.2.2.2.2.2.2.1.2; omega⟩
     refine (tHas p q day ip iq ⟨d1, d2⟩ HP.out.2.1 HP.out.2.2.1 _).mono ?_
     rintro e w7 ⟨rfl, q7⟩
     have hT7 : TcL w w7 bc by_ bk bp g y m D a b L (n0 + 1) n1 n2 := HTC.out.dn q7
     replace r0 := q7.cell r0
     replace r1 := q7.cell r1
     replace r2 := q7.cell r2
     replace r3 := q7.cell r3
     clear qB
     clear y0 y1' y2' y3 pc0 pc1 pc2 pf0 pf1 pf2
     have HT7 := Lib.hid hT7
     obtain ⟨-, -, ⟨y0, y1', y2', y3, -, -, -, -, -⟩, -, -, -, -, -, -, -, -, -⟩ := hT7
     clear q7
     go_wp2_with fail
     refine (tWi p q a b ip iq HI.out.2.2.2.2.2.2.1 HI.out.2.2.2.2.2.2.2.1 HP.out.1 (by have := HP.out; omega) HP.out.2.2.2 _).mono ?_
     rintro e w8 ⟨rfl, q8⟩
     have hT8 := HT7.out.dn q8
     clear r0 r1 r2 r3 y0 y1' y2' y3 q8
     go_wp2_with fail
     go_roundw
     case rel => exact ⟨k + 1, by omega, by simp, by rw [HC0.out, HC1.out, HC2.out, if_pos ⟨by omega, by omega⟩, if_neg (by omega), if_neg (by omega)]; exact hT8⟩
     case measure => simp [intOf]; omega
   have t2 : decide (x < 37) = false := by simp; omega
   by_cases h40 : x < 40
   ·
     have t3 : decide (x < 40) = true := by simp; omega
     have HT := Lib.hid hT
     go_wp2_with fail
     refine (HF.out.run x (by omega) x2 HS.out.2.2 _ (hE.dn HT.out.u).p.s).mono ?_
     rintro e w6 ⟨⟨p, q, rfl, p1, p2, p3, p4⟩, q6⟩
     have hT6 := HT.out.dn q6
     have q0' := hT6.sl k x HX.out
     have HP := Lib.hid (And.intro p1 (And.intro p2 (And.intro p3 p4)))
     clear hT q0 p1 p2 p3 p4 q6
     have dB := (Dn.refl w6).alloc (.cells #[.int .i8 0, .int .i64 p, .int .i8 0, .int .i64 q] 30)
     have hTB := hT6.dn dB
     have qB := dB.cell q0'
     have hTC := (hT6.s1 (n1 + 1)).dn ((Dn.refl _).alloc (.cells #[.int .i8 0, .int .i64 p, .int .i8 0, .int .i64 q] 30))
     have HTC := Lib.hid hTC
     obtain ⟨l1, l2, -, -⟩ := hT6.lt
     obtain ⟨-, -, -, -, ⟨pc0, pc1, pc2, pf0, pf1, pf2, -⟩, -, -, -, -, -, -, -⟩ := hTB
     obtain ⟨-, -, ⟨y0, y1', y2', y3, -, -, -, -, -⟩, -, -, -, -, -, -, -, -, -⟩ := hTC
     have sz : (w6.setCell ⟨bp, 1, none⟩ (.int .i64 ((n1 + 1 : Nat) : Int))).heap.size = w6.heap.size := by simp
     have rC := C4.new (w6.setCell ⟨bp, 1, none⟩ (.int .i64 ((n1 + 1 : Nat) : Int))) (.int .i8 0) (.int .i64 p) (.int .i8 0) (.int .i64 q) 30
     rw [sz] at rC
     obtain ⟨r0, r1, r2, r3, -, -, -, -, -⟩ := rC
     have np : bp ≠ w6.heap.size := Nat.ne_of_lt l1
     clear sz q0' dB
     go_wp2_with fail
     have ip : I64 p := ⟨by have := HP.out; have := HI.out.2.2.2.2.2.2.1.1; omega, by have := HP.out; omega⟩
     have iq : I64 q := ⟨by have := HP.out; omega, by have := HP.out; have := HI.out.2.2.2.2.2.2.2.1.2; omega⟩
     refine (tHas p q day ip iq ⟨d1, d2⟩ HP.out.2.1 HP.out.2.2.1 _).mono ?_
     rintro e w7 ⟨rfl, q7⟩
     have hT7 : TcL w w7 bc by_ bk bp g y m D a b L n0 (n1 + 1) n2 := HTC.out.dn q7
     replace r0 := q7.cell r0
     replace r1 := q7.cell r1
     replace r2 := q7.cell r2
     replace r3 := q7.cell r3
     clear qB
     clear y0 y1' y2' y3 pc0 pc1 pc2 pf0 pf1 pf2
     have HT7 := Lib.hid hT7
     obtain ⟨-, -, ⟨y0, y1', y2', y3, -, -, -, -, -⟩, -, -, -, -, -, -, -, -, -⟩ := hT7
     clear q7
     go_wp2_with fail
     refine (tWi p q a b ip iq HI.out.2.2.2.2.2.2.1 HI.out.2.2.2.2.2.2.2.1 HP.out.1 (by have := HP.out; omega) HP.out.2.2.2 _).mono ?_
     rintro e w8 ⟨rfl, q8⟩
     have hT8 := HT7.out.dn q8
     clear r0 r1 r2 r3 y0 y1' y2' y3 q8
     go_wp2_with fail
     go_roundw
     case rel => exact ⟨k + 1, by omega, by simp, by rw [HC0.out, HC1.out, HC2.out, if_neg (by omega), if_pos ⟨by omega, by omega⟩, if_neg (by omega)]; exact hT8⟩
     case measure => simp [intOf]; omega
   ·
     have t3 : decide (x < 40) = false := by simp; omega
     have HT := Lib.hid hT
     go_wp2_with fail
     refine (HF.out.run x (by omega) x2 HS.out.2.2 _ (hE.dn HT.out.u).p.s).mono ?_
     rintro e w6 ⟨⟨p, q, rfl, p1, p2, p3, p4⟩, q6⟩
     have hT6 := HT.out.dn q6
     have q0' := hT6.sl k x HX.out
     have HP := Lib.hid (And.intro p1 (And.intro p2 (And.intro p3 p4)))
     clear hT q0 p1 p2 p3 p4 q6
     have dB := (Dn.refl w6).alloc (.cells #[.int .i8 0, .int .i64 p, .int .i8 0, .int .i64 q] 30)
     have hTB := hT6.dn dB
     have qB := dB.cell q0'
     have hTC := (hT6.s2 (n2 + 1)).dn ((Dn.refl _).alloc (.cells #[.int .i8 0, .int .i64 p, .int .i8 0, .int .i64 q] 30))
     have HTC := Lib.hid hTC
     obtain ⟨l1, l2, -, -⟩ := hT6.lt
     obtain ⟨-, -, -, -, ⟨pc0, pc1, pc2, pf0, pf1, pf2, -⟩, -, -, -, -, -, -, -⟩ := hTB
     obtain ⟨-, -, ⟨y0, y1', y2', y3, -, -, -, -, -⟩, -, -, -, -, -, -, -, -, -⟩ := hTC
     have sz : (w6.setCell ⟨bp, 2, none⟩ (.int .i64 ((n2 + 1 : Nat) : Int))).heap.size = w6.heap.size := by simp
     have rC := C4.new (w6.setCell ⟨bp, 2, none⟩ (.int .i64 ((n2 + 1 : Nat) : Int))) (.int .i8 0) (.int .i64 p) (.int .i8 0) (.int .i64 q) 30
     rw [sz] at rC
     obtain ⟨r0, r1, r2, r3, -, -, -, -, -⟩ := rC
     have np : bp ≠ w6.heap.size := Nat.ne_of_lt l1
     clear sz q0' dB
     go_wp2_with fail
     have ip : I64 p := ⟨by have := HP.out; have := HI.out.2.2.2.2.2.2.1.1; omega, by have := HP.out; omega⟩
     have iq : I64 q := ⟨by have := HP.out; omega, by have := HP.out; have := HI.out.2.2.2.2.2.2.2.1.2; omega⟩
     refine (tHas p q day ip iq ⟨d1, d2⟩ HP.out.2.1 HP.out.2.2.1 _).mono ?_
     rintro e w7 ⟨rfl, q7⟩
     have hT7 : TcL w w7 bc by_ bk bp g y m D a b L n0 n1 (n2 + 1) := HTC.out.dn q7
     replace r0 := q7.cell r0
     replace r1 := q7.cell r1
     replace r2 := q7.cell r2
     replace r3 := q7.cell r3
     clear qB
     clear y0 y1' y2' y3 pc0 pc1 pc2 pf0 pf1 pf2
     have HT7 := Lib.hid hT7
     obtain ⟨-, -, ⟨y0, y1', y2', y3, -, -, -, -, -⟩, -, -, -, -, -, -, -, -, -⟩ := hT7
     clear q7
     go_wp2_with fail
     refine (tWi p q a b ip iq HI.out.2.2.2.2.2.2.1 HI.out.2.2.2.2.2.2.2.1 HP.out.1 (by have := HP.out; omega) HP.out.2.2.2 _).mono ?_
     rintro e w8 ⟨rfl, q8⟩
     have hT8 := HT7.out.dn q8
     clear r0 r1 r2 r3 y0 y1' y2' y3 q8
     go_wp2_with fail
     go_roundw
     case rel => exact ⟨k + 1, by omega, by simp, by rw [HC0.out, HC1.out, HC2.out, if_neg (by omega), if_neg (by omega), if_pos ⟨by omega, by omega⟩]; exact hT8⟩
     case measure => simp [intOf]; omega
  ·
   obtain rfl : k = L.length := by omega
   have c1 : decide ((L.length : Int) < L.length) = false := by simp
   rw [List.take_length, HN.out.1, HN.out.2.1, HN.out.2.2] at hT
   have HT := Lib.hid hT
   obtain ⟨hu, ⟨a0, a1, a2, af0, af1, af2, al⟩, -, ⟨k0, k1, k2, -, -, -, -⟩, ⟨p0, p1, p2, -, -, -, -⟩, -, -, -, -, -, lc, -⟩ := hT
   have e3 := eq_three wr
   by_cases h9 : 9223372036854629710 < day
   · have t9 : decide (9223372036854629710 < day) = true := by simp; omega
     go_wp2_with fail
     refine (live11 _ (hE.dn hu).p).mono ?_
     rintro e w9 ⟨rfl, q9⟩
     go_wp2_with fail
     go_ret
     exact ⟨rfl, hu.trans q9⟩
   have t9 : decide (9223372036854629710 < day) = false := by simp; omega
   by_cases hY : IsY (y + 400)
   · have HY := Lib.hid hY
     clear hY
     go_wp2_with fail
     refine (HF.out.of2 (by omega) HY.out _ (hE.dn hu).p.c).mono ?_
     rintro e w9 ⟨rfl, q9⟩
     have u9 := hu.trans q9
     have hC := HT.out.c.dn q9
     clear a0 a1 a2 k0 k1 k2 p0 p1 p2 af0 af1 af2 al
     have hC' := hC
     obtain ⟨a0, a1, a2, af0, af1, af2, al⟩ := hC'
     have na : bc ≠ w9.heap.size := Nat.ne_of_lt al
     go_wp2_with fail
     have hD : Dn w ((w9.setCell ⟨bc, 0, none⟩ (.int .i64 (y + 400))).alloc (.cells #[.int .i64 (y + 400), .int .i64 m, .int .i64 D] 64)) := (u9.setCell lc _).alloc _
     refine (HF.out.wd _).mono ?_
     rintro e w10 ⟨rfl, q10⟩
     have u10 := hD.trans q10
     clear q10 hD
     go_wp2_with fail
     refine (HF.out.wd2 (by omega) _).mono ?_
     rintro e w11 ⟨rfl, q11⟩
     have u11 := u10.trans q11
     go_wp2_with fail
     refine (live11 _ (hE.dn u11).p).mono ?_
     rintro e w12 ⟨rfl, q12⟩
     go_wp2_with fail
     go_ret
     exact ⟨rfl, u11.trans q12⟩
   · have hy9 : 9999999999999600 < y := by unfold IsY at hY; omega
     have HY := Lib.hid hY
     clear hY
     have ty : decide (9999999999999600 < y) = true := by simp; omega
     go_wp2_with fail
     refine (HF.out.of3 (by omega) HY.out _ (hE.dn hu).p.c).mono ?_
     rintro e w9 ⟨rfl, q9⟩
     have u9 := hu.trans q9
     have hC := HT.out.c.dn q9
     clear a0 a1 a2 k0 k1 k2 p0 p1 p2 af0 af1 af2 al
     obtain ⟨a0, a1, a2, af0, af1, af2, al⟩ := hC
     go_wp2_with fail
     refine (live11 _ (hE.dn (u9.alloc _)).p).mono ?_
     rintro e w12 ⟨rfl, q12⟩
     go_wp2_with fail
     go_ret
     exact ⟨rfl, (u9.alloc _).trans q12⟩
theorem preCl90x1 (w1 : World) : ∃ W1, W1 = w1.alloc (.cells #[.int .i64 0, .int .i64 0, .int .i64 0] 64) ∧ (Dn w1 W1) ∧ (W1.cell? ⟨w1.heap.size, 0, none⟩ = some (.int .i64 0)) ∧ (W1.cell? ⟨w1.heap.size, 1, none⟩ = some (.int .i64 0)) ∧ (W1.cell? ⟨w1.heap.size, 2, none⟩ = some (.int .i64 0)) ∧ (w1.heap.size < W1.heap.size) := by
  obtain ⟨W1, hW1⟩ : ∃ W1, W1 = w1.alloc (.cells #[.int .i64 0, .int .i64 0, .int .i64 0] 64) := ⟨_, rfl⟩
  exact ⟨W1, hW1, (by rw [hW1]; exact (Dn.refl _).alloc _), (by rw [hW1]; simp [go_sem]), (by rw [hW1]; simp [go_sem]), (by rw [hW1]; simp [go_sem]), (by rw [hW1]; simp <;> omega)⟩
theorem topCalendar_no (day : Int) (hd : I64 day) (hy : ¬ IsY (Cal.yr day)) (w : World) (hE : EnvQ w) :
  Calls Tryz.prog 5 #[.int .i64 day] w fun ro w' => ro = .returned (.bool true) ∧ Dn w w' := by
 have HY := Lib.hid hy
 have HD := Lib.hid hd
 clear hy hd
 go_enter Tryz.func5, Tryz.ntmps5
 go_wp2_with fail
 refine (cvOf_no _ HD.out HY.out _ hE.p.c).mono ?_
 rintro e w1 ⟨rfl, qw1⟩
 have uw1 := qw1
 clear qw1
 go_wp2_with fail
 obtain ⟨W1, hW1, uW1, c2, c3, c4, l5⟩ := preCl90x1 w1 
 rw [← hW1]
 clear hW1
 have vW1 := uw1.trans uW1
 clear uW1 uw1
 go_wp2_with fail
 refine (tSame (rOf_no _ _ HD.out HY.out)).mono ?_
 rintro e w2 ⟨rfl, qw2⟩
 have l6 := nlt l5 qw2.size
 obtain ⟨c7, c8, c9⟩ := mv3 qw2.cell c2 c3 c4
 clear l5 c2 c3 c4
 have uw2 := vW1.trans qw2
 clear qw2 vW1
 go_wp2_with fail
 refine (live11 _ (hE.dn uw2).p).mono ?_
 rintro e w3 ⟨rfl, qw3⟩
 have l10 := nlt l6 qw3.size
 obtain ⟨c11, c12, c13⟩ := mv3 qw3.cell c7 c8 c9
 clear l6 c7 c8 c9
 have uw3 := uw2.trans qw3
 clear qw3 uw2
 go_wp2_with fail
 go_ret
 exact ⟨rfl, uw3⟩
theorem topCalendar_true (day : Int) (w : World) (hd : I64 day) (hE : EnvQ w) :
   Calls Tryz.prog 5 #[.int .i64 day] w fun ro w' => ro = .returned (.bool true) ∧ Dn w w' := by
 by_cases hy : IsY (Cal.yr day)
 · exact topCalendar_yes day _ _ _ _ _ _ _ _ ⟨hd, rfl, rfl, rfl, rfl, rfl, rfl, rfl, hy, mo_bd day, rfl⟩ w hE
 · exact topCalendar_no day hd hy w hE
open Go.ChangeShapes Go.WideShapes Go.ChangeAt Go.RowKit
theorem gTab : Tryz.prog.globalNamed "internal/strconv.uint64pow10" = some 4 := by kernel_rfl
theorem tTab : (Tryz.prog.globals[4]?).map (·.type) = some 253 := by kernel_rfl
theorem gErr : Tryz.prog.globalNamed "strconv.ErrRange" = some 9 := by kernel_rfl
theorem tErr : (Tryz.prog.globals[9]?).map (·.type) = some 183 := by kernel_rfl
theorem cU64 : Tryz.prog.cellsOf 146 = 1 := by kernel_rfl
theorem cTab : Tryz.prog.cellsOf 253 = 20 := by kernel_rfl
theorem iface_cells {P : Program} {W : World} {t : TypeId} {ms : Array (String × TypeId)} {sp : Nat → Bool} {fuel : Nat} {cs : List Value} {nm : String} {d : DataW Unit} {pl : List MemPlace}
   (ht : P.underlying t = some (.interface ms)) (h : DataW.trod (fun _ => ()) P W 0 sp false fuel t cs = some (.iface nm d, pl)) : ∃ u v, cs = [.iface u v] := by
 cases fuel with
 | zero => simp [DataW.trod] at h
 | succ fuel =>
   unfold DataW.trod at h
   rw [ht] at h
   split at h <;> simp_all
open Go.ChangeShapes Go.WideShapes Go.ChangeAt Go.RowKit
theorem handed_shaped {H : Type} {enc : TypeId × Value → H} {a : Assume} {C : Checked} {os : Os} {f : FuncId} {fn : Func} {s : ChangeSpec} {conds : List PathCond} {apart fresh handsOn again : Bool} {X : World → Array Value → Prop}
  (hX : ∀ (w w' : World) (args : Array Value), w.heap = w'.heap → X w args → X w' args)
  (own : ownKnob C.prog.godebug = none) (started : os.Started) (noInit : C.prog.inits.idxOf? f = none) (hfn : C.prog.funcs[f]? = some fn)
  (witness : ∃ (w : World) (tape : Tape) (i : Input), w.os = os ∧ (w.forCall tape i).Shaped C.prog ∧ i.vars = [] ∧ Input.okWide C.prog (w.forCall tape i) .any w.heap.size f i ∧
   ((s.pre enc C.prog fn conds apart (w.forCall tape i).memory i.args ∧ X (w.forCall tape i).memory i.args) ∧ sizedMet enc C.prog fn (OpenSpec.ofChange s) apart (w.forCall tape i).memory i.args) ∧ a.holds C.prog (lone (Frame.enter C.prog f i.args .normal) [] (w.forCall tape i)))
  (contract : ∀ (W : World) (base : Nat) (args : Array Value) (ds gs : List (DataW H)) (before : List MemPlace), W.ShapedOpen C.prog →
   (∀ (j : Nat) t v, fn.params[j]? = some t → args[j]? = some v → Value.okWide C.prog W .any base t v) →
   DataW.Whole enc C.prog fn.params.toList s.vars apart W args.toList ds gs before →
   conds.all (PathCond.test C.prog ⟨fn.params.toList, ds, s.plain.varTypes C.prog, gs⟩) = true →
   (DataW.weightsEach C.prog (fn.params.toList ++ s.plain.varTypes C.prog) (ds ++ gs)).all (· ≤ reachBytes) = true → X W args →
   a.holds C.prog (lone (Frame.enter C.prog f args .normal) [] W) →
   Calls C.prog f args W fun e W' => ∃ v, e = .returned v ∧ s.post enc C.prog fn apart fresh handsOn again W args v W') :
  ReturnsInHanded a C os f .any (fun w args => (s.pre enc C.prog fn conds apart w args ∧ X w args) ∧ sizedMet enc C.prog fn (OpenSpec.ofChange s) apart w args) (s.post enc C.prog fn apart fresh handsOn again) := by
 refine returnsInHanded_of_calls own started noInit witness fun w tape i _ hsh _ hok hpre hholds => ?_
 obtain ⟨_, _, _, fn', hfn', _, _, _, _, hval⟩ := hok
 obtain rfl : fn' = fn := Option.some.inj (hfn'.symm.trans hfn)
 obtain ⟨⟨⟨ds, gs, before, hw, hc⟩, hx⟩, hz⟩ := hpre
 refine (contract _ w.heap.size i.args ds gs before hsh hval (DataW.Whole.of_heap (w' := w.forCall tape i) (by rfl) hw) hc (hz.weights hw) (hX _ _ _ (by rfl) hx) hholds).mono fun e W' ⟨v, he, hp⟩ => ?_
 subst he
 exact ChangeSpec.post_blind hp
open Go.ChangeShapes Go.WideShapes Go.ChangeAt Go.RowKit
theorem gSteps : Tryz.prog.globalNamed "circa/years.steps" = some 3 := by kernel_rfl
theorem tSteps : (Tryz.prog.globals[3]?).map (·.type) = some 191 := by kernel_rfl
theorem cStep : Tryz.prog.cellsOf 192 = 2 := by kernel_rfl
theorem cInt64 : Tryz.prog.cellsOf 2 = 1 := by kernel_rfl
theorem two_cells {P : Program} {W : World} {t e : TypeId} {sp : Nat → Bool} {m : Nat} {n0 n1 : Int} {cs : List Value} {pl : List MemPlace}
   {f0 f1 : Field} (ht : P.underlying t = some (.struct #[f0, f1])) (h0 : f0.type = e) (h1 : f1.type = e) (ho0 : f0.offset = 0) (ho1 : f1.offset = 1) (he : P.underlying e = some (.int .i64)) (hce : P.cellsOf e = 1) (hct : P.cellsOf t = 2)
   (h : DataW.trod (fun _ => ()) P W 0 sp false m t cs = some (.agg [.lit (.int .i64 n0), .lit (.int .i64 n1)], pl)) : cs = [.int .i64 n0, .int .i64 n1] := by
 obtain ⟨y0, y1, n, hx, hl, hr0, hr1⟩ := trod_struct2 ht h
 rw [h0, ho0, hce] at hr0
 rw [h1, ho1, hce] at hr1
 obtain ⟨a, ha, ey0, _⟩ := DataW.trod_int he hr0
 obtain ⟨b, hb, ey1, _⟩ := DataW.trod_int he hr1
 subst ey0 ey1
 simp only [Prod.mk.injEq, DataW.agg.injEq, List.cons.injEq, DataW.lit.injEq, Lit.int.injEq, true_and, and_true] at hx
 obtain ⟨⟨rfl, rfl⟩, _⟩ := hx
 rw [hct] at hl
 match cs, hl with
 | [x, y], _ =>
   simp at ha hb
   rw [ha, hb]
theorem mapM_two {α : Type} {f : Nat → Option α} {x y : α} (h : (List.range 2).mapM f = some [x, y]) : f 0 = some x ∧ f 1 = some y := by
 have e : List.range 2 = [0, 1] := rfl
 rw [e] at h
 simp only [List.mapM_cons, List.mapM_nil, Option.bind_eq_bind, Option.bind_eq_some_iff, Option.pure_def, Option.some.injEq, List.cons.injEq] at h
 obtain ⟨a, ha, _, ⟨b, hb, _, rfl, rfl⟩, rfl, h3⟩ := h
 simp only [List.cons.injEq, and_true] at h3
 subst h3
 exact ⟨ha, hb⟩
theorem steps_of_vars {W : World} {rest : List (String × DataW Unit)} {ps : List MemPlace} (h : DataW.LaidVars Tryz.prog W (("circa/years.steps", Rows.laid_circa_years_steps) :: rest) ps) : Steps W := by
 obtain ⟨g, t, cs, fuel, p, q, hg, ht, hv, hd, _, _⟩ := h
 obtain rfl := Option.some.inj (gSteps.symm.trans hg)
 obtain rfl := Option.some.inj (tSteps.symm.trans ht)
 rcases Deep.open_slice Tryz.underlying191 hd with ⟨_, hx⟩ | ⟨a, len, cap, m, n, D, Pl, hcs, _, hlc, hcap, hm, hx, hel⟩
 · simp [Rows.laid_circa_years_steps] at hx
 · simp only [Rows.laid_circa_years_steps, Prod.mk.injEq, DataW.slice.injEq] at hx
   obtain ⟨⟨hx1, hx2⟩, _⟩ := hx
   have hlen : len = 3 := by have := congrArg List.length hx1; simpa using this.symm
   subst hlen
   have hmm : m = cap := by simpa using hm
   have hrange : List.range 3 = [0, 1, 2] := rfl
   rw [hrange] at hx1
   simp only [List.map_cons, List.map_nil, List.cons.injEq, and_true] at hx1
   obtain ⟨d0, d1, d2⟩ := hx1
   have cell : ∀ i n0 n1, i < m → D i = .agg [.lit (.int .i64 n0), .lit (.int .i64 n1)] → W.cell? (a.add (i * 2)) = some (.int .i64 n0) ∧ W.cell? ((a.add (i * 2)).add 1) = some (.int .i64 n1) := by
     intro i n0 n1 hi hD
     obtain ⟨cs', hc, ht'⟩ := hel i hi
     rw [cStep] at hc
     rw [hD] at ht'
     have e := two_cells Tryz.underlying192 rfl rfl rfl rfl Tryz.underlying2 cInt64 cStep ht'
     subst e
     simp only [World.cells?, Nat.zero_le, if_true] at hc
     have := mapM_two hc
     simpa [Addr.add] using this
   obtain ⟨c0, c1⟩ := cell 0 4 1 (by omega) d0.symm
   obtain ⟨c2, c3⟩ := cell 1 100 (-1) (by omega) d1.symm
   obtain ⟨c4, c5⟩ := cell 2 400 1 (by omega) d2.symm
   have hg0 := World.var?_cell gSteps hv 0
   have hsp : a.spot = none := by
     have e : a.add (0 * 2) = a := by simp [Addr.add]
     rw [e] at c0
     simp only [World.cell?] at c0
     split at c0
     · split at c0
       · cases c0
       · rename_i h; simpa using h
     · cases c0
   obtain ⟨b, off, s⟩ := a
   simp only at hsp
   subst hsp
   refine ⟨b, off, cap, ?_, ?_, ?_, ?_, ?_, ?_, ?_⟩
   · rw [hg0]
     have := congrArg (·[0]?) hcs
     simpa using this
   · simpa [Addr.add] using c0
   · simpa [Addr.add] using c1
   · simpa [Addr.add] using c2
   · simpa [Addr.add] using c3
   · simpa [Addr.add] using c4
   · simpa [Addr.add] using c5
end Go.Proofs.YteodjglbpfmikaaGreatDoor
