/- Walks and laws that the claim's theorem leans on: part 11. -/
import Derived.Test.YtoghoddjkdoohaaGreatDoorZPl1
import Derived.Test.YtoghoddjkdoohaaGreatDoorZPl4
import Derived.Test.YtoghoddjkdoohaaGreatDoorZPl5
import Derived.Test.YtoghoddjkdoohaaGreatDoorZPl8
import Derived.Test.YtoghoddjkdoohaaGreatDoorZPl9
import Derived.Test.YtoghoddjkdoohaaGreatDoorZPl10
import Derived.Laws.AppendOwnNone
import Derived.Laws.OwnMore
import Derived.OrdersHeld
import Derived.Deep.RegionHeld
namespace Go.Proofs.YtoghoddjkdoohaaGreatDoor
open Go.RowKit
def cmpR (x y : Rq) : Int := if eC x.a x.b y.a y.b ≠ 0 then eC x.a x.b y.a y.b else eC x.c x.d y.c y.d
theorem cmpR_lt {x y : Rq} : cmpR x y < 0 ↔ x.a < y.a ∨ x.a = y.a ∧ (x.b < y.b ∨ x.b = y.b ∧ (x.c < y.c ∨ x.c = y.c ∧ x.d < y.d)) := by
 unfold cmpR eC c3
 repeat' split
 all_goals omega
theorem cmpR_irrefl (x : Rq) : decide (cmpR x x < 0) = false := by
 rw [decide_eq_false_iff_not, cmpR_lt]; omega
theorem cmpR_trans (x y z : Rq) (h : decide (cmpR x y < 0) = true) (k : decide (cmpR y z < 0) = true) : decide (cmpR x z < 0) = true := by
 rw [decide_eq_true_eq, cmpR_lt] at *; omega
theorem cmpR_ntrans (x y z : Rq) (h : decide (cmpR x y < 0) = false) (k : decide (cmpR y z < 0) = false) : decide (cmpR x z < 0) = false := by
 rw [decide_eq_false_iff_not, cmpR_lt] at *; omega
theorem cmpR_total (x y : Rq) (h : decide (cmpR x y < 0) = false) (k : decide (cmpR y x < 0) = false) : x = y := by
 rw [decide_eq_false_iff_not, cmpR_lt] at *
 cases x; cases y; simp only [Rq.mk.injEq] at *; omega
def srt (l : List Rq) : List Rq := l.mergeSort fun x y => !decide (cmpR y x < 0)
theorem srt_perm (l : List Rq) : (srt l).Perm l := List.mergeSort_perm _ _
theorem srt_mem (l : List Rq) (x : Rq) : x ∈ srt l ↔ x ∈ l := (srt_perm l).mem_iff
theorem srt_len (l : List Rq) : (srt l).length = l.length := (srt_perm l).length_eq
theorem srt_pair (l : List Rq) : (srt l).Pairwise fun x y => ¬ cmpR y x < 0 := by
 have h := List.pairwise_mergeSort (le := fun x y : Rq => !decide (cmpR y x < 0)) (fun a b c h1 h2 => by
  simp only [Bool.not_eq_true'] at *
  exact cmpR_ntrans c b a h2 h1) (fun a b => by
  by_cases h : cmpR a b < 0
  · simp only [Bool.or_eq_true, Bool.not_eq_true', decide_eq_false_iff_not, cmpR_lt] at *; omega
  · simp [h]) l
 exact h.imp (fun h => by simpa using h)
theorem asc_of_pair : ∀ {l : List Rq}, (∀ x ∈ l, x.ok) → l.Pairwise (fun x y => ¬ cmpR y x < 0) → Asc l
 | [], _, _ => trivial
 | x :: t, hk, h => by
   have hx := hk x List.mem_cons_self
   rw [List.pairwise_cons] at h
   refine ⟨hx, fun y hy => ?_, asc_of_pair (fun z hz => hk z (List.mem_cons_of_mem _ hz)) h.2⟩
   have h1 := h.1 y hy
   have hy' := hk y (List.mem_cons_of_mem _ hy)
   rw [cmpR_lt] at h1
   obtain ⟨b1, _, _⟩ := hx
   obtain ⟨b2, _, _⟩ := hy'
   unfold Rq.lo key; unfold I64 at b1 b2
   omega
theorem srt_asc {l : List Rq} (h : ∀ x ∈ l, x.ok) : Asc (srt l) := asc_of_pair (fun x hx => h x ((srt_mem l x).1 hx)) (srt_pair l)
set_option maxHeartbeats 4000000
set_option maxRecDepth 100000
set_option linter.unusedVariables false
set_option linter.unusedSimpArgs false
theorem kuR_8 {W w1 w2 : World} {a0 a1 a2 a3 a4 a5 a6 a7 : Addr} {v0 v1 v2 v3 v4 v5 v6 v7 : Value} (k : Up w1 w2) (h : Up W w1 ∧ w1.cell? a0 = some v0 ∧ w1.cell? a1 = some v1 ∧ w1.cell? a2 = some v2 ∧ w1.cell? a3 = some v3 ∧ w1.cell? a4 = some v4 ∧ w1.cell? a5 = some v5 ∧ w1.cell? a6 = some v6 ∧ w1.cell? a7 = some v7) :
  Up W w2 ∧ w2.cell? a0 = some v0 ∧ w2.cell? a1 = some v1 ∧ w2.cell? a2 = some v2 ∧ w2.cell? a3 = some v3 ∧ w2.cell? a4 = some v4 ∧ w2.cell? a5 = some v5 ∧ w2.cell? a6 = some v6 ∧ w2.cell? a7 = some v7 := by
 obtain ⟨h1, c0, c1, c2, c3, c4, c5, c6, c7⟩ := h
 exact ⟨h1.trans k, k.cell c0, k.cell c1, k.cell c2, k.cell c3, k.cell c4, k.cell c5, k.cell c6, k.cell c7⟩
theorem rnCmpU (a b c d e f g h : Int) (w : World) :
    Calls Tryz.prog 43 #[.agg #[.int .i8 a, .int .i64 b, .int .i8 c, .int .i64 d], .agg #[.int .i8 e, .int .i64 f, .int .i8 g, .int .i64 h]] w fun r w' => r = .returned (.int .i64 (or2 (eC a b e f) (eC c d g h))) ∧ Up w w' := by
  go_enter Tryz.func43, Tryz.ntmps43
  go_wp2_with fail
  obtain ⟨W1, hW1⟩ : ∃ W1, W1 = (w.alloc (.cells #[.int .i8 a, .int .i64 b, .int .i8 c, .int .i64 d] 45)).alloc (.cells #[.int .i8 e, .int .i64 f, .int .i8 g, .int .i64 h] 45) := ⟨_, rfl⟩
  have uW1 : Up w W1 := by rw [hW1]; exact ((Up.refl _).alloc _).alloc _
  have c2 : W1.cell? ⟨w.heap.size, 0, none⟩ = some (.int .i8 a) := by rw [hW1]; simp [go_sem]
  have c3 : W1.cell? ⟨w.heap.size, 1, none⟩ = some (.int .i64 b) := by rw [hW1]; simp [go_sem]
  have c4 : W1.cell? ⟨w.heap.size, 2, none⟩ = some (.int .i8 c) := by rw [hW1]; simp [go_sem]
  have c5 : W1.cell? ⟨w.heap.size, 3, none⟩ = some (.int .i64 d) := by rw [hW1]; simp [go_sem]
  have l6 : w.heap.size < W1.heap.size := by rw [hW1]; simp <;> omega
  have c7 : W1.cell? ⟨w.heap.size + 1, 0, none⟩ = some (.int .i8 e) := by rw [hW1]; simp [go_sem]
  have c8 : W1.cell? ⟨w.heap.size + 1, 1, none⟩ = some (.int .i64 f) := by rw [hW1]; simp [go_sem]
  have c9 : W1.cell? ⟨w.heap.size + 1, 2, none⟩ = some (.int .i8 g) := by rw [hW1]; simp [go_sem]
  have a0 : W1.cell? ⟨w.heap.size + 1, 3, none⟩ = some (.int .i64 h) := by rw [hW1]; simp [go_sem]
  have a1 : w.heap.size + 1 < W1.heap.size := by rw [hW1]; simp <;> omega
  rw [← hW1]
  clear hW1
  have hS12 := kuR_8 (W := W1) (Up.refl _) ⟨Up.refl _, c2, c3, c4, c5, c7, c8, c9, a0⟩
  have HShS12 := Lib.hid hS12
  clear c2 c3 c4 c5 c7 c8 c9 a0
  go_region_held3 (fun w' => Up W1 w' ∧ w'.cell? ⟨w.heap.size, 0, none⟩ = some (.int .i8 a) ∧ w'.cell? ⟨w.heap.size, 1, none⟩ = some (.int .i64 b) ∧ w'.cell? ⟨w.heap.size, 2, none⟩ = some (.int .i8 c) ∧ w'.cell? ⟨w.heap.size, 3, none⟩ = some (.int .i64 d) ∧ w'.cell? ⟨w.heap.size + 1, 0, none⟩ = some (.int .i8 e) ∧ w'.cell? ⟨w.heap.size + 1, 1, none⟩ = some (.int .i64 f) ∧ w'.cell? ⟨w.heap.size + 1, 2, none⟩ = some (.int .i8 g) ∧ w'.cell? ⟨w.heap.size + 1, 3, none⟩ = some (.int .i64 h))
    (first | exact kuR_8 ((Up.refl _).drew) hS12 | exact kuR_8 ‹Up _ _› ‹_› | exact kuR_8 ‹Up _ _› ‹_› | assumption | exact kuR_8 ((Up.refl _).alloc _) ‹_›)
    (first
      | (go_at_call 66; refine (eCmp _ _ _ _ _).mono ?_; rintro e wa ⟨rfl, qa⟩)
      | (go_at_call 87; refine (cmpOr _ (eC a b e f) (eC c d g h) _ ?_ ?_).mono ?_; (simp [go_sem]); (simp [go_sem]); rintro e wa ⟨rfl, rfl⟩))
  all_goals
    clear hS12
    obtain ⟨uf21, a2, a3, a4, a5, a6, a7, a8, a9⟩ := (‹Up W1 _ ∧ _› : _ ∧ _)
    obtain ⟨w22, rfl⟩ : ∃ w22 : World, w22 = wa := ⟨_, rfl⟩
    have aA := nlt l6 uf21.size
    clear l6
    have aB := nlt a1 uf21.size
    clear a1
    have vuf21 := uW1.trans uf21
    clear uf21 uW1 HShS12
    go_wp2_with fail
    go_ret
    exact ⟨rfl, vuf21⟩
set_option linter.unusedVariables false
def El (w : World) (g o k : Nat) (x : Rq) : Prop :=
 w.cell? ⟨g, o + k * 4, none⟩ = some (.int .i8 x.a) ∧ w.cell? ⟨g, o + k * 4 + 1, none⟩ = some (.int .i64 x.b) ∧ w.cell? ⟨g, o + k * 4 + 2, none⟩ = some (.int .i8 x.c) ∧ w.cell? ⟨g, o + k * 4 + 3, none⟩ = some (.int .i64 x.d)
theorem El.dn {w w' : World} {g o k : Nat} {x : Rq} (h : El w g o k x) (q : Dn w w') : El w' g o k x := ⟨q.cell h.1, q.cell h.2.1, q.cell h.2.2.1, q.cell h.2.2.2⟩
structure Row (w : World) (p : Option Addr) (L : List Rq) : Prop where
 h : L = [] ∨ ∃ g o, p = some ⟨g, o, none⟩ ∧ g < w.heap.size ∧ ∀ k x, L[k]? = some x → El w g o k x
theorem Row.dn {w w' : World} {p : Option Addr} {L : List Rq} (h : Row w p L) (q : Dn w w') : Row w' p L := by
 rcases h.h with h | ⟨g, o, e, hl, h⟩
 · exact ⟨.inl h⟩
 · exact ⟨.inr ⟨g, o, e, Nat.lt_of_lt_of_le hl q.size, fun k x hx => (h k x hx).dn q⟩⟩
theorem Row.nil (w : World) (p : Option Addr) : Row w p [] := ⟨.inl rfl⟩
theorem Row.at {w : World} {p : Option Addr} {L : List Rq} (h : Row w p L) (hn : 0 < L.length) : ∃ g o, p = some ⟨g, o, none⟩ ∧ g < w.heap.size ∧ ∀ k x, L[k]? = some x → El w g o k x := by
 rcases h.h with h | h
 · subst h; simp at hn
 · exact h
structure Cs (w : World) (g o : Nat) (L : List Rq) : Prop where
 lt : g < w.heap.size
 el : ∀ k x, L[k]? = some x → El w g o k x
theorem Cs.dn {w w' : World} {g o : Nat} {L : List Rq} (h : Cs w g o L) (q : Dn w w') : Cs w' g o L := ⟨Nat.lt_of_lt_of_le h.lt q.size, fun k x hx => (h.el k x hx).dn q⟩
theorem Cs.row {w : World} {g o : Nat} {L : List Rq} (h : Cs w g o L) : Row w (some ⟨g, o, none⟩) L := ⟨.inr ⟨g, o, rfl, h.lt, h.el⟩⟩
theorem Row.cs {w : World} {p : Option Addr} {L : List Rq} (h : Row w p L) (hn : 0 < L.length) : ∃ g o, p = some ⟨g, o, none⟩ ∧ Cs w g o L := by
 obtain ⟨g, o, e, h1, h2⟩ := h.at hn
 exact ⟨g, o, e, h1, h2⟩
def I6 (L : List Rq) : Prop := ∀ x ∈ L, I64 x.b ∧ I64 x.d
theorem I6.at {L : List Rq} (h : I6 L) {k : Nat} {x : Rq} (hx : L[k]? = some x) : I64 x.b ∧ I64 x.d := h x (List.mem_of_getElem? hx)
def prv (L : List Rq) (k : Nat) : Option Rq := if k = 0 then none else L[k - 1]?
theorem chk_at {L : List Rq} {k : Nat} {x : Rq} (h : L[k]? = some x) : chkFrom (prv L k) (L.drop k) = if rnErr x.a x.b x.c x.d ≠ 0 then rnErr x.a x.b x.c x.d else
  match prv L k with
  | none => chkFrom (prv L (k + 1)) (L.drop (k + 1))
  | some q => if q.hi + 1 < x.lo then chkFrom (prv L (k + 1)) (L.drop (k + 1)) else 12 := by
 obtain ⟨hl, rfl⟩ := List.getElem?_eq_some_iff.1 h
 have h2 : prv L (k + 1) = some L[k] := by simp [prv]
 rw [List.drop_eq_getElem_cons hl, h2]
 rfl
theorem chk_bad {L : List Rq} {k : Nat} {x : Rq} (h : L[k]? = some x) (he : rnErr x.a x.b x.c x.d ≠ 0) : chkFrom (prv L k) (L.drop k) = rnErr x.a x.b x.c x.d := by
 rw [chk_at h, if_pos he]
theorem chk_first {L : List Rq} {k : Nat} {x : Rq} (h : L[k]? = some x) (hk : k = 0) (he : rnErr x.a x.b x.c x.d = 0) : chkFrom (prv L k) (L.drop k) = chkFrom (prv L (k + 1)) (L.drop (k + 1)) := by
 subst hk
 rw [chk_at h, if_neg (by simpa using he)]
 simp [prv]
theorem chk_order {L : List Rq} {k : Nat} {q x : Rq} (h : L[k]? = some x) (hk : 0 < k) (hq : L[k - 1]? = some q) (he : rnErr x.a x.b x.c x.d = 0) (ho : ¬ q.hi + 1 < x.lo) : chkFrom (prv L k) (L.drop k) = 12 := by
 have : prv L k = some q := by simp [prv, hq]; omega
 rw [chk_at h, if_neg (by simpa using he), this]
 simp [ho]
theorem chk_next {L : List Rq} {k : Nat} {q x : Rq} (h : L[k]? = some x) (hk : 0 < k) (hq : L[k - 1]? = some q) (he : rnErr x.a x.b x.c x.d = 0) (ho : q.hi + 1 < x.lo) : chkFrom (prv L k) (L.drop k) = chkFrom (prv L (k + 1)) (L.drop (k + 1)) := by
 have : prv L k = some q := by simp [prv, hq]; omega
 rw [chk_at h, if_neg (by simpa using he), this]
 simp [ho]
theorem chk_end {L : List Rq} : chkFrom (prv L L.length) (L.drop L.length) = 0 := by
 simp [chkFrom]
def OkTo (L : List Rq) (k : Nat) : Prop := ∀ i x, L[i]? = some x → i < k → x.ok
theorem OkTo.zero (L : List Rq) : OkTo L 0 := fun _ _ _ h => absurd h (by omega)
theorem OkTo.step {L : List Rq} {k : Nat} {x : Rq} (h : OkTo L k) (hx : L[k]? = some x) (hk : x.ok) : OkTo L (k + 1) := fun i y hy hi => by
 rcases Nat.lt_or_ge i k with h1 | h1
 · exact h i y hy h1
 · obtain rfl : i = k := by omega
   rw [hx] at hy; cases hy; exact hk
theorem OkTo.all {L : List Rq} (h : OkTo L L.length) : ∀ x ∈ L, x.ok := fun x hx => by
 obtain ⟨i, hi, rfl⟩ := List.getElem_of_mem hx
 exact h i _ (by simp [hi]) hi
theorem tch_iff {p x : Rq} (hp : I64 p.b ∧ I64 p.d) (hx : I64 x.b ∧ I64 x.d) : Tch p.a p.b p.c p.d x.a x.b x.c x.d ↔ TchR p x :=
 ⟨fun h => ⟨⟨hp.1, hp.2, h.1⟩, ⟨hx.1, hx.2, h.2.1⟩, h.2.2⟩, fun h => ⟨h.1.2.2, h.2.1.2.2, h.2.2⟩⟩
theorem meet_iff {p x : Rq} (hp : I64 p.b ∧ I64 p.d) (hx : I64 x.b ∧ I64 x.d) : Meet p.a p.b p.c p.d x.a x.b x.c x.d ↔ MeetR p x :=
 ⟨fun h => ⟨⟨hp.1, hp.2, h.1⟩, ⟨hx.1, hx.2, h.2.1⟩, h.2.2⟩, fun h => ⟨h.1.2.2, h.2.1.2.2, h.2.2⟩⟩
theorem cmp_ltR {x p : Rq} (hx : I64 x.b ∧ I64 x.d) (hp : I64 p.b ∧ I64 p.d) : 0 < or2 (eC p.a p.b x.a x.b) (eC p.c p.d x.c x.d) ↔ ltR x p := by
 have h1 := eC_gt (i := p.a) (j := x.a) hp.1 hx.1
 have h2 := eC_gt (i := p.c) (j := x.c) hp.2 hx.2
 have h3 := eC_lt (i := p.a) (j := x.a) hp.1 hx.1
 unfold or2 ltR Rq.lo Rq.hi
 split <;> omega
set_option linter.unusedVariables false
def qc (x : Rq) : List Value := [.int .i8 x.a, .int .i64 x.b, .int .i8 x.c, .int .i64 x.d]
structure OwnQ (w : World) (base : Nat) (v : Value) (L : List Rq) : Prop where
 own : w.ownsRow base 45 4 v L.length (L.flatMap qc)
theorem OwnQ.nil (w : World) (base : Nat) : OwnQ w base (.slice none 0 0) [] := ⟨World.ownsRow_nil _ _ _ _⟩
theorem OwnQ.row {w : World} {base : Nat} {v : Value} {L : List Rq} (h : OwnQ w base v L) : ∀ k, v.ownBlock = some k → base ≤ k ∧ k < w.heap.size := fun k hk => h.own.lt k hk
theorem OwnQ.kept {w w' : World} {base : Nat} {v : Value} {L : List Rq} {row : Option Nat} (h : OwnQ w base v L) (hg : w.grownBy w' row) (hr : ∀ k, row = some k → k < base) : OwnQ w' base v L :=
 ⟨h.own.kept hg (by
  cases hv : v.ownBlock with
  | none => exact Or.inl rfl
  | some g =>
    right
    intro e
    have := (h.own.lt g hv).1
    have := hr g e.symm
    omega)⟩
theorem OwnQ.dn {w w' : World} {base : Nat} {v : Value} {L : List Rq} (h : OwnQ w base v L) (k : Dn w w') : OwnQ w' base v L := h.kept (grown_dn k none) (fun _ e => by cases e)
theorem OwnQ.base {w : World} {b c : Nat} {v : Value} {L : List Rq} (h : OwnQ w b v L) (k : c ≤ b) : OwnQ w c v L := by
 refine ⟨h.own.1, ?_⟩
 rcases h.own.2 with hn | ⟨g, cap, cur, hv, hbg, rest⟩
 · exact .inl hn
 · exact .inr ⟨g, cap, cur, hv, Nat.le_trans k hbg, rest⟩
theorem qc_get : ∀ (L : List Rq) (i j : Nat) (r : Rq), L[i]? = some r → j < 4 → (L.flatMap qc)[i * 4 + j]? = (qc r)[j]?
 | [], i, j, r, h, _ => by simp at h
 | x :: L, 0, j, r, h, hj => by
   simp at h
   subst h
   simp only [List.flatMap_cons]
   rw [List.getElem?_append_left (by simp [qc]; omega)]
   simp
 | x :: L, i + 1, j, r, h, hj => by
   have := qc_get L i j r (by simpa using h) hj
   simp only [List.flatMap_cons]
   rw [List.getElem?_append_right (by simp [qc]; omega)]
   have e : (i + 1) * 4 + j - (qc x).length = i * 4 + j := by simp [qc]; omega
   rw [e]; exact this
theorem qc_len (L : List Rq) : (L.flatMap qc).length = L.length * 4 := by
 induction L with
 | nil => rfl
 | cons x t ih => simp only [List.flatMap_cons, List.length_append, ih, List.length_cons]; simp [qc]; omega
theorem OwnQ.form {w : World} {base : Nat} {v : Value} {L : List Rq} (h : OwnQ w base v L) : (v = .slice none 0 0 ∧ L = []) ∨ ∃ g cap, v = .slice (some ⟨g, 0, none⟩) L.length cap ∧ base ≤ g ∧ L.length ≤ cap ∧ cap ≤ maxLen ∧ Cs w g 0 L := by
 rcases h.own.2 with ⟨rfl, h0⟩ | ⟨g, cap, cur, rfl, hb, hg, h1, h2, h3, h4⟩
 · exact .inl ⟨rfl, List.length_eq_zero_iff.1 h0⟩
 · refine .inr ⟨g, cap, rfl, hb, h1, h2, (Array.getElem?_eq_some_iff.1 hg).1, fun i r hi => ?_⟩
   have c : ∀ j u, (qc r)[j]? = some u → w.cell? ⟨g, i * 4 + j, none⟩ = some u := fun j u hu => by
     have hj : j < 4 := by
      rcases Nat.lt_or_ge j 4 with h | h
      · exact h
      · rw [List.getElem?_eq_none (by simp [qc]; omega)] at hu; cases hu
     have hl : i * 4 + j < L.length * 4 := by
      obtain ⟨hi', _⟩ := List.getElem?_eq_some_iff.1 hi
      omega
     rw [h.own.cellAt _ hl, qc_get L i j r hi hj]; exact hu
   refine ⟨?_, ?_, ?_, ?_⟩
   · simpa using c 0 _ rfl
   · simpa using c 1 _ rfl
   · simpa using c 2 _ rfl
   · simpa using c 3 _ rfl
theorem OwnQ.rowOf {w : World} {base : Nat} {v : Value} {L : List Rq} (h : OwnQ w base v L) : ∃ p cap, v = .slice p L.length cap ∧ L.length ≤ cap ∧ Row w p L := by
 rcases h.form with ⟨rfl, rfl⟩ | ⟨g, cap, rfl, _, h1, _, hc⟩
 · exact ⟨_, _, rfl, Nat.le_refl _, Row.nil _ _⟩
 · exact ⟨_, _, rfl, h1, hc.row⟩
theorem list_run {ops : Array Oper} {rest : List Oper} {o : Oper} {a : Act} {Q : Exit → Act → World → Prop} (hgd : o.guard = none) (s x : Operand)
   (ho : o.op = .call { callee := .builtin .append, args := #[s, x], argTypes := #[22, 22] }) (w : World) (base : Nat) (v : Value) (L : List Rq) (a0 b0 c0 d0 : Int) (hs : a.eval s = v) (hown : OwnQ w base v L)
   (hx : a.eval x = .slice (some ⟨w.heap.size, 0, none⟩) 1 1) (hl : L.length ≤ 1000000) (hb : base ≤ w.heap.size)
   (h : ∀ v' w', OwnQ w' base v' (L ++ [⟨a0, b0, c0, d0⟩]) → (∀ b, b < w.heap.size → (∀ k, v.ownBlock = some k → b ≠ k) → w'.heap[b]? = w.heap[b]?) → (∀ w0, Dn w0 w → base = w0.heap.size → Dn w0 w') → wpList Tryz.prog ops Q rest (a.put o.dst v') w') :
   wpList Tryz.prog ops Q (o :: rest) a (w.alloc (.cells #[.int .i8 a0, .int .i64 b0, .int .i8 c0, .int .i64 d0] 45)) := by
 obtain ⟨i0, hi, hz0, hz1, hz2⟩ := info_parts infoRun
 refine wpList_append_own (w.alloc (.cells #[.int .i8 a0, .int .i64 b0, .int .i8 c0, .int .i64 d0] 45)) hgd s x 22 ho base 45 i0 _ 4 32 Tryz.underlying22 hi hz0 hz1 hz2 rfl (by decide) v _ _ hs (hown.own.alloc _) ⟨w.heap.size, 0, none⟩ 1 1 (qc ⟨a0, b0, c0, d0⟩) hx rfl ?_ ?_ ?_ ?_ ?_ ?_
 · intro j u hj
   match j, hj with
   | 0, hj => simp [qc] at hj; subst hj; simp [Addr.add]
   | 1, hj => simp [qc] at hj; subst hj; simp [Addr.add]
   | 2, hj => simp [qc] at hj; subst hj; simp [Addr.add]
   | 3, hj => simp [qc] at hj; subst hj; simp [Addr.add]
   | n + 4, hj => simp [qc] at hj
 · intro u hu; simp [qc] at hu; rcases hu with rfl | rfl | rfl | rfl <;> rfl
 · unfold maxLen; omega
 · omega
 · simp; omega
 · intro v' w' k1 k2 _
   have hall : w.grownBy w' v.ownBlock := by
     have := World.grownBy_alloc w (.cells #[.int .i8 a0, .int .i64 b0, .int .i8 c0, .int .i64 d0] 45) v.ownBlock
     exact grown_trans this k2
   refine h v' w' ⟨?_⟩ ?_ ?_
   · simpa using k1
   · intro b hb1 hb2
     exact hall.block b hb1 (fun e => hb2 b e.symm rfl)
   · intro w0 hd e
     exact ⟨hd.below.trans ⟨hall.os, hall.tape, hall.output, hall.size, fun i hi => hall.block i (Nat.lt_of_lt_of_le hi hd.size) (fun e2 => by have := (hown.own.lt i e2.symm).1; omega)⟩⟩
theorem OwnQ.put {w : World} {base g cap n : Nat} {L : List Rq} (h : OwnQ w base (.slice (some ⟨g, 0, none⟩) n cap) L) (hn : n = L.length) {k : Nat} (hk : k < L.length) (x : Rq) :
  OwnQ ((((w.setCell ⟨g, k * 4, none⟩ (.int .i8 x.a)).setCell ⟨g, k * 4 + 1, none⟩ (.int .i64 x.b)).setCell ⟨g, k * 4 + 2, none⟩ (.int .i8 x.c)).setCell ⟨g, k * 4 + 3, none⟩ (.int .i64 x.d)) base (.slice (some ⟨g, 0, none⟩) n cap) (L.set k x) := by
 subst hn
 have h1 := (h.own.stored (k * 4) (.int .i8 x.a)).1
 have h2 := (h1.stored (k * 4 + 1) (.int .i64 x.b)).1
 have h3 := (h2.stored (k * 4 + 2) (.int .i8 x.c)).1
 have h4 := (h3.stored (k * 4 + 3) (.int .i64 x.d)).1
 have e : ((((L.flatMap qc).set (k * 4) (.int .i8 x.a)).set (k * 4 + 1) (.int .i64 x.b)).set (k * 4 + 2) (.int .i8 x.c)).set (k * 4 + 3) (.int .i64 x.d) = (L.set k x).flatMap qc := by
  clear h1 h2 h3 h4 h
  induction L generalizing k with
  | nil => simp at hk
  | cons y t ih =>
    cases k with
    | zero => simp [qc]
    | succ k =>
      have := ih (by simpa using hk) 
      rw [List.set_cons_succ, List.flatMap_cons, List.flatMap_cons, ← this]
      have l4 : (qc y).length = 4 := rfl
      have e0 : (k + 1) * 4 = 4 + k * 4 := by omega
      simp only [e0, Nat.add_assoc]
      rw [List.set_append_right _ _ (by omega), List.set_append_right _ _ (by omega), List.set_append_right _ _ (by omega), List.set_append_right _ _ (by omega)]
      simp only [l4, Nat.add_sub_cancel_left]
 refine ⟨?_⟩
 rw [← e]
 simpa using h4
theorem OwnQ.frozen {w : World} {base g cap n : Nat} {L : List Rq} (h : OwnQ w base (.slice (some ⟨g, 0, none⟩) n cap) L) (hn : n = L.length) (j : Nat) : w.frozen? ⟨g, j, none⟩ = false := by
 subst hn; exact h.own.frozenAt j
def cntF (l : List Bool) : Nat := l.count false
theorem cntF_set : ∀ (l : List Bool) (i : Nat), l[i]? = some false → cntF (l.set i true) + 1 = cntF l
 | [], i, h => by simp at h
 | x :: l, 0, h => by
   simp at h
   subst h
   simp [cntF]
 | x :: l, i + 1, h => by
   have := cntF_set l i (by simpa using h)
   simp only [cntF, List.set_cons_succ, List.count_cons] at this ⊢
   omega
theorem getD_false {l : Array Bool} {i : Nat} (h : l.getD i true = false) : l.toList[i]? = some false := by
 rcases Nat.lt_or_ge i l.size with h' | h'
 · simp [h'] at h ⊢; exact h
 · simp [h'] at h
theorem cntF_pos {l : List Bool} {i : Nat} (h : l[i]? = some false) : 0 < cntF l := by
 have := cntF_set l i h
 omega
theorem region_inv_any {P : Program} {ops : Array Oper} {Q : Exit → Act → World → Prop} (J : Array Bool → Act → World → Prop)
   (hs : ∀ l a w i, J l a w → l.getD i true = false → (∀ o, ops[i]? = some o → ∀ e ∈ o.after, Region.binds .any e = true → l.getD e.on false = true) → i < ops.size → wpOp P ops Q i (fun a' w' => J (l.setIfInBounds i true) a' w') a w)
   (hq : ∀ l a w, J l a w → (∀ i o, ops[i]? = some o → l.getD i true = false → ¬ ∀ e ∈ o.after, Region.binds .any e = true → l.getD e.on false = true) → Q .normal a w) :
   ∀ (fuel : Nat) (l : Array Bool) (a : Act) (w : World), J l a w → cntF l.toList ≤ fuel → wpAny P .any ops Q fuel l a w := by
 have fin : ∀ l a w, J l a w → Region.ready .any ops l = [] → Q .normal a w := fun l a w hJ hr =>
   hq l a w hJ fun i o ho hf hall => by
     have := mem_ready (md := .any) (ops := ops) (listed := l) (j := i) |>.2 ⟨hf, o, ho, hall⟩
     rw [hr] at this
     cases this
 intro fuel
 induction fuel with
 | zero =>
   intro l a w hJ hc
   have hr : Region.ready .any ops l = [] := List.eq_nil_iff_forall_not_mem.2 fun i hi => by
     have := cntF_pos (getD_false (mem_ready.1 hi).1)
     omega
   exact ⟨hr, fin l a w hJ hr⟩
 | succ fuel ih =>
   intro l a w hJ hc
   refine ⟨fin l a w hJ, fun i hi => ?_⟩
   obtain ⟨h0, o, ho, hall⟩ := mem_ready.1 hi
   refine wpOp_mono (fun a' w' hJ' => ih _ a' w' hJ' ?_) (hs l a w i hJ h0 (fun o' ho' => ?_) (Array.getElem?_eq_some_iff.1 ho).1)
   · have := cntF_set l.toList i (getD_false h0)
     simp only [Array.toList_setIfInBounds]
     omega
   · obtain rfl := Option.some.inj (ho.symm.trans ho')
     exact hall
theorem region_inv {P : Program} {ops : Array Oper} {Q : Exit → Act → World → Prop} {id : Nat} {a : Act} {w : World} (J : Act → Array Bool → Act → World → Prop)
  (hm : P.follows .mixedOrders = true) (h0 : J a (Array.replicate ops.size false) a w.drew)
  (hs : ∀ l a' w i, J a l a' w → l.getD i true = false → (∀ o, ops[i]? = some o → ∀ e ∈ o.after, Region.binds .any e = true → l.getD e.on false = true) → i < ops.size → wpOp P ops Q i (fun a'' w' => J a (l.setIfInBounds i true) a'' w') a' w)
  (hq : ∀ l a' w, J a l a' w → (∀ i o, ops[i]? = some o → l.getD i true = false → ¬ ∀ e ∈ o.after, Region.binds .any e = true → l.getD e.on false = true) → Q .normal a' w) :
  (Code.region id ops true).wp P Q a w := by
 refine wp_region_any hm (region_inv_any (J a) hs hq ops.size _ a _ h0 ?_)
 have : ∀ n, cntF (List.replicate n false) ≤ n := fun n => by simp [cntF]
 simpa using this ops.size
theorem cell_far4 {w : World} {B n j : Nat} {u v0 v1 v2 v3 : Value} (hn : n ≠ B) (h : w.cell? ⟨n, j, none⟩ = some u) :
  ((((w.setCell ⟨B, 0, none⟩ v0).setCell ⟨B, 1, none⟩ v1).setCell ⟨B, 2, none⟩ v2).setCell ⟨B, 3, none⟩ v3).cell? ⟨n, j, none⟩ = some u := by
 have hx : ∀ (w : World) i v, w.cell? ⟨n, j, none⟩ = some u → (w.setCell ⟨B, i, none⟩ v).cell? ⟨n, j, none⟩ = some u := fun w i v hu => by
  rw [World.cell?_setCell_other _ _ _ _ (fun e => hn (by simpa using (congrArg Addr.block e).symm))]; exact hu
 exact hx _ _ _ (hx _ _ _ (hx _ _ _ (hx _ _ _ h)))
def Bl (L : Nat) (w : World) (al st : Bool) (x v0 v1 v2 v3 : Value) : Prop :=
 al = true → ∃ B, x = .pointer (some ⟨B, 0, none⟩) ∧ L ≤ B ∧ (st = false → C4 w B (.int .i8 0) (.int .i64 0) (.int .i8 0) (.int .i64 0)) ∧ (st = true → C4 w B v0 v1 v2 v3)
theorem Bl.no {L : Nat} {w : World} {st : Bool} {x v0 v1 v2 v3 : Value} : Bl L w false st x v0 v1 v2 v3 := fun h => by cases h
theorem Bl.dn {L : Nat} {w w' : World} {al st : Bool} {x v0 v1 v2 v3 : Value} (h : Bl L w al st x v0 v1 v2 v3) (q : Dn w w') : Bl L w' al st x v0 v1 v2 v3 := fun ha => by
 obtain ⟨B, h1, h2, h3, h4⟩ := h ha
 exact ⟨B, h1, h2, fun k => (h3 k).dn q, fun k => (h4 k).dn q⟩
theorem Bl.new {L : Nat} {w : World} {v0 v1 v2 v3 : Value} (h : L ≤ w.heap.size) (t : TypeId) :
  Bl L (w.alloc (.cells #[.int .i8 0, .int .i64 0, .int .i8 0, .int .i64 0] t)) true false (.pointer (some ⟨w.heap.size, 0, none⟩)) v0 v1 v2 v3 :=
 fun _ => ⟨_, rfl, h, fun _ => C4.new _ _ _ _ _ _, fun k => by cases k⟩
def Ap (al bl : Bool) (x y : Value) : Prop := al = true → bl = true → x ≠ y
theorem Ap.symm {al bl : Bool} {x y : Value} (h : Ap al bl x y) : Ap bl al y x := fun ha hb e => h hb ha e.symm
theorem Bl.far {L : Nat} {w : World} {al st : Bool} {x v0 v1 v2 v3 : Value} (h : Bl L w al st x v0 v1 v2 v3) {B : Nat} (ha : Ap true al (.pointer (some ⟨B, 0, none⟩)) x) (u0 u1 u2 u3 : Value) :
  Bl L ((((w.setCell ⟨B, 0, none⟩ u0).setCell ⟨B, 1, none⟩ u1).setCell ⟨B, 2, none⟩ u2).setCell ⟨B, 3, none⟩ u3) al st x v0 v1 v2 v3 := fun k => by
 obtain ⟨B', rfl, h2, h3, h4⟩ := h k
 have hn : B' ≠ B := fun e => ha rfl k (by rw [e])
 exact ⟨B', rfl, h2, fun k => (h3 k).far4 hn _ _ _ _, fun k => (h4 k).far4 hn _ _ _ _⟩
end Go.Proofs.YtoghoddjkdoohaaGreatDoor
