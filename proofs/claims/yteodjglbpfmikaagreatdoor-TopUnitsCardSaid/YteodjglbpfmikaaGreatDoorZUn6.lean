/- Walks and laws that the claim's theorem leans on: part 6. -/
import Derived.Test.YteodjglbpfmikaaGreatDoorZUn1
import Derived.Test.YteodjglbpfmikaaGreatDoorZUn2
import Derived.Test.YteodjglbpfmikaaGreatDoorZUn4
import Derived.Test.YteodjglbpfmikaaGreatDoorZUn5
import Derived.OrdersHeld
import Derived.Deep.RegionHeld
namespace Go.Proofs.YteodjglbpfmikaaGreatDoor
open Go.RowKit
structure Rq where
 a : Int
 b : Int
 c : Int
 d : Int
deriving DecidableEq
def Rq.lo (x : Rq) : Int := key x.a x.b
def Rq.hi (x : Rq) : Int := key x.c x.d
def Rq.ok (x : Rq) : Prop := I64 x.b ∧ I64 x.d ∧ RnOk x.a x.b x.c x.d
def Sep : List Rq → Prop
 | [] => True
 | x :: t => x.ok ∧ (∀ y ∈ t, x.hi + 1 < y.lo) ∧ Sep t
def Pt (k : Int) : Prop := I64 k ∨ k = key (-1) 0 ∨ k = key 1 0
def Mem (k : Int) (L : List Rq) : Prop := ∃ x ∈ L, x.lo ≤ k ∧ k ≤ x.hi
theorem mem_nil {k : Int} : ¬ Mem k [] := by rintro ⟨x, h, _⟩; cases h
theorem mem_cons {k : Int} {x : Rq} {t : List Rq} : Mem k (x :: t) ↔ (x.lo ≤ k ∧ k ≤ x.hi) ∨ Mem k t := by
 constructor
 · rintro ⟨y, h, k1⟩
   rcases List.mem_cons.1 h with h | h
   · subst h; exact .inl k1
   · exact .inr ⟨y, h, k1⟩
 · rintro (h | ⟨y, h, k1⟩)
   · exact ⟨x, List.mem_cons_self, h⟩
   · exact ⟨y, List.mem_cons_of_mem _ h, k1⟩
theorem mem_append {k : Int} {s t : List Rq} : Mem k (s ++ t) ↔ Mem k s ∨ Mem k t := by
 constructor
 · rintro ⟨y, h, k1⟩
   rcases List.mem_append.1 h with h | h
   · exact .inl ⟨y, h, k1⟩
   · exact .inr ⟨y, h, k1⟩
 · rintro (⟨y, h, k1⟩ | ⟨y, h, k1⟩)
   · exact ⟨y, List.mem_append.2 (.inl h), k1⟩
   · exact ⟨y, List.mem_append.2 (.inr h), k1⟩
theorem Rq.ok_lo {x : Rq} (h : x.ok) : Pt x.lo ∧ x.lo ≤ 9223372036854775807 := by
 obtain ⟨h1, h2, h3, h4, h5, h6, h7⟩ := h
 unfold eOk at h3 h4; unfold I64 at h1 h2; unfold Pt Rq.lo I64 key
 rcases h3 with h3 | h3 <;> omega
theorem Rq.ok_hi {x : Rq} (h : x.ok) : Pt x.hi ∧ -9223372036854775808 ≤ x.hi := by
 obtain ⟨h1, h2, h3, h4, h5, h6, h7⟩ := h
 unfold eOk at h3 h4; unfold I64 at h1 h2; unfold Pt Rq.hi I64 key
 rcases h4 with h4 | h4 <;> omega
theorem Rq.ok_le {x : Rq} (h : x.ok) : x.lo ≤ x.hi := h.2.2.2.2.2.2
theorem Rq.ext_key {x y : Rq} (hx : x.ok) (hy : y.ok) (h1 : x.lo = y.lo) (h2 : x.hi = y.hi) : x = y := by
 have k1 := (key_inj hx.1 hy.1).1 h1
 have k2 := (key_inj hx.2.1 hy.2.1).1 h2
 cases x; cases y; simp_all
theorem Sep.lo_le {x : Rq} {t : List Rq} (h : Sep (x :: t)) {k : Int} (hk : Mem k (x :: t)) : x.lo ≤ k := by
 obtain ⟨y, hy, h1, h2⟩ := hk
 rcases List.mem_cons.1 hy with hy | hy
 · subst hy; exact h1
 · have := h.2.1 y hy; have := Rq.ok_le h.1; omega
theorem Sep.hi_lt {x : Rq} {t : List Rq} (h : Sep (x :: t)) {k : Int} (hk : Mem k t) : x.hi + 1 < k := by
 obtain ⟨y, hy, h1, h2⟩ := hk
 have := h.2.1 y hy; omega
theorem Sep.hi_le {x y : Rq} {s t : List Rq} (hL : Sep (x :: s)) (hM : Sep (y :: t)) (h : ∀ k, Pt k → (Mem k (x :: s) ↔ Mem k (y :: t))) : y.hi ≤ x.hi := by
 by_cases hlt : y.hi ≤ x.hi
 · exact hlt
 exfalso
 have px := Rq.ok_hi hL.1
 have py := Rq.ok_hi hM.1
 have plx := Rq.ok_lo hL.1
 have nx := Rq.ok_le hL.1
 have ny : y.lo ≤ x.lo := Sep.lo_le hM ((h _ plx.1).1 ⟨x, List.mem_cons_self, by omega, nx⟩)
 by_cases hm : x.hi < 9223372036854775807
 · have pk : Pt (x.hi + 1) := by left; unfold I64; omega
   have hk : Mem (x.hi + 1) (x :: s) := (h _ pk).2 ⟨y, List.mem_cons_self, by omega, by omega⟩
   rcases mem_cons.1 hk with k1 | k1
   · omega
   · have := Sep.hi_lt hL k1; omega
 · have hk : Mem y.hi (x :: s) := (h _ py.1).2 ⟨y, List.mem_cons_self, Rq.ok_le hM.1, by omega⟩
   rcases mem_cons.1 hk with k1 | ⟨z, hz, k1, k2⟩
   · omega
   · have hz1 := hL.2.1 z hz
     have hzok : z.ok := by
      clear h hk
      have hs := hL.2.2
      clear hL
      induction s with
      | nil => cases hz
      | cons w s ih =>
        rcases List.mem_cons.1 hz with hz | hz
        · subst hz; exact hs.1
        · exact ih hz hs.2.2
     have := Rq.ok_lo hzok
     omega
theorem sep_ext : ∀ {L M : List Rq}, Sep L → Sep M → (∀ k, Pt k → (Mem k L ↔ Mem k M)) → L = M
 | [], [], _, _, _ => rfl
 | [], y :: t, _, hM, h => absurd ((h y.lo (Rq.ok_lo hM.1).1).2 ⟨y, List.mem_cons_self, by omega, Rq.ok_le hM.1⟩) mem_nil
 | x :: s, [], hL, _, h => absurd ((h x.lo (Rq.ok_lo hL.1).1).1 ⟨x, List.mem_cons_self, by omega, Rq.ok_le hL.1⟩) mem_nil
 | x :: s, y :: t, hL, hM, h => by
   have h' : ∀ k, Pt k → (Mem k (y :: t) ↔ Mem k (x :: s)) := fun k hk => (h k hk).symm
   have l1 : x.lo ≤ y.lo := Sep.lo_le hL ((h' _ (Rq.ok_lo hM.1).1).1 ⟨y, List.mem_cons_self, by omega, Rq.ok_le hM.1⟩)
   have l2 : y.lo ≤ x.lo := Sep.lo_le hM ((h _ (Rq.ok_lo hL.1).1).1 ⟨x, List.mem_cons_self, by omega, Rq.ok_le hL.1⟩)
   have u1 := Sep.hi_le hL hM h
   have u2 := Sep.hi_le hM hL h'
   have e : x = y := Rq.ext_key hL.1 hM.1 (by omega) (by omega)
   subst e
   have : s = t := sep_ext hL.2.2 hM.2.2 (fun k hk => by
    constructor
    · intro hs
      rcases mem_cons.1 ((h k hk).1 (mem_cons.2 (.inr hs))) with k1 | k1
      · have := Sep.hi_lt hL hs; omega
      · exact k1
    · intro ht
      rcases mem_cons.1 ((h k hk).2 (mem_cons.2 (.inr ht))) with k1 | k1
      · have := Sep.hi_lt hM ht; omega
      · exact k1)
   rw [this]
def chkFrom : Option Rq → List Rq → Int
 | _, [] => 0
 | p, x :: t => if rnErr x.a x.b x.c x.d ≠ 0 then rnErr x.a x.b x.c x.d else
   match p with
   | none => chkFrom (some x) t
   | some q => if q.hi + 1 < x.lo then chkFrom (some x) t else 12
def chkL (l : List Rq) : Int := if 4096 < l.length then 3 else chkFrom none l
def jnR (x y : Rq) : Rq := ⟨mnI x.a x.b y.a y.b, mnD x.a x.b y.a y.b, mxI x.c x.d y.c y.d, mxD x.c x.d y.c y.d⟩
def inR (x y : Rq) : Rq := ⟨mxI x.a x.b y.a y.b, mxD x.a x.b y.a y.b, mnI x.c x.d y.c y.d, mnD x.c x.d y.c y.d⟩
def TchR (x y : Rq) : Prop := x.ok ∧ y.ok ∧ y.lo ≤ x.hi + 1 ∧ x.lo ≤ y.hi + 1
def MeetR (x y : Rq) : Prop := x.ok ∧ y.ok ∧ y.lo ≤ x.hi ∧ x.lo ≤ y.hi
instance decRqOk (x : Rq) : Decidable x.ok := by unfold Rq.ok; infer_instance
instance decTchR (x y : Rq) : Decidable (TchR x y) := by unfold TchR; infer_instance
instance decMeetR (x y : Rq) : Decidable (MeetR x y) := by unfold MeetR; infer_instance
theorem jnR_lo {x y : Rq} (hx : x.ok) (hy : y.ok) : (jnR x y).lo = min x.lo y.lo := mn_key hx.1 hy.1
theorem jnR_hi {x y : Rq} (hx : x.ok) (hy : y.ok) : (jnR x y).hi = max x.hi y.hi := mx_key hx.2.1 hy.2.1
theorem inR_lo {x y : Rq} (hx : x.ok) (hy : y.ok) : (inR x y).lo = max x.lo y.lo := mx_key hx.1 hy.1
theorem inR_hi {x y : Rq} (hx : x.ok) (hy : y.ok) : (inR x y).hi = min x.hi y.hi := mn_key hx.2.1 hy.2.1
theorem mn_le0 {i d j f : Int} (h : i ≤ 0) (k : j ≤ 0) : mnI i d j f ≤ 0 := by unfold mnI; split <;> assumption
theorem mn_ge0 {i d j f : Int} (h : 0 ≤ i) (k : 0 ≤ j) : 0 ≤ mnI i d j f := by unfold mnI; split <;> assumption
theorem mx_le0 {i d j f : Int} (h : i ≤ 0) (k : j ≤ 0) : mxI i d j f ≤ 0 := by unfold mxI; split <;> assumption
theorem mx_ge0 {i d j f : Int} (h : 0 ≤ i) (k : 0 ≤ j) : 0 ≤ mxI i d j f := by unfold mxI; split <;> assumption
theorem jnR_ok {x y : Rq} (hx : x.ok) (hy : y.ok) : (jnR x y).ok := by
 have l := jnR_lo hx hy
 have h := jnR_hi hx hy
 have k1 := Rq.ok_le hx
 have k2 := Rq.ok_le hy
 have k : (jnR x y).lo ≤ (jnR x y).hi := by omega
 obtain ⟨a1, a2, a3, a4, a5, a6, a7⟩ := hx
 obtain ⟨b1, b2, b3, b4, b5, b6, b7⟩ := hy
 exact ⟨mn_i64 a1 b1, mx_i64 a2 b2, mn_ok a3 b3, mx_ok a4 b4, mn_le0 a5 b5, mx_ge0 a6 b6, k⟩
theorem inR_ok {x y : Rq} (hm : MeetR x y) : (inR x y).ok := by
 obtain ⟨hx, hy, m1, m2⟩ := hm
 have l := inR_lo hx hy
 have h := inR_hi hx hy
 have k1 := Rq.ok_le hx
 have k2 := Rq.ok_le hy
 have k : (inR x y).lo ≤ (inR x y).hi := by omega
 obtain ⟨a1, a2, a3, a4, a5, a6, a7⟩ := hx
 obtain ⟨b1, b2, b3, b4, b5, b6, b7⟩ := hy
 exact ⟨mx_i64 a1 b1, mn_i64 a2 b2, mx_ok a3 b3, mn_ok a4 b4, mx_le0 a5 b5, mn_ge0 a6 b6, k⟩
def jn : Rq → List Rq → List Rq
 | p, [] => [p]
 | p, r :: t => if TchR p r then jn (jnR p r) t else p :: jn r t
def joinedL : List Rq → List Rq
 | [] => []
 | x :: t => jn x t
def Asc : List Rq → Prop
 | [] => True
 | x :: t => x.ok ∧ (∀ y ∈ t, x.lo ≤ y.lo) ∧ Asc t
theorem jn_law : ∀ (t : List Rq) (p : Rq), Asc (p :: t) → Sep (jn p t) ∧ (∀ z ∈ jn p t, p.lo ≤ z.lo) ∧ ∀ k, Mem k (jn p t) ↔ Mem k (p :: t)
 | [], p, h => ⟨⟨h.1, by simp, trivial⟩, by simp [jn], fun k => Iff.rfl⟩
 | r :: t, p, h => by
   have hr := h.2.2
   have l1 := h.2.1 r List.mem_cons_self
   unfold jn
   by_cases ht : TchR p r
   · rw [if_pos ht]
     have lo := jnR_lo h.1 hr.1
     have hi := jnR_hi h.1 hr.1
     have k1 := Rq.ok_le h.1
     have k2 := Rq.ok_le hr.1
     obtain ⟨a1, a2, a3⟩ := jn_law t (jnR p r) ⟨jnR_ok h.1 hr.1, fun y hy => by have := h.2.1 y (List.mem_cons_of_mem _ hy); omega, hr.2.2⟩
     refine ⟨a1, fun z hz => by have := a2 z hz; omega, fun k => ?_⟩
     rw [a3, mem_cons, mem_cons, mem_cons]
     have h3 := ht.2.2
     constructor
     · rintro (q | q)
       · by_cases q2 : k ≤ p.hi
         · left; omega
         · right; left; omega
       · exact .inr (.inr q)
     · rintro (q | q | q)
       · left; omega
       · left; omega
       · exact .inr q
   · rw [if_neg ht]
     obtain ⟨a1, a2, a3⟩ := jn_law t r hr
     have k1 := Rq.ok_le h.1
     have k2 := Rq.ok_le hr.1
     have hs : p.hi + 1 < r.lo := by
       by_cases q : p.hi + 1 < r.lo
       · exact q
       · exact absurd ⟨h.1, hr.1, by omega, by omega⟩ ht
     refine ⟨⟨h.1, fun y hy => by have := a2 y hy; omega, a1⟩, fun z hz => ?_, fun k => ?_⟩
     · rcases List.mem_cons.1 hz with hz | hz
       · subst hz; omega
       · have := a2 z hz; omega
     · rw [mem_cons, mem_cons, a3]
theorem joined_law {l : List Rq} (h : Asc l) : Sep (joinedL l) ∧ ∀ k, Mem k (joinedL l) ↔ Mem k l := by
 cases l with
 | nil => exact ⟨trivial, fun k => Iff.rfl⟩
 | cons x t => exact ⟨(jn_law t x h).1, (jn_law t x h).2.2⟩
theorem Sep.all {l : List Rq} (h : Sep l) : ∀ x ∈ l, x.ok := by
 induction l with
 | nil => intro x hx; cases hx
 | cons y t ih =>
   intro x hx
   rcases List.mem_cons.1 hx with hx | hx
   · subst hx; exact h.1
   · exact ih h.2.2 x hx
def cmn : List Rq → List Rq → List Rq
 | [], _ => []
 | _ :: _, [] => []
 | x :: s, y :: t => (if MeetR x y then [inR x y] else []) ++ (if x.hi < y.hi then cmn s (y :: t) else cmn (x :: s) t)
termination_by s t => s.length + t.length
def ltR (x y : Rq) : Prop := x.lo < y.lo ∨ x.lo = y.lo ∧ x.hi < y.hi
instance decLtR (x y : Rq) : Decidable (ltR x y) := by unfold ltR; infer_instance
theorem Sep.append : ∀ {u v : List Rq}, Sep u → Sep v → (∀ x ∈ u, ∀ y ∈ v, x.hi + 1 < y.lo) → Sep (u ++ v)
 | [], _, _, hv, _ => hv
 | x :: t, v, hu, hv, h => ⟨hu.1, fun y hy => by
   rcases List.mem_append.1 hy with hy | hy
   · exact hu.2.1 y hy
   · exact h x List.mem_cons_self y hy, Sep.append hu.2.2 hv (fun z hz => h z (List.mem_cons_of_mem _ hz))⟩
def WtP (a b : List Rq) : Prop := ∀ x ∈ a, ∃ y ∈ b, y.lo ≤ x.lo ∧ x.hi ≤ y.hi
theorem rq_err {x : Rq} (h1 : I64 x.b) (h2 : I64 x.d) : rnErr x.a x.b x.c x.d = 0 ↔ x.ok := by
 rw [rnErr_ok h1 h2]; exact ⟨fun h => ⟨h1, h2, h⟩, fun h => h.2.2⟩
theorem chkFrom_sep : ∀ {l : List Rq} {q : Rq}, (∀ x ∈ l, I64 x.b ∧ I64 x.d) → chkFrom (some q) l = 0 → Sep l ∧ ∀ y ∈ l, q.hi + 1 < y.lo
 | [], _, _, _ => ⟨trivial, fun _ h => (nomatch h)⟩
 | x :: t, q, hv, h => by
   have hx := hv x List.mem_cons_self
   unfold chkFrom at h
   by_cases h1 : rnErr x.a x.b x.c x.d ≠ 0
   · rw [if_pos h1] at h; exact absurd h h1
   · rw [if_neg h1] at h
     have ox := (rq_err hx.1 hx.2).1 (by omega)
     have kx := Rq.ok_le ox
     by_cases h2 : q.hi + 1 < x.lo
     · simp only [h2, if_true] at h
       obtain ⟨a1, a2⟩ := chkFrom_sep (fun y hy => hv y (List.mem_cons_of_mem _ hy)) h
       refine ⟨⟨ox, a2, a1⟩, fun y hy => ?_⟩
       rcases List.mem_cons.1 hy with e | e
       · subst e; exact h2
       · have := a2 y e; omega
     · simp only [h2, if_false] at h; exact absurd h (by decide)
theorem chk_sep {l : List Rq} (hv : ∀ x ∈ l, I64 x.b ∧ I64 x.d) (h : chkFrom none l = 0) : Sep l := by
 cases l with
 | nil => trivial
 | cons x t =>
   have hx := hv x List.mem_cons_self
   unfold chkFrom at h
   by_cases h1 : rnErr x.a x.b x.c x.d ≠ 0
   · rw [if_pos h1] at h; exact absurd h h1
   · rw [if_neg h1] at h
     have a := chkFrom_sep (fun y hy => hv y (List.mem_cons_of_mem _ hy)) h
     exact ⟨(rq_err hx.1 hx.2).1 (by omega), a.2, a.1⟩
theorem order_prog {p x : Rq} (hp : p.ok) (hx : x.ok) : (ltR x p ∨ TchR p x) ↔ ¬ p.hi + 1 < x.lo := by
 have kp := Rq.ok_le hp
 have kx := Rq.ok_le hx
 unfold ltR TchR
 constructor
 · rintro (q | q)
   · omega
   · have := q.2.2; omega
 · intro q
   by_cases q2 : p.lo ≤ x.hi + 1
   · exact .inr ⟨hp, hx, by omega, q2⟩
   · left; omega
def cntP : Int → List Rq → Int × Int
 | acc, [] => (acc, 0)
 | acc, x :: t => if I64 (x.d - x.b + 1) then (if I64 (acc + (x.d - x.b + 1)) then cntP (acc + (x.d - x.b + 1)) t else (0, 15)) else (0, 15)
def HasL (l : List Rq) (k : Int) : Prop := ∃ x ∈ l, x.ok ∧ x.lo ≤ k ∧ k ≤ x.hi
def cmpR (x y : Rq) : Int := if eC x.a x.b y.a y.b ≠ 0 then eC x.a x.b y.a y.b else eC x.c x.d y.c y.d
theorem cmpR_lt {x y : Rq} : cmpR x y < 0 ↔ x.a < y.a ∨ x.a = y.a ∧ (x.b < y.b ∨ x.b = y.b ∧ (x.c < y.c ∨ x.c = y.c ∧ x.d < y.d)) := by
 unfold cmpR eC c3
 repeat' split
 all_goals omega
theorem cmpR_irrefl (x : Rq) : decide (cmpR x x < 0) = false := by
 rw [decide_eq_false_iff_not, cmpR_lt]; omega
theorem cmpR_trans (x y z : Rq) (h : decide (cmpR x y < 0) = true) (k : decide (cmpR y z < 0) = true) : decide (cmpR x z < 0) = true := by
 rw [decide_eq_true_eq, cmpR_lt] at *; omega
theorem cmpR_ntrans (x y z : Rq) (h : decide (cmpR x y < 0) = false) (k : decide (cmpR y z < 0) = false) : decide (cmpR x z < 0) = false := by
 rw [decide_eq_false_iff_not, cmpR_lt] at *; omega
theorem cmpR_total (x y : Rq) (h : decide (cmpR x y < 0) = false) (k : decide (cmpR y x < 0) = false) : x = y := by
 rw [decide_eq_false_iff_not, cmpR_lt] at *
 cases x; cases y; simp only [Rq.mk.injEq] at *; omega
def srt (l : List Rq) : List Rq := l.mergeSort fun x y => !decide (cmpR y x < 0)
theorem srt_perm (l : List Rq) : (srt l).Perm l := List.mergeSort_perm _ _
theorem srt_mem (l : List Rq) (x : Rq) : x ∈ srt l ↔ x ∈ l := (srt_perm l).mem_iff
theorem srt_len (l : List Rq) : (srt l).length = l.length := (srt_perm l).length_eq
theorem srt_pair (l : List Rq) : (srt l).Pairwise fun x y => ¬ cmpR y x < 0 := by
 have h := List.pairwise_mergeSort (le := fun x y : Rq => !decide (cmpR y x < 0)) (fun a b c h1 h2 => by
  simp only [Bool.not_eq_true'] at *
  exact cmpR_ntrans c b a h2 h1) (fun a b => by
  by_cases h : cmpR a b < 0
  · simp only [Bool.or_eq_true, Bool.not_eq_true', decide_eq_false_iff_not, cmpR_lt] at *; omega
  · simp [h]) l
 exact h.imp (fun h => by simpa using h)
theorem asc_of_pair : ∀ {l : List Rq}, (∀ x ∈ l, x.ok) → l.Pairwise (fun x y => ¬ cmpR y x < 0) → Asc l
 | [], _, _ => trivial
 | x :: t, hk, h => by
   have hx := hk x List.mem_cons_self
   rw [List.pairwise_cons] at h
   refine ⟨hx, fun y hy => ?_, asc_of_pair (fun z hz => hk z (List.mem_cons_of_mem _ hz)) h.2⟩
   have h1 := h.1 y hy
   have hy' := hk y (List.mem_cons_of_mem _ hy)
   rw [cmpR_lt] at h1
   obtain ⟨b1, _, _⟩ := hx
   obtain ⟨b2, _, _⟩ := hy'
   unfold Rq.lo key; unfold I64 at b1 b2
   omega
theorem srt_asc {l : List Rq} (h : ∀ x ∈ l, x.ok) : Asc (srt l) := asc_of_pair (fun x hx => h x ((srt_mem l x).1 hx)) (srt_pair l)
set_option maxHeartbeats 4000000
set_option maxRecDepth 100000
set_option linter.unusedVariables false
set_option linter.unusedSimpArgs false
theorem kuR_8 {W w1 w2 : World} {a0 a1 a2 a3 a4 a5 a6 a7 : Addr} {v0 v1 v2 v3 v4 v5 v6 v7 : Value} (k : Up w1 w2) (h : Up W w1 ∧ w1.cell? a0 = some v0 ∧ w1.cell? a1 = some v1 ∧ w1.cell? a2 = some v2 ∧ w1.cell? a3 = some v3 ∧ w1.cell? a4 = some v4 ∧ w1.cell? a5 = some v5 ∧ w1.cell? a6 = some v6 ∧ w1.cell? a7 = some v7) :
  Up W w2 ∧ w2.cell? a0 = some v0 ∧ w2.cell? a1 = some v1 ∧ w2.cell? a2 = some v2 ∧ w2.cell? a3 = some v3 ∧ w2.cell? a4 = some v4 ∧ w2.cell? a5 = some v5 ∧ w2.cell? a6 = some v6 ∧ w2.cell? a7 = some v7 := by
 obtain ⟨h1, c0, c1, c2, c3, c4, c5, c6, c7⟩ := h
 exact ⟨h1.trans k, k.cell c0, k.cell c1, k.cell c2, k.cell c3, k.cell c4, k.cell c5, k.cell c6, k.cell c7⟩
theorem rnCmpU (a b c d e f g h : Int) (w : World) :
    Calls Tryz.prog 67 #[.agg #[.int .i8 a, .int .i64 b, .int .i8 c, .int .i64 d], .agg #[.int .i8 e, .int .i64 f, .int .i8 g, .int .i64 h]] w fun r w' => r = .returned (.int .i64 (or2 (eC a b e f) (eC c d g h))) ∧ Up w w' := by
  go_enter Tryz.func67, Tryz.ntmps67
  go_wp2_with fail
  obtain ⟨W1, hW1⟩ : ∃ W1, W1 = (w.alloc (.cells #[.int .i8 a, .int .i64 b, .int .i8 c, .int .i64 d] 30)).alloc (.cells #[.int .i8 e, .int .i64 f, .int .i8 g, .int .i64 h] 30) := ⟨_, rfl⟩
  have uW1 : Up w W1 := by rw [hW1]; exact ((Up.refl _).alloc _).alloc _
  have c2 : W1.cell? ⟨w.heap.size, 0, none⟩ = some (.int .i8 a) := by rw [hW1]; simp [go_sem]
  have c3 : W1.cell? ⟨w.heap.size, 1, none⟩ = some (.int .i64 b) := by rw [hW1]; simp [go_sem]
  have c4 : W1.cell? ⟨w.heap.size, 2, none⟩ = some (.int .i8 c) := by rw [hW1]; simp [go_sem]
  have c5 : W1.cell? ⟨w.heap.size, 3, none⟩ = some (.int .i64 d) := by rw [hW1]; simp [go_sem]
  have l6 : w.heap.size < W1.heap.size := by rw [hW1]; simp <;> omega
  have c7 : W1.cell? ⟨w.heap.size + 1, 0, none⟩ = some (.int .i8 e) := by rw [hW1]; simp [go_sem]
  have c8 : W1.cell? ⟨w.heap.size + 1, 1, none⟩ = some (.int .i64 f) := by rw [hW1]; simp [go_sem]
  have c9 : W1.cell? ⟨w.heap.size + 1, 2, none⟩ = some (.int .i8 g) := by rw [hW1]; simp [go_sem]
  have a0 : W1.cell? ⟨w.heap.size + 1, 3, none⟩ = some (.int .i64 h) := by rw [hW1]; simp [go_sem]
  have a1 : w.heap.size + 1 < W1.heap.size := by rw [hW1]; simp <;> omega
  rw [← hW1]
  clear hW1
  have hS12 := kuR_8 (W := W1) (Up.refl _) ⟨Up.refl _, c2, c3, c4, c5, c7, c8, c9, a0⟩
  have HShS12 := Lib.hid hS12
  clear c2 c3 c4 c5 c7 c8 c9 a0
  go_region_held3 (fun w' => Up W1 w' ∧ w'.cell? ⟨w.heap.size, 0, none⟩ = some (.int .i8 a) ∧ w'.cell? ⟨w.heap.size, 1, none⟩ = some (.int .i64 b) ∧ w'.cell? ⟨w.heap.size, 2, none⟩ = some (.int .i8 c) ∧ w'.cell? ⟨w.heap.size, 3, none⟩ = some (.int .i64 d) ∧ w'.cell? ⟨w.heap.size + 1, 0, none⟩ = some (.int .i8 e) ∧ w'.cell? ⟨w.heap.size + 1, 1, none⟩ = some (.int .i64 f) ∧ w'.cell? ⟨w.heap.size + 1, 2, none⟩ = some (.int .i8 g) ∧ w'.cell? ⟨w.heap.size + 1, 3, none⟩ = some (.int .i64 h))
    (first | exact kuR_8 ((Up.refl _).drew) hS12 | exact kuR_8 ‹Up _ _› ‹_› | exact kuR_8 ‹Up _ _› ‹_› | assumption | exact kuR_8 ((Up.refl _).alloc _) ‹_›)
    (first
      | (go_at_call 15; refine (eCmp _ _ _ _ _).mono ?_; rintro e wa ⟨rfl, qa⟩)
      | (go_at_call 54; refine (cmpOr _ (eC a b e f) (eC c d g h) _ ?_ ?_).mono ?_; (simp [go_sem]); (simp [go_sem]); rintro e wa ⟨rfl, rfl⟩))
  all_goals
    clear hS12
    obtain ⟨uf21, a2, a3, a4, a5, a6, a7, a8, a9⟩ := (‹Up W1 _ ∧ _› : _ ∧ _)
    obtain ⟨w22, rfl⟩ : ∃ w22 : World, w22 = wa := ⟨_, rfl⟩
    have aA := nlt l6 uf21.size
    clear l6
    have aB := nlt a1 uf21.size
    clear a1
    have vuf21 := uW1.trans uf21
    clear uf21 uW1 HShS12
    go_wp2_with fail
    go_ret
    exact ⟨rfl, vuf21⟩
set_option linter.unusedVariables false
def El (w : World) (g o k : Nat) (x : Rq) : Prop :=
 w.cell? ⟨g, o + k * 4, none⟩ = some (.int .i8 x.a) ∧ w.cell? ⟨g, o + k * 4 + 1, none⟩ = some (.int .i64 x.b) ∧ w.cell? ⟨g, o + k * 4 + 2, none⟩ = some (.int .i8 x.c) ∧ w.cell? ⟨g, o + k * 4 + 3, none⟩ = some (.int .i64 x.d)
theorem El.dn {w w' : World} {g o k : Nat} {x : Rq} (h : El w g o k x) (q : Dn w w') : El w' g o k x := ⟨q.cell h.1, q.cell h.2.1, q.cell h.2.2.1, q.cell h.2.2.2⟩
structure Row (w : World) (p : Option Addr) (L : List Rq) : Prop where
 h : L = [] ∨ ∃ g o, p = some ⟨g, o, none⟩ ∧ g < w.heap.size ∧ ∀ k x, L[k]? = some x → El w g o k x
theorem Row.dn {w w' : World} {p : Option Addr} {L : List Rq} (h : Row w p L) (q : Dn w w') : Row w' p L := by
 rcases h.h with h | ⟨g, o, e, hl, h⟩
 · exact ⟨.inl h⟩
 · exact ⟨.inr ⟨g, o, e, Nat.lt_of_lt_of_le hl q.size, fun k x hx => (h k x hx).dn q⟩⟩
theorem Row.nil (w : World) (p : Option Addr) : Row w p [] := ⟨.inl rfl⟩
theorem Row.at {w : World} {p : Option Addr} {L : List Rq} (h : Row w p L) (hn : 0 < L.length) : ∃ g o, p = some ⟨g, o, none⟩ ∧ g < w.heap.size ∧ ∀ k x, L[k]? = some x → El w g o k x := by
 rcases h.h with h | h
 · subst h; simp at hn
 · exact h
structure Cs (w : World) (g o : Nat) (L : List Rq) : Prop where
 lt : g < w.heap.size
 el : ∀ k x, L[k]? = some x → El w g o k x
theorem Cs.dn {w w' : World} {g o : Nat} {L : List Rq} (h : Cs w g o L) (q : Dn w w') : Cs w' g o L := ⟨Nat.lt_of_lt_of_le h.lt q.size, fun k x hx => (h.el k x hx).dn q⟩
theorem Cs.row {w : World} {g o : Nat} {L : List Rq} (h : Cs w g o L) : Row w (some ⟨g, o, none⟩) L := ⟨.inr ⟨g, o, rfl, h.lt, h.el⟩⟩
theorem Row.cs {w : World} {p : Option Addr} {L : List Rq} (h : Row w p L) (hn : 0 < L.length) : ∃ g o, p = some ⟨g, o, none⟩ ∧ Cs w g o L := by
 obtain ⟨g, o, e, h1, h2⟩ := h.at hn
 exact ⟨g, o, e, h1, h2⟩
def I6 (L : List Rq) : Prop := ∀ x ∈ L, I64 x.b ∧ I64 x.d
theorem I6.at {L : List Rq} (h : I6 L) {k : Nat} {x : Rq} (hx : L[k]? = some x) : I64 x.b ∧ I64 x.d := h x (List.mem_of_getElem? hx)
def prv (L : List Rq) (k : Nat) : Option Rq := if k = 0 then none else L[k - 1]?
theorem chk_at {L : List Rq} {k : Nat} {x : Rq} (h : L[k]? = some x) : chkFrom (prv L k) (L.drop k) = if rnErr x.a x.b x.c x.d ≠ 0 then rnErr x.a x.b x.c x.d else
  match prv L k with
  | none => chkFrom (prv L (k + 1)) (L.drop (k + 1))
  | some q => if q.hi + 1 < x.lo then chkFrom (prv L (k + 1)) (L.drop (k + 1)) else 12 := by
 obtain ⟨hl, rfl⟩ := List.getElem?_eq_some_iff.1 h
 have h2 : prv L (k + 1) = some L[k] := by simp [prv]
 rw [List.drop_eq_getElem_cons hl, h2]
 rfl
theorem chk_bad {L : List Rq} {k : Nat} {x : Rq} (h : L[k]? = some x) (he : rnErr x.a x.b x.c x.d ≠ 0) : chkFrom (prv L k) (L.drop k) = rnErr x.a x.b x.c x.d := by
 rw [chk_at h, if_pos he]
theorem chk_first {L : List Rq} {k : Nat} {x : Rq} (h : L[k]? = some x) (hk : k = 0) (he : rnErr x.a x.b x.c x.d = 0) : chkFrom (prv L k) (L.drop k) = chkFrom (prv L (k + 1)) (L.drop (k + 1)) := by
 subst hk
 rw [chk_at h, if_neg (by simpa using he)]
 simp [prv]
theorem chk_order {L : List Rq} {k : Nat} {q x : Rq} (h : L[k]? = some x) (hk : 0 < k) (hq : L[k - 1]? = some q) (he : rnErr x.a x.b x.c x.d = 0) (ho : ¬ q.hi + 1 < x.lo) : chkFrom (prv L k) (L.drop k) = 12 := by
 have : prv L k = some q := by simp [prv, hq]; omega
 rw [chk_at h, if_neg (by simpa using he), this]
 simp [ho]
theorem chk_next {L : List Rq} {k : Nat} {q x : Rq} (h : L[k]? = some x) (hk : 0 < k) (hq : L[k - 1]? = some q) (he : rnErr x.a x.b x.c x.d = 0) (ho : q.hi + 1 < x.lo) : chkFrom (prv L k) (L.drop k) = chkFrom (prv L (k + 1)) (L.drop (k + 1)) := by
 have : prv L k = some q := by simp [prv, hq]; omega
 rw [chk_at h, if_neg (by simpa using he), this]
 simp [ho]
theorem chk_end {L : List Rq} : chkFrom (prv L L.length) (L.drop L.length) = 0 := by
 simp [chkFrom]
def OkTo (L : List Rq) (k : Nat) : Prop := ∀ i x, L[i]? = some x → i < k → x.ok
theorem OkTo.zero (L : List Rq) : OkTo L 0 := fun _ _ _ h => absurd h (by omega)
theorem OkTo.step {L : List Rq} {k : Nat} {x : Rq} (h : OkTo L k) (hx : L[k]? = some x) (hk : x.ok) : OkTo L (k + 1) := fun i y hy hi => by
 rcases Nat.lt_or_ge i k with h1 | h1
 · exact h i y hy h1
 · obtain rfl : i = k := by omega
   rw [hx] at hy; cases hy; exact hk
theorem OkTo.all {L : List Rq} (h : OkTo L L.length) : ∀ x ∈ L, x.ok := fun x hx => by
 obtain ⟨i, hi, rfl⟩ := List.getElem_of_mem hx
 exact h i _ (by simp [hi]) hi
theorem tch_iff {p x : Rq} (hp : I64 p.b ∧ I64 p.d) (hx : I64 x.b ∧ I64 x.d) : Tch p.a p.b p.c p.d x.a x.b x.c x.d ↔ TchR p x :=
 ⟨fun h => ⟨⟨hp.1, hp.2, h.1⟩, ⟨hx.1, hx.2, h.2.1⟩, h.2.2⟩, fun h => ⟨h.1.2.2, h.2.1.2.2, h.2.2⟩⟩
theorem meet_iff {p x : Rq} (hp : I64 p.b ∧ I64 p.d) (hx : I64 x.b ∧ I64 x.d) : Meet p.a p.b p.c p.d x.a x.b x.c x.d ↔ MeetR p x :=
 ⟨fun h => ⟨⟨hp.1, hp.2, h.1⟩, ⟨hx.1, hx.2, h.2.1⟩, h.2.2⟩, fun h => ⟨h.1.2.2, h.2.1.2.2, h.2.2⟩⟩
theorem cmp_ltR {x p : Rq} (hx : I64 x.b ∧ I64 x.d) (hp : I64 p.b ∧ I64 p.d) : 0 < or2 (eC p.a p.b x.a x.b) (eC p.c p.d x.c x.d) ↔ ltR x p := by
 have h1 := eC_gt (i := p.a) (j := x.a) hp.1 hx.1
 have h2 := eC_gt (i := p.c) (j := x.c) hp.2 hx.2
 have h3 := eC_lt (i := p.a) (j := x.a) hp.1 hx.1
 unfold or2 ltR Rq.lo Rq.hi
 split <;> omega
set_option linter.unusedVariables false
set_option linter.unusedSimpArgs false
def HasP (a b c d day : Int) : Prop := (a = -1 ∨ b ≤ day) ∧ (c = 1 ∨ day ≤ d)
instance decHasP (a b c d day : Int) : Decidable (HasP a b c d day) := by unfold HasP; infer_instance
def cntF (l : List Bool) : Nat := l.count false
theorem cntF_set : ∀ (l : List Bool) (i : Nat), l[i]? = some false → cntF (l.set i true) + 1 = cntF l
 | [], i, h => by simp at h
 | x :: l, 0, h => by
   simp at h
   subst h
   simp [cntF]
 | x :: l, i + 1, h => by
   have := cntF_set l i (by simpa using h)
   simp only [cntF, List.set_cons_succ, List.count_cons] at this ⊢
   omega
theorem getD_false {l : Array Bool} {i : Nat} (h : l.getD i true = false) : l.toList[i]? = some false := by
 rcases Nat.lt_or_ge i l.size with h' | h'
 · simp [h'] at h ⊢; exact h
 · simp [h'] at h
theorem cntF_pos {l : List Bool} {i : Nat} (h : l[i]? = some false) : 0 < cntF l := by
 have := cntF_set l i h
 omega
theorem region_inv_any {P : Program} {ops : Array Oper} {Q : Exit → Act → World → Prop} (J : Array Bool → Act → World → Prop)
   (hs : ∀ l a w i, J l a w → l.getD i true = false → (∀ o, ops[i]? = some o → ∀ e ∈ o.after, Region.binds .any e = true → l.getD e.on false = true) → i < ops.size → wpOp P ops Q i (fun a' w' => J (l.setIfInBounds i true) a' w') a w)
   (hq : ∀ l a w, J l a w → (∀ i o, ops[i]? = some o → l.getD i true = false → ¬ ∀ e ∈ o.after, Region.binds .any e = true → l.getD e.on false = true) → Q .normal a w) :
   ∀ (fuel : Nat) (l : Array Bool) (a : Act) (w : World), J l a w → cntF l.toList ≤ fuel → wpAny P .any ops Q fuel l a w := by
 have fin : ∀ l a w, J l a w → Region.ready .any ops l = [] → Q .normal a w := fun l a w hJ hr =>
   hq l a w hJ fun i o ho hf hall => by
     have := mem_ready (md := .any) (ops := ops) (listed := l) (j := i) |>.2 ⟨hf, o, ho, hall⟩
     rw [hr] at this
     cases this
 intro fuel
 induction fuel with
 | zero =>
   intro l a w hJ hc
   have hr : Region.ready .any ops l = [] := List.eq_nil_iff_forall_not_mem.2 fun i hi => by
     have := cntF_pos (getD_false (mem_ready.1 hi).1)
     omega
   exact ⟨hr, fin l a w hJ hr⟩
 | succ fuel ih =>
   intro l a w hJ hc
   refine ⟨fin l a w hJ, fun i hi => ?_⟩
   obtain ⟨h0, o, ho, hall⟩ := mem_ready.1 hi
   refine wpOp_mono (fun a' w' hJ' => ih _ a' w' hJ' ?_) (hs l a w i hJ h0 (fun o' ho' => ?_) (Array.getElem?_eq_some_iff.1 ho).1)
   · have := cntF_set l.toList i (getD_false h0)
     simp only [Array.toList_setIfInBounds]
     omega
   · obtain rfl := Option.some.inj (ho.symm.trans ho')
     exact hall
theorem region_inv {P : Program} {ops : Array Oper} {Q : Exit → Act → World → Prop} {id : Nat} {a : Act} {w : World} (J : Act → Array Bool → Act → World → Prop)
  (hm : P.follows .mixedOrders = true) (h0 : J a (Array.replicate ops.size false) a w.drew)
  (hs : ∀ l a' w i, J a l a' w → l.getD i true = false → (∀ o, ops[i]? = some o → ∀ e ∈ o.after, Region.binds .any e = true → l.getD e.on false = true) → i < ops.size → wpOp P ops Q i (fun a'' w' => J a (l.setIfInBounds i true) a'' w') a' w)
  (hq : ∀ l a' w, J a l a' w → (∀ i o, ops[i]? = some o → l.getD i true = false → ¬ ∀ e ∈ o.after, Region.binds .any e = true → l.getD e.on false = true) → Q .normal a' w) :
  (Code.region id ops true).wp P Q a w := by
 refine wp_region_any hm (region_inv_any (J a) hs hq ops.size _ a _ h0 ?_)
 have : ∀ n, cntF (List.replicate n false) ≤ n := fun n => by simp [cntF]
 simpa using this ops.size
theorem cell_far4 {w : World} {B n j : Nat} {u v0 v1 v2 v3 : Value} (hn : n ≠ B) (h : w.cell? ⟨n, j, none⟩ = some u) :
  ((((w.setCell ⟨B, 0, none⟩ v0).setCell ⟨B, 1, none⟩ v1).setCell ⟨B, 2, none⟩ v2).setCell ⟨B, 3, none⟩ v3).cell? ⟨n, j, none⟩ = some u := by
 have hx : ∀ (w : World) i v, w.cell? ⟨n, j, none⟩ = some u → (w.setCell ⟨B, i, none⟩ v).cell? ⟨n, j, none⟩ = some u := fun w i v hu => by
  rw [World.cell?_setCell_other _ _ _ _ (fun e => hn (by simpa using (congrArg Addr.block e).symm))]; exact hu
 exact hx _ _ _ (hx _ _ _ (hx _ _ _ (hx _ _ _ h)))
def Bl (L : Nat) (w : World) (al st : Bool) (x v0 v1 v2 v3 : Value) : Prop :=
 al = true → ∃ B, x = .pointer (some ⟨B, 0, none⟩) ∧ L ≤ B ∧ (st = false → C4 w B (.int .i8 0) (.int .i64 0) (.int .i8 0) (.int .i64 0)) ∧ (st = true → C4 w B v0 v1 v2 v3)
theorem Bl.no {L : Nat} {w : World} {st : Bool} {x v0 v1 v2 v3 : Value} : Bl L w false st x v0 v1 v2 v3 := fun h => by cases h
theorem Bl.dn {L : Nat} {w w' : World} {al st : Bool} {x v0 v1 v2 v3 : Value} (h : Bl L w al st x v0 v1 v2 v3) (q : Dn w w') : Bl L w' al st x v0 v1 v2 v3 := fun ha => by
 obtain ⟨B, h1, h2, h3, h4⟩ := h ha
 exact ⟨B, h1, h2, fun k => (h3 k).dn q, fun k => (h4 k).dn q⟩
theorem Bl.new {L : Nat} {w : World} {v0 v1 v2 v3 : Value} (h : L ≤ w.heap.size) (t : TypeId) :
  Bl L (w.alloc (.cells #[.int .i8 0, .int .i64 0, .int .i8 0, .int .i64 0] t)) true false (.pointer (some ⟨w.heap.size, 0, none⟩)) v0 v1 v2 v3 :=
 fun _ => ⟨_, rfl, h, fun _ => C4.new _ _ _ _ _ _, fun k => by cases k⟩
def Ap (al bl : Bool) (x y : Value) : Prop := al = true → bl = true → x ≠ y
theorem Ap.symm {al bl : Bool} {x y : Value} (h : Ap al bl x y) : Ap bl al y x := fun ha hb e => h hb ha e.symm
theorem Bl.far {L : Nat} {w : World} {al st : Bool} {x v0 v1 v2 v3 : Value} (h : Bl L w al st x v0 v1 v2 v3) {B : Nat} (ha : Ap true al (.pointer (some ⟨B, 0, none⟩)) x) (u0 u1 u2 u3 : Value) :
  Bl L ((((w.setCell ⟨B, 0, none⟩ u0).setCell ⟨B, 1, none⟩ u1).setCell ⟨B, 2, none⟩ u2).setCell ⟨B, 3, none⟩ u3) al st x v0 v1 v2 v3 := fun k => by
 obtain ⟨B', rfl, h2, h3, h4⟩ := h k
 have hn : B' ≠ B := fun e => ha rfl k (by rw [e])
 exact ⟨B', rfl, h2, fun k => (h3 k).far4 hn _ _ _ _, fun k => (h4 k).far4 hn _ _ _ _⟩
set_option linter.unusedVariables false
set_option linter.unusedSimpArgs false
def BegP (a b c d e f : Int) : Prop := if e = -1 then a = -1 else HasP a b c d f
instance decBegP (a b c d e f : Int) : Decidable (BegP a b c d e f) := by unfold BegP; infer_instance
def AdjP (c d e f : Int) : Prop := c = 0 ∧ e = 0 ∧ d < 9223372036854775807 ∧ d + 1 = f
instance decAdjP (c d e f : Int) : Decidable (AdjP c d e f) := by unfold AdjP; infer_instance
end Go.Proofs.YteodjglbpfmikaaGreatDoor
