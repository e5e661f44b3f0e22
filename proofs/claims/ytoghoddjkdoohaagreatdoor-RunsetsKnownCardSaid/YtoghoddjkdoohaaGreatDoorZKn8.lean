/- Walks and laws that the claim's theorem leans on: part 8. -/
import Derived.Test.YtoghoddjkdoohaaGreatDoorZKn1
import Derived.Test.YtoghoddjkdoohaaGreatDoorZKn4
import Derived.Test.YtoghoddjkdoohaaGreatDoorZKn5
namespace Go.Proofs.YtoghoddjkdoohaaGreatDoor
open Go.RowKit
structure Rq where
 a : Int
 b : Int
 c : Int
 d : Int
deriving DecidableEq
def Rq.lo (x : Rq) : Int := key x.a x.b
def Rq.hi (x : Rq) : Int := key x.c x.d
def Rq.ok (x : Rq) : Prop := I64 x.b /\ I64 x.d /\ RnOk x.a x.b x.c x.d
def Sep : List Rq -> Prop
 | [] => True
 | x :: t => x.ok /\ (∀ y ∈ t, x.hi + 1 < y.lo) /\ Sep t
def Pt (k : Int) : Prop := I64 k \/ k = key (-1) 0 \/ k = key 1 0
def Mem (k : Int) (L : List Rq) : Prop := ∃ x ∈ L, x.lo <= k /\ k <= x.hi
theorem mem_nil {k : Int} : ¬ Mem k [] := by rintro ⟨x, h, _⟩; cases h
theorem mem_cons {k : Int} {x : Rq} {t : List Rq} : Mem k (x :: t) ↔ (x.lo <= k /\ k <= x.hi) \/ Mem k t := by
 constructor
 · rintro ⟨y, h, k1⟩
   rcases List.mem_cons.1 h with h | h
   · subst h; exact .inl k1
   · exact .inr ⟨y, h, k1⟩
 · rintro (h | ⟨y, h, k1⟩)
   · exact ⟨x, List.mem_cons_self, h⟩
   · exact ⟨y, List.mem_cons_of_mem _ h, k1⟩
theorem mem_append {k : Int} {s t : List Rq} : Mem k (s ++ t) ↔ Mem k s \/ Mem k t := by
 constructor
 · rintro ⟨y, h, k1⟩
   rcases List.mem_append.1 h with h | h
   · exact .inl ⟨y, h, k1⟩
   · exact .inr ⟨y, h, k1⟩
 · rintro (⟨y, h, k1⟩ | ⟨y, h, k1⟩)
   · exact ⟨y, List.mem_append.2 (.inl h), k1⟩
   · exact ⟨y, List.mem_append.2 (.inr h), k1⟩
theorem Rq.ok_lo {x : Rq} (h : x.ok) : Pt x.lo /\ x.lo <= 9223372036854775807 := by
 obtain ⟨h1, h2, h3, h4, h5, h6, h7⟩ := h
 unfold eOk at h3 h4; unfold I64 at h1 h2; unfold Pt Rq.lo I64 key
 rcases h3 with h3 | h3 <;> omega
theorem Rq.ok_hi {x : Rq} (h : x.ok) : Pt x.hi /\ -9223372036854775808 <= x.hi := by
 obtain ⟨h1, h2, h3, h4, h5, h6, h7⟩ := h
 unfold eOk at h3 h4; unfold I64 at h1 h2; unfold Pt Rq.hi I64 key
 rcases h4 with h4 | h4 <;> omega
theorem Rq.ok_le {x : Rq} (h : x.ok) : x.lo <= x.hi := h.2.2.2.2.2.2
theorem Rq.ext_key {x y : Rq} (hx : x.ok) (hy : y.ok) (h1 : x.lo = y.lo) (h2 : x.hi = y.hi) : x = y := by
 have k1 := (key_inj hx.1 hy.1).1 h1
 have k2 := (key_inj hx.2.1 hy.2.1).1 h2
 cases x; cases y; simp_all
theorem Sep.lo_le {x : Rq} {t : List Rq} (h : Sep (x :: t)) {k : Int} (hk : Mem k (x :: t)) : x.lo <= k := by
 obtain ⟨y, hy, h1, h2⟩ := hk
 rcases List.mem_cons.1 hy with hy | hy
 · subst hy; exact h1
 · have := h.2.1 y hy; have := Rq.ok_le h.1; omega
theorem Sep.hi_lt {x : Rq} {t : List Rq} (h : Sep (x :: t)) {k : Int} (hk : Mem k t) : x.hi + 1 < k := by
 obtain ⟨y, hy, h1, h2⟩ := hk
 have := h.2.1 y hy; omega
theorem Sep.hi_le {x y : Rq} {s t : List Rq} (hL : Sep (x :: s)) (hM : Sep (y :: t)) (h : ∀ k, Pt k -> (Mem k (x :: s) ↔ Mem k (y :: t))) : y.hi <= x.hi := by
 by_cases hlt : y.hi <= x.hi
 · exact hlt
 exfalso
 have px := Rq.ok_hi hL.1
 have py := Rq.ok_hi hM.1
 have plx := Rq.ok_lo hL.1
 have nx := Rq.ok_le hL.1
 have ny : y.lo <= x.lo := Sep.lo_le hM ((h _ plx.1).1 ⟨x, List.mem_cons_self, by omega, nx⟩)
 by_cases hm : x.hi < 9223372036854775807
 · have pk : Pt (x.hi + 1) := by left; unfold I64; omega
   have hk : Mem (x.hi + 1) (x :: s) := (h _ pk).2 ⟨y, List.mem_cons_self, by omega, by omega⟩; rcases mem_cons.1 hk with k1 | k1
   · omega
   · have := Sep.hi_lt hL k1; omega
 · have hk : Mem y.hi (x :: s) := (h _ py.1).2 ⟨y, List.mem_cons_self, Rq.ok_le hM.1, by omega⟩
   rcases mem_cons.1 hk with k1 | ⟨z, hz, k1, k2⟩
   · omega
   · have hz1 := hL.2.1 z hz
     have hzok : z.ok := by
      clear h hk; have hs := hL.2.2; clear hL
      induction s with
      | nil => cases hz
      | cons w s ih =>
        rcases List.mem_cons.1 hz with hz | hz
        · subst hz; exact hs.1
        · exact ih hz hs.2.2
     have := Rq.ok_lo hzok; omega
theorem sep_ext : ∀ {L M : List Rq}, Sep L -> Sep M -> (∀ k, Pt k -> (Mem k L ↔ Mem k M)) -> L = M
 | [], [], _, _, _ => rfl
 | [], y :: t, _, hM, h => absurd ((h y.lo (Rq.ok_lo hM.1).1).2 ⟨y, List.mem_cons_self, by omega, Rq.ok_le hM.1⟩) mem_nil
 | x :: s, [], hL, _, h => absurd ((h x.lo (Rq.ok_lo hL.1).1).1 ⟨x, List.mem_cons_self, by omega, Rq.ok_le hL.1⟩) mem_nil
 | x :: s, y :: t, hL, hM, h => by
   have h' : ∀ k, Pt k -> (Mem k (y :: t) ↔ Mem k (x :: s)) := fun k hk => (h k hk).symm
   have l1 : x.lo <= y.lo := Sep.lo_le hL ((h' _ (Rq.ok_lo hM.1).1).1 ⟨y, List.mem_cons_self, by omega, Rq.ok_le hM.1⟩); have l2 : y.lo <= x.lo := Sep.lo_le hM ((h _ (Rq.ok_lo hL.1).1).1 ⟨x, List.mem_cons_self, by omega, Rq.ok_le hL.1⟩); have u1 := Sep.hi_le hL hM h; have u2 := Sep.hi_le hM hL h'; have e : x = y := Rq.ext_key hL.1 hM.1 (by omega) (by omega); subst e
   have : s = t := sep_ext hL.2.2 hM.2.2 (fun k hk => by
    constructor
    · intro hs
      rcases mem_cons.1 ((h k hk).1 (mem_cons.2 (.inr hs))) with k1 | k1
      · have := Sep.hi_lt hL hs; omega
      · exact k1
    · intro ht
      rcases mem_cons.1 ((h k hk).2 (mem_cons.2 (.inr ht))) with k1 | k1
      · have := Sep.hi_lt hM ht; omega
      · exact k1)
   rw [this]
def chkFrom : Option Rq -> List Rq -> Int
 | _, [] => 0
 | p, x :: t => if rnErr x.a x.b x.c x.d ≠ 0 then rnErr x.a x.b x.c x.d else
   match p with
   | none => chkFrom (some x) t
   | some q => if q.hi + 1 < x.lo then chkFrom (some x) t else 12
def chkL (l : List Rq) : Int := if 4096 < l.length then 3 else chkFrom none l
def jnR (x y : Rq) : Rq := ⟨mnI x.a x.b y.a y.b, mnD x.a x.b y.a y.b, mxI x.c x.d y.c y.d, mxD x.c x.d y.c y.d⟩
def inR (x y : Rq) : Rq := ⟨mxI x.a x.b y.a y.b, mxD x.a x.b y.a y.b, mnI x.c x.d y.c y.d, mnD x.c x.d y.c y.d⟩
def TchR (x y : Rq) : Prop := x.ok /\ y.ok /\ y.lo <= x.hi + 1 /\ x.lo <= y.hi + 1
def MeetR (x y : Rq) : Prop := x.ok /\ y.ok /\ y.lo <= x.hi /\ x.lo <= y.hi
instance decRqOk (x : Rq) : Decidable x.ok := by unfold Rq.ok; infer_instance
instance decTchR (x y : Rq) : Decidable (TchR x y) := by unfold TchR; infer_instance
instance decMeetR (x y : Rq) : Decidable (MeetR x y) := by unfold MeetR; infer_instance
theorem jnR_lo {x y : Rq} (hx : x.ok) (hy : y.ok) : (jnR x y).lo = min x.lo y.lo := mn_key hx.1 hy.1
theorem jnR_hi {x y : Rq} (hx : x.ok) (hy : y.ok) : (jnR x y).hi = max x.hi y.hi := mx_key hx.2.1 hy.2.1
theorem inR_lo {x y : Rq} (hx : x.ok) (hy : y.ok) : (inR x y).lo = max x.lo y.lo := mx_key hx.1 hy.1
theorem inR_hi {x y : Rq} (hx : x.ok) (hy : y.ok) : (inR x y).hi = min x.hi y.hi := mn_key hx.2.1 hy.2.1
theorem mn_le0 {i d j f : Int} (h : i <= 0) (k : j <= 0) : mnI i d j f <= 0 := by unfold mnI; split <;> assumption
theorem mn_ge0 {i d j f : Int} (h : 0 <= i) (k : 0 <= j) : 0 <= mnI i d j f := by unfold mnI; split <;> assumption
theorem mx_le0 {i d j f : Int} (h : i <= 0) (k : j <= 0) : mxI i d j f <= 0 := by unfold mxI; split <;> assumption
theorem mx_ge0 {i d j f : Int} (h : 0 <= i) (k : 0 <= j) : 0 <= mxI i d j f := by unfold mxI; split <;> assumption
theorem jnR_ok {x y : Rq} (hx : x.ok) (hy : y.ok) : (jnR x y).ok := by
 have l := jnR_lo hx hy
 have h := jnR_hi hx hy
 have k1 := Rq.ok_le hx
 have k2 := Rq.ok_le hy
 have k : (jnR x y).lo <= (jnR x y).hi := by omega
 obtain ⟨a1, a2, a3, a4, a5, a6, a7⟩ := hx
 obtain ⟨b1, b2, b3, b4, b5, b6, b7⟩ := hy
 exact ⟨mn_i64 a1 b1, mx_i64 a2 b2, mn_ok a3 b3, mx_ok a4 b4, mn_le0 a5 b5, mx_ge0 a6 b6, k⟩
theorem inR_ok {x y : Rq} (hm : MeetR x y) : (inR x y).ok := by
 obtain ⟨hx, hy, m1, m2⟩ := hm
 have l := inR_lo hx hy
 have h := inR_hi hx hy
 have k1 := Rq.ok_le hx
 have k2 := Rq.ok_le hy
 have k : (inR x y).lo <= (inR x y).hi := by omega
 obtain ⟨a1, a2, a3, a4, a5, a6, a7⟩ := hx
 obtain ⟨b1, b2, b3, b4, b5, b6, b7⟩ := hy
 exact ⟨mx_i64 a1 b1, mn_i64 a2 b2, mx_ok a3 b3, mn_ok a4 b4, mx_le0 a5 b5, mn_ge0 a6 b6, k⟩
def jn : Rq -> List Rq -> List Rq
 | p, [] => [p]
 | p, r :: t => if TchR p r then jn (jnR p r) t else p :: jn r t
def joinedL : List Rq -> List Rq
 | [] => []
 | x :: t => jn x t
def Asc : List Rq -> Prop
 | [] => True
 | x :: t => x.ok /\ (∀ y ∈ t, x.lo <= y.lo) /\ Asc t
theorem jn_law : ∀ (t : List Rq) (p : Rq), Asc (p :: t) -> Sep (jn p t) /\ (∀ z ∈ jn p t, p.lo <= z.lo) /\ ∀ k, Mem k (jn p t) ↔ Mem k (p :: t)
 | [], p, h => ⟨⟨h.1, by simp, trivial⟩, by simp [jn], fun k => Iff.rfl⟩
 | r :: t, p, h => by
   have hr := h.2.2; have l1 := h.2.1 r List.mem_cons_self; unfold jn
   by_cases ht : TchR p r
   · rw [if_pos ht]
     have lo := jnR_lo h.1 hr.1; have hi := jnR_hi h.1 hr.1; have k1 := Rq.ok_le h.1; have k2 := Rq.ok_le hr.1; obtain ⟨a1, a2, a3⟩ := jn_law t (jnR p r) ⟨jnR_ok h.1 hr.1, fun y hy => by have := h.2.1 y (List.mem_cons_of_mem _ hy); omega, hr.2.2⟩; refine ⟨a1, fun z hz => by have := a2 z hz; omega, fun k => ?_⟩; rw [a3, mem_cons, mem_cons, mem_cons]; have h3 := ht.2.2; constructor
     · rintro (q | q)
       · by_cases q2 : k <= p.hi
         · left; omega
         · right; left; omega
       · exact .inr (.inr q)
     · rintro (q | q | q)
       · left; omega
       · left; omega
       · exact .inr q
   · rw [if_neg ht]
     obtain ⟨a1, a2, a3⟩ := jn_law t r hr; have k1 := Rq.ok_le h.1; have k2 := Rq.ok_le hr.1
     have hs : p.hi + 1 < r.lo := by
       by_cases q : p.hi + 1 < r.lo
       · exact q
       · exact absurd ⟨h.1, hr.1, by omega, by omega⟩ ht
     refine ⟨⟨h.1, fun y hy => by have := a2 y hy; omega, a1⟩, fun z hz => ?_, fun k => ?_⟩
     · rcases List.mem_cons.1 hz with hz | hz
       · subst hz; omega
       · have := a2 z hz; omega
     · rw [mem_cons, mem_cons, a3]
theorem joined_law {l : List Rq} (h : Asc l) : Sep (joinedL l) /\ ∀ k, Mem k (joinedL l) ↔ Mem k l := by
 cases l with
 | nil => exact ⟨trivial, fun k => Iff.rfl⟩
 | cons x t => exact ⟨(jn_law t x h).1, (jn_law t x h).2.2⟩
theorem Sep.all {l : List Rq} (h : Sep l) : ∀ x ∈ l, x.ok := by
 induction l with
 | nil => intro x hx; cases hx
 | cons y t ih =>
   intro x hx; rcases List.mem_cons.1 hx with hx | hx
   · subst hx; exact h.1
   · exact ih h.2.2 x hx
theorem asc_all {l : List Rq} (h : Asc l) : ∀ x ∈ l, x.ok := by
 induction l with
 | nil => intro x hx; cases hx
 | cons y t ih =>
   intro x hx; rcases List.mem_cons.1 hx with hx | hx
   · subst hx; exact h.1
   · exact ih h.2.2 x hx
def cmn : List Rq -> List Rq -> List Rq
 | [], _ => []
 | _ :: _, [] => []
 | x :: s, y :: t => (if MeetR x y then [inR x y] else []) ++ (if x.hi < y.hi then cmn s (y :: t) else cmn (x :: s) t)
termination_by s t => s.length + t.length
theorem cmn_law : ∀ (s t : List Rq), Sep s -> Sep t -> Asc (cmn s t) /\ ∀ k, Mem k (cmn s t) ↔ Mem k s /\ Mem k t
 | [], t, _, _ => by
   unfold cmn; exact ⟨trivial, fun k => ⟨fun h => absurd h mem_nil, fun h => absurd h.1 mem_nil⟩⟩
 | x :: s, [], _, _ => by
   unfold cmn; exact ⟨trivial, fun k => ⟨fun h => absurd h mem_nil, fun h => absurd h.2 mem_nil⟩⟩
 | x :: s, y :: t, hs, ht => by
   unfold cmn; have kx := Rq.ok_le hs.1; have ky := Rq.ok_le ht.1; have lo := inR_lo hs.1 ht.1; have hi := inR_hi hs.1 ht.1
   by_cases hlt : x.hi < y.hi
   · rw [if_pos hlt]
     obtain ⟨a1, a2⟩ := cmn_law s (y :: t) hs.2.2 ht
     have mm : ∀ k, (x.lo <= k /\ k <= x.hi) /\ Mem k (y :: t) ↔ (x.lo <= k /\ k <= x.hi) /\ (y.lo <= k /\ k <= y.hi) := by
       intro k; rw [mem_cons]; constructor
       · rintro ⟨q1, q2 | q2⟩
         · exact ⟨q1, q2⟩
         · have := Sep.hi_lt ht q2; omega
       · rintro ⟨q1, q2⟩; exact ⟨q1, .inl q2⟩
     by_cases hm : MeetR x y
     · rw [if_pos hm]
       refine ⟨⟨inR_ok hm, fun z hz => ?_, a1⟩, fun k => ?_⟩
       · have hz1 : Mem z.lo (cmn s (y :: t)) := ⟨z, hz, by omega, Rq.ok_le (asc_all a1 z hz)⟩
         have := (a2 _).1 hz1; have b1 := Sep.hi_lt hs this.1; have b2 := Sep.lo_le ht this.2; omega
       · show Mem k (inR x y :: cmn s (y :: t)) ↔ _
         rw [mem_cons, a2, mem_cons (x := x), or_and_right, mm]; constructor
         · rintro (q | q)
           · left; omega
           · exact .inr q
         · rintro (q | q)
           · left; omega
           · exact .inr q
     · rw [if_neg hm]
       refine ⟨a1, fun k => ?_⟩
       show Mem k (cmn s (y :: t)) ↔ _
       rw [a2, mem_cons (x := x), or_and_right, mm]; constructor
       · exact .inr
       · rintro (q | q)
         · exact absurd ⟨hs.1, ht.1, by omega, by omega⟩ hm
         · exact q
   · rw [if_neg hlt]
     obtain ⟨a1, a2⟩ := cmn_law (x :: s) t hs ht.2.2
     have mm : ∀ k, Mem k (x :: s) /\ (y.lo <= k /\ k <= y.hi) ↔ (x.lo <= k /\ k <= x.hi) /\ (y.lo <= k /\ k <= y.hi) := by
       intro k; rw [mem_cons]; constructor
       · rintro ⟨q2 | q2, q1⟩
         · exact ⟨q2, q1⟩
         · have := Sep.hi_lt hs q2; omega
       · rintro ⟨q1, q2⟩; exact ⟨.inl q1, q2⟩
     by_cases hm : MeetR x y
     · rw [if_pos hm]
       refine ⟨⟨inR_ok hm, fun z hz => ?_, a1⟩, fun k => ?_⟩
       · have hz1 : Mem z.lo (cmn (x :: s) t) := ⟨z, hz, by omega, Rq.ok_le (asc_all a1 z hz)⟩
         have := (a2 _).1 hz1; have b1 := Sep.lo_le hs this.1; have b2 := Sep.hi_lt ht this.2; omega
       · show Mem k (inR x y :: cmn (x :: s) t) ↔ _
         rw [mem_cons (x := inR x y), a2, mem_cons (x := y), and_or_left, mm]; constructor
         · rintro (q | q)
           · left; omega
           · exact .inr q
         · rintro (q | q)
           · left; omega
           · exact .inr q
     · rw [if_neg hm]
       refine ⟨a1, fun k => ?_⟩
       show Mem k (cmn (x :: s) t) ↔ _
       rw [a2, mem_cons (x := y), and_or_left, mm]; constructor
       · exact .inr
       · rintro (q | q)
         · exact absurd ⟨hs.1, ht.1, by omega, by omega⟩ hm
         · exact q
termination_by s t => s.length + t.length
def lastT (r : Rq) : List Rq -> Option Nat
 | [] => none
 | x :: t => match lastT r t with
   | some i => some (i + 1)
   | none => if TchR x r then some 0 else none
def ltR (x y : Rq) : Prop := x.lo < y.lo \/ x.lo = y.lo /\ x.hi < y.hi
instance decLtR (x y : Rq) : Decidable (ltR x y) := by unfold ltR; infer_instance
def insR (r : Rq) : List Rq -> List Rq
 | [] => [r]
 | x :: t => if ltR r x then r :: x :: t else x :: insR r t
def putF : Nat -> List Rq -> Rq -> List Rq
 | 0, l, r => insR r l
 | n + 1, l, r => match lastT r l with
   | none => insR r l
   | some i => putF n (l.eraseIdx i) (jnR (l.getD i ⟨0, 0, 0, 0⟩) r)
def putL (l : List Rq) (r : Rq) : List Rq := putF l.length l r
theorem lastT_none {r : Rq} : ∀ {l : List Rq}, lastT r l = none -> ∀ x ∈ l, ¬ TchR x r
 | [], _ => fun x hx => by cases hx
 | y :: t, h => by
   unfold lastT at h; split at h
   · cases h
   · rename_i h1
     split at h
     · cases h
     · rename_i h2
       intro x hx; rcases List.mem_cons.1 hx with hx | hx
       · subst hx; exact h2
       · exact lastT_none h1 x hx
theorem lastT_some {r : Rq} : ∀ {l : List Rq} {i : Nat}, lastT r l = some i -> i < l.length /\ TchR (l.getD i ⟨0, 0, 0, 0⟩) r
 | [], _, h => by cases h
 | y :: t, i, h => by
   unfold lastT at h; split at h
   · rename_i j h1
     have := lastT_some h1
     cases h
     exact ⟨by simpa using this.1, by simpa using this.2⟩
   · split at h
     · rename_i h2
       cases h
       exact ⟨by simp, by simpa using h2⟩
     · cases h
theorem erase_sub {l : List Rq} {i : Nat} {x : Rq} (h : x ∈ l.eraseIdx i) : x ∈ l := List.mem_of_mem_eraseIdx h
theorem Sep.erase : ∀ {l : List Rq} (i : Nat), Sep l -> Sep (l.eraseIdx i)
 | [], _, h => by simpa using h
 | x :: t, 0, h => h.2.2
 | x :: t, i + 1, h => ⟨h.1, fun y hy => h.2.1 y (erase_sub hy), Sep.erase i h.2.2⟩
theorem mem_erase {k : Int} : ∀ {l : List Rq} {i : Nat}, i < l.length -> (Mem k l ↔ Mem k (l.eraseIdx i) \/ ((l.getD i ⟨0, 0, 0, 0⟩).lo <= k /\ k <= (l.getD i ⟨0, 0, 0, 0⟩).hi))
 | [], _, h => by cases h
 | x :: t, 0, _ => by
   rw [mem_cons]; simp only [List.eraseIdx_zero, List.tail_cons, List.getD_cons_zero]; constructor
   · rintro (q | q)
     · exact .inr q
     · exact .inl q
   · rintro (q | q)
     · exact .inr q
     · exact .inl q
 | x :: t, i + 1, h => by
   simp only [List.eraseIdx_cons_succ, List.getD_cons_succ]; rw [mem_cons, mem_cons, mem_erase (i := i) (by simpa using h), or_assoc]
theorem ins_law {r : Rq} (hr : r.ok) : ∀ {l : List Rq}, Sep l -> (∀ x ∈ l, ¬ TchR x r) -> Sep (insR r l) /\ (∀ x, x ∈ insR r l ↔ x = r \/ x ∈ l)
 | [], _, _ => ⟨⟨hr, by simp, trivial⟩, by simp [insR]⟩
 | x :: t, h, hn => by
   have kx := Rq.ok_le h.1; have kr := Rq.ok_le hr; have hx := hn x List.mem_cons_self
   have hd : x.hi + 1 < r.lo \/ r.hi + 1 < x.lo := by
     by_cases q : x.hi + 1 < r.lo
     · exact .inl q
     · by_cases q2 : r.hi + 1 < x.lo
       · exact .inr q2
       · exact absurd ⟨h.1, hr, by omega, by omega⟩ hx
   unfold insR
   by_cases hl : ltR r x
   · rw [if_pos hl]
     unfold ltR at hl; refine ⟨⟨hr, fun y hy => ?_, h⟩, by simp⟩; rcases List.mem_cons.1 hy with hy | hy
     · subst hy; omega
     · have := h.2.1 y hy; omega
   · rw [if_neg hl]
     unfold ltR at hl; obtain ⟨a1, a2⟩ := ins_law hr h.2.2 (fun y hy => hn y (List.mem_cons_of_mem _ hy)); refine ⟨⟨h.1, fun y hy => ?_, a1⟩, fun y => ?_⟩
     · rcases (a2 y).1 hy with q | q
       · subst q; omega
       · exact h.2.1 y q
     · rw [List.mem_cons, a2, List.mem_cons]
       constructor
       · rintro (q | q | q)
         · exact .inr (.inl q)
         · exact .inl q
         · exact .inr (.inr q)
       · rintro (q | q | q)
         · exact .inr (.inl q)
         · exact .inl q
         · exact .inr (.inr q)
theorem put_law : ∀ (n : Nat) (l : List Rq) (r : Rq), l.length = n -> Sep l -> r.ok -> Sep (putF n l r) /\ ∀ k, Mem k (putF n l r) ↔ Mem k l \/ (r.lo <= k /\ k <= r.hi)
 | 0, l, r, hn, h, hr => by
   have : l = [] := List.eq_nil_of_length_eq_zero hn; subst this; exact ⟨⟨hr, by simp, trivial⟩, fun k => by show Mem k [r] ↔ _; rw [mem_cons]; exact or_comm⟩
 | n + 1, l, r, hn, h, hr => by
   unfold putF; split
   · rename_i h1
     have a := ins_law hr h (lastT_none h1); refine ⟨a.1, fun k => ?_⟩; constructor
     · rintro ⟨x, hx, q⟩
       rcases (a.2 x).1 hx with e | e
       · subst e; exact .inr q
       · exact .inl ⟨x, e, q⟩
     · rintro (⟨x, hx, q⟩ | q)
       · exact ⟨x, (a.2 x).2 (.inr hx), q⟩
       · exact ⟨r, (a.2 r).2 (.inl rfl), q⟩
   · rename_i i h1
     obtain ⟨hi, ht⟩ := lastT_some h1; have hlen : (l.eraseIdx i).length = n := (by rw [List.length_eraseIdx_of_lt hi]; omega); obtain ⟨a1, a2⟩ := put_law n (l.eraseIdx i) (jnR (l.getD i ⟨0, 0, 0, 0⟩) r) hlen (Sep.erase i h) (jnR_ok ht.1 hr); refine ⟨a1, fun k => ?_⟩; rw [a2, mem_erase hi, jnR_lo ht.1 hr, jnR_hi ht.1 hr]; have t3 := ht.2.2; have k1 := Rq.ok_le ht.1; have k2 := Rq.ok_le hr; generalize l.getD i ⟨0, 0, 0, 0⟩ = x at *; constructor
     · rintro (q | q)
       · exact .inl (.inl q)
       · by_cases q2 : x.lo <= k /\ k <= x.hi
         · exact .inl (.inr q2)
         · right; omega
     · rintro ((q | q) | q)
       · exact .inl q
       · right; omega
       · right; omega
theorem putL_law {l : List Rq} {r : Rq} (h : Sep l) (hr : r.ok) : Sep (putL l r) /\ ∀ k, Mem k (putL l r) ↔ Mem k l \/ (r.lo <= k /\ k <= r.hi) := put_law _ l r rfl h hr
theorem putAll_law : ∀ {b a : List Rq}, Sep a -> (∀ x ∈ b, x.ok) -> Sep (b.foldl putL a) /\ ∀ k, Mem k (b.foldl putL a) ↔ Mem k a \/ Mem k b
 | [], a, h, _ => ⟨h, fun k => ⟨.inl, fun q => q.elim id (fun q => absurd q mem_nil)⟩⟩
 | x :: t, a, h, hb => by
   have a1 := putL_law h (hb x List.mem_cons_self); have a2 := putAll_law a1.1 (fun y hy => hb y (List.mem_cons_of_mem _ hy)); refine ⟨a2.1, fun k => ?_⟩
   show Mem k (t.foldl putL (putL a x)) ↔ _
   rw [a2.2, a1.2, mem_cons, or_assoc]
def rep (k : Int) : Int := if k < -9223372036854775808 then -9223372036854775808 else if 9223372036854775807 < k then 9223372036854775807 else k
theorem rep_i64 (k : Int) : -9223372036854775808 <= rep k /\ rep k <= 9223372036854775807 /\ (rep k = k \/ k < -9223372036854775808 /\ rep k = -9223372036854775808 \/ 9223372036854775807 < k /\ rep k = 9223372036854775807) := by
 unfold rep; repeat' split
 all_goals omega
def lessR (r s : Rq) : List Rq :=
 if MeetR r s then (if s.a = 0 /\ -9223372036854775808 < s.b /\ r.lo <= s.b - 1 then [⟨r.a, r.b, 0, s.b - 1⟩] else []) ++ (if s.c = 0 /\ s.d < 9223372036854775807 /\ s.d + 1 <= r.hi then [⟨0, s.d + 1, r.c, r.d⟩] else []) else [r]
theorem Rq.ok_lo' {x : Rq} (h : x.ok) : (x.a = 0 /\ x.lo = x.b /\ I64 x.b) \/ (x.a = -1 /\ x.b = 0 /\ x.lo = -36893488147419103232) := by
 obtain ⟨h1, h2, h3, h4, h5, h6, h7⟩ := h
 unfold eOk at h3; unfold Rq.lo key
 rcases h3 with h3 | h3
 · left; exact ⟨h3, by omega, h1⟩
 · right; omega
theorem Rq.ok_hi' {x : Rq} (h : x.ok) : (x.c = 0 /\ x.hi = x.d /\ I64 x.d) \/ (x.c = 1 /\ x.d = 0 /\ x.hi = 36893488147419103232) := by
 obtain ⟨h1, h2, h3, h4, h5, h6, h7⟩ := h
 unfold eOk at h4; unfold Rq.hi key
 rcases h4 with h4 | h4
 · left; exact ⟨h4, by omega, h2⟩
 · right; omega
theorem pt_cases {k : Int} (h : Pt k) : I64 k \/ k = -36893488147419103232 \/ k = 36893488147419103232 := by
 unfold Pt key at h; unfold I64 at *; omega
theorem ok_left {r : Rq} (hr : r.ok) {h : Int} (h1 : I64 h) (h2 : r.lo <= h) : (⟨r.a, r.b, 0, h⟩ : Rq).ok /\ (⟨r.a, r.b, 0, h⟩ : Rq).lo = r.lo /\ (⟨r.a, r.b, 0, h⟩ : Rq).hi = h := by
 obtain ⟨a1, a2, a3, a4, a5, a6, a7⟩ := hr
 have e : (⟨r.a, r.b, 0, h⟩ : Rq).hi = h := by show 36893488147419103232 * (0 : Int) + h = h; omega
 refine ⟨⟨a1, h1, a3, .inl rfl, a5, Int.le_refl 0, ?_⟩, rfl, e⟩
 show r.lo <= (⟨r.a, r.b, 0, h⟩ : Rq).hi
 omega
theorem ok_right {r : Rq} (hr : r.ok) {h : Int} (h1 : I64 h) (h2 : h <= r.hi) : (⟨0, h, r.c, r.d⟩ : Rq).ok /\ (⟨0, h, r.c, r.d⟩ : Rq).lo = h /\ (⟨0, h, r.c, r.d⟩ : Rq).hi = r.hi := by
 obtain ⟨a1, a2, a3, a4, a5, a6, a7⟩ := hr
 have e : (⟨0, h, r.c, r.d⟩ : Rq).lo = h := by show 36893488147419103232 * (0 : Int) + h = h; omega
 refine ⟨⟨h1, a2, .inl rfl, a4, Int.le_refl 0, a6, ?_⟩, e, rfl⟩
 show (⟨0, h, r.c, r.d⟩ : Rq).lo <= r.hi
 omega
theorem Sep.append : ∀ {u v : List Rq}, Sep u -> Sep v -> (∀ x ∈ u, ∀ y ∈ v, x.hi + 1 < y.lo) -> Sep (u ++ v)
 | [], _, _, hv, _ => hv
 | x :: t, v, hu, hv, h => ⟨hu.1, fun y hy => by
   rcases List.mem_append.1 hy with hy | hy
   · exact hu.2.1 y hy
   · exact h x List.mem_cons_self y hy, Sep.append hu.2.2 hv (fun z hz => h z (List.mem_cons_of_mem _ hz))⟩
theorem less_law {r s : Rq} (hr : r.ok) (hs : s.ok) : Sep (lessR r s) /\ (∀ z ∈ lessR r s, r.lo <= z.lo /\ z.hi <= r.hi) /\ ∀ k, Pt k -> (Mem k (lessR r s) ↔ (r.lo <= k /\ k <= r.hi) /\ ¬ (s.lo <= rep k /\ rep k <= s.hi)) := by
 have kr := Rq.ok_le hr
 have ks := Rq.ok_le hs
 have sl := Rq.ok_lo' hs
 have sh := Rq.ok_hi' hs
 have rl := Rq.ok_lo' hr
 have rh := Rq.ok_hi' hr
 have gl := Rq.ok_lo hr
 have gh := Rq.ok_hi hr
 have fl := Rq.ok_lo hs
 have fh := Rq.ok_hi hs
 unfold I64 at sl sh rl rh
 unfold lessR
 by_cases hm : MeetR r s
 · rw [if_pos hm]
   have hm3 := hm.2.2
   by_cases c1 : s.a = 0 /\ -9223372036854775808 < s.b /\ r.lo <= s.b - 1
   · obtain ⟨o1, o2, o3⟩ := ok_left hr (h := s.b - 1) (by unfold I64; omega) (by omega)
     rw [if_pos c1]
     by_cases c2 : s.c = 0 /\ s.d < 9223372036854775807 /\ s.d + 1 <= r.hi
     · obtain ⟨p1, p2, p3⟩ := ok_right hr (h := s.d + 1) (by unfold I64; omega) (by omega)
       rw [if_pos c2]; generalize (⟨r.a, r.b, 0, s.b - 1⟩ : Rq) = u at *; generalize (⟨0, s.d + 1, r.c, r.d⟩ : Rq) = v at *; refine ⟨⟨o1, fun y hy => ?_, p1, by simp, trivial⟩, fun z hz => ?_, fun k hk => ?_⟩
       · rw [List.mem_singleton.1 hy]; omega
       · have : z = u \/ z = v := by simpa using hz
         rcases this with q | q <;> subst q <;> omega
       · show Mem k (u :: [v]) ↔ _
         rw [mem_cons, mem_cons]; have := rep_i64 k; have := pt_cases hk; unfold I64 at this; constructor
         · rintro (q | q | q)
           · omega
           · omega
           · exact absurd q mem_nil
         · rintro ⟨q1, q2⟩
           by_cases q3 : k <= s.b - 1
           · left; omega
           · right; left; omega
     · rw [if_neg c2]
       generalize (⟨r.a, r.b, 0, s.b - 1⟩ : Rq) = u at *; refine ⟨⟨o1, by simp, trivial⟩, fun z hz => ?_, fun k hk => ?_⟩
       · have : z = u := by simpa using hz
         subst this; omega
       · show Mem k (u :: []) ↔ _
         rw [mem_cons]; have := rep_i64 k; have := pt_cases hk; unfold I64 at this; constructor
         · rintro (q | q)
           · omega
           · exact absurd q mem_nil
         · rintro ⟨q1, q2⟩
           left; omega
   · rw [if_neg c1]
     by_cases c2 : s.c = 0 /\ s.d < 9223372036854775807 /\ s.d + 1 <= r.hi
     · obtain ⟨p1, p2, p3⟩ := ok_right hr (h := s.d + 1) (by unfold I64; omega) (by omega)
       rw [if_pos c2]; generalize (⟨0, s.d + 1, r.c, r.d⟩ : Rq) = v at *; refine ⟨⟨p1, by simp, trivial⟩, fun z hz => ?_, fun k hk => ?_⟩
       · have : z = v := by simpa using hz
         subst this; omega
       · show Mem k (v :: []) ↔ _
         rw [mem_cons]; have := rep_i64 k; have := pt_cases hk; unfold I64 at this; constructor
         · rintro (q | q)
           · omega
           · exact absurd q mem_nil
         · rintro ⟨q1, q2⟩
           left; omega
     · rw [if_neg c2]
       show Sep ([] : List Rq) /\ (∀ z ∈ ([] : List Rq), _) /\ ∀ k, Pt k -> (Mem k [] ↔ _)
       refine ⟨trivial, fun z hz => (nomatch hz), fun k hk => ?_⟩; have := rep_i64 k; have := pt_cases hk; unfold I64 at this; constructor
       · intro q; exact absurd q mem_nil
       · rintro ⟨q1, q2⟩; omega
 · rw [if_neg hm]
   have hm2 : s.lo <= r.hi -> r.lo <= s.hi -> False := fun q1 q2 => hm ⟨hr, hs, q1, q2⟩
   refine ⟨⟨hr, by simp, trivial⟩, fun z hz => ?_, fun k hk => ?_⟩
   · rw [List.mem_singleton.1 hz]; omega
   · rw [mem_cons]
     have := rep_i64 k; have := pt_cases hk; unfold I64 at this; constructor
     · rintro (q | q)
       · refine ⟨q, fun q2 => ?_⟩
         by_cases q3 : s.lo <= r.hi
         · by_cases q4 : r.lo <= s.hi
           · exact hm2 q3 q4
           · omega
         · omega
       · exact absurd q mem_nil
     · rintro ⟨q1, q2⟩; exact .inl q1
theorem flat_law {s : Rq} (hs : s.ok) : ∀ {l : List Rq}, Sep l -> Sep (l.flatMap (lessR · s)) /\ (∀ z ∈ l.flatMap (lessR · s), ∃ x ∈ l, x.lo <= z.lo /\ z.hi <= x.hi) /\ ∀ k, Pt k -> (Mem k (l.flatMap (lessR · s)) ↔ Mem k l /\ ¬ (s.lo <= rep k /\ rep k <= s.hi))
 | [], _ => ⟨trivial, fun z hz => (nomatch hz), fun k _ => ⟨fun h => absurd h mem_nil, fun h => absurd h.1 mem_nil⟩⟩
 | x :: t, h => by
   obtain ⟨a1, a2, a3⟩ := less_law h.1 hs; obtain ⟨b1, b2, b3⟩ := flat_law hs h.2.2; rw [List.flatMap_cons]; refine ⟨Sep.append a1 b1 (fun y hy z hz => ?_), fun z hz => ?_, fun k hk => ?_⟩
   · obtain ⟨w, hw, q1, q2⟩ := b2 z hz
     have := h.2.1 w hw; have := (a2 y hy).2; omega
   · rcases List.mem_append.1 hz with q | q
     · exact ⟨x, List.mem_cons_self, a2 z q⟩
     · obtain ⟨w, hw, q1⟩ := b2 z q
       exact ⟨w, List.mem_cons_of_mem _ hw, q1⟩
   · rw [mem_append, a3 k hk, b3 k hk, mem_cons, <- or_and_right]
def woL (a b : List Rq) : List Rq := b.foldl (fun l s => l.flatMap (lessR · s)) a
theorem wo_law : ∀ {b a : List Rq}, Sep a -> (∀ x ∈ b, x.ok) -> Sep (woL a b) /\ ∀ k, Pt k -> (Mem k (woL a b) ↔ Mem k a /\ ¬ Mem (rep k) b)
 | [], a, h, _ => ⟨h, fun k _ => ⟨fun q => ⟨q, mem_nil⟩, fun q => q.1⟩⟩
 | x :: t, a, h, hb => by
   have a1 := flat_law (hb x List.mem_cons_self) h; have a2 := wo_law a1.1 (fun y hy => hb y (List.mem_cons_of_mem _ hy)); refine ⟨a2.1, fun k hk => ?_⟩
   show Mem k (woL (a.flatMap (lessR · x)) t) ↔ _
   rw [a2.2 k hk, a1.2.2 k hk, mem_cons, not_or, and_assoc]
def cplF (fa fb : Int) : List Rq -> List Rq
 | [] => [⟨fa, fb, 1, 0⟩]
 | r :: t => (if r.a = 0 /\ -9223372036854775808 < r.b /\ key fa fb <= r.b - 1 then [⟨fa, fb, 0, r.b - 1⟩] else []) ++ (if r.c = 0 /\ r.d < 9223372036854775807 then cplF 0 (r.d + 1) t else [])
def cplL (l : List Rq) : List Rq := cplF (-1) 0 l
theorem cplF_law : ∀ (l : List Rq) (fa fb : Int), (fa = -1 /\ fb = 0 \/ fa = 0 /\ I64 fb) -> Sep l -> (∀ y ∈ l, key fa fb <= y.lo) -> Sep (cplF fa fb l) /\ (∀ z ∈ cplF fa fb l, key fa fb <= z.lo) /\ ∀ k, Pt k -> (Mem k (cplF fa fb l) ↔ key fa fb <= k /\ ¬ Mem (rep k) l)
 | [], fa, fb, hf, _, _ => by
   have hok : (⟨fa, fb, 1, 0⟩ : Rq).ok := by
     unfold Rq.ok RnOk eOk key I64 at *; dsimp only; omega
   have e : (⟨fa, fb, 1, 0⟩ : Rq).hi = 36893488147419103232 := by show 36893488147419103232 * (1 : Int) + 0 = _; omega
   have el : (⟨fa, fb, 1, 0⟩ : Rq).lo = key fa fb := rfl; refine ⟨⟨hok, by simp, trivial⟩, fun z hz => ?_, fun k hk => ?_⟩
   · have : z = ⟨fa, fb, 1, 0⟩ := List.mem_singleton.1 hz
     subst this; exact Int.le_refl _
   · show Mem k [⟨fa, fb, 1, 0⟩] ↔ _
     rw [mem_cons, e, el]; have := pt_cases hk; unfold I64 at this; constructor
     · rintro (q | q)
       · exact ⟨q.1, mem_nil⟩
       · exact absurd q mem_nil
     · rintro ⟨q1, _⟩; left; omega
 | r :: t, fa, fb, hf, h, hb => by
   have b1 := hb r List.mem_cons_self; have kr := Rq.ok_le h.1; have rl := Rq.ok_lo' h.1; have rh := Rq.ok_hi' h.1; have gl := Rq.ok_lo h.1; have gh := Rq.ok_hi h.1
   have hfk : key fa fb = -36893488147419103232 \/ I64 (key fa fb) := by unfold key I64 at *; omega
   unfold I64 at rl rh
   have tail : ∀ j, Mem j t -> r.hi + 1 < j := fun j hj => Sep.hi_lt h hj
   obtain ⟨U, hU⟩ : ∃ U, U = (if r.a = 0 /\ -9223372036854775808 < r.b /\ key fa fb <= r.b - 1 then [(⟨fa, fb, 0, r.b - 1⟩ : Rq)] else []) := ⟨_, rfl⟩
   have pU : Sep U /\ (∀ z ∈ U, key fa fb <= z.lo /\ z.hi + 1 <= r.lo) /\ ∀ k, Pt k -> (Mem k U ↔ key fa fb <= k /\ rep k < r.lo) := by
     by_cases c1 : r.a = 0 /\ -9223372036854775808 < r.b /\ key fa fb <= r.b - 1
     · rw [if_pos c1] at hU; subst hU
       have el : (⟨fa, fb, 0, r.b - 1⟩ : Rq).lo = key fa fb := rfl; have eh : (⟨fa, fb, 0, r.b - 1⟩ : Rq).hi = r.b - 1 := (by show 36893488147419103232 * (0 : Int) + (r.b - 1) = _; omega)
       have hok : (⟨fa, fb, 0, r.b - 1⟩ : Rq).ok := by
         refine ⟨by show I64 fb; unfold I64 at *; omega, by show I64 (r.b - 1); unfold I64; omega, by show eOk fa fb; unfold eOk; omega, .inl rfl, by show fa <= 0; omega, Int.le_refl 0, ?_⟩
         show (⟨fa, fb, 0, r.b - 1⟩ : Rq).lo <= (⟨fa, fb, 0, r.b - 1⟩ : Rq).hi
         omega
       refine ⟨⟨hok, by simp, trivial⟩, fun z hz => ?_, fun k hk => ?_⟩
       · rw [List.mem_singleton.1 hz]; omega
       · rw [mem_cons, el, eh]
         have := rep_i64 k; have := pt_cases hk; unfold I64 at this hfk; constructor
         · rintro (q | q)
           · omega
           · exact absurd q mem_nil
         · rintro ⟨q1, q2⟩; left; omega
     · rw [if_neg c1] at hU; subst hU
       refine ⟨trivial, fun z hz => (nomatch hz), fun k hk => ⟨fun q => absurd q mem_nil, fun q => ?_⟩⟩; have := rep_i64 k; have := pt_cases hk; unfold I64 at this hfk; exfalso; omega
   unfold cplF; rw [<- hU]
   by_cases c2 : r.c = 0 /\ r.d < 9223372036854775807
   · rw [if_pos c2]
     have ek : key 0 (r.d + 1) = r.d + 1 := (by unfold key; omega); obtain ⟨a1, a2, a3⟩ := cplF_law t 0 (r.d + 1) (.inr ⟨rfl, by unfold I64; omega⟩) h.2.2 (fun y hy => by have := h.2.1 y hy; omega); rw [ek] at a2 a3; refine ⟨Sep.append pU.1 a1 (fun x hx y hy => ?_), fun z hz => ?_, fun k hk => ?_⟩
     · have := (pU.2.1 x hx).2; have := a2 y hy; omega
     · rcases List.mem_append.1 hz with q | q
       · exact (pU.2.1 z q).1
       · have := a2 z q; omega
     · rw [mem_append, pU.2.2 k hk, a3 k hk, mem_cons]
       have e1 := rep_i64 k; have e2 := pt_cases hk; have e3 := tail (rep k); unfold I64 at e2 hfk; constructor
       · rintro (q | q)
         · refine ⟨q.1, ?_⟩
           rintro (q2 | q2)
           · omega
           · have := e3 q2; omega
         · refine ⟨by omega, ?_⟩
           rintro (q2 | q2)
           · omega
           · exact q.2 q2
       · rintro ⟨q1, q2⟩
         by_cases q3 : rep k < r.lo
         · exact .inl ⟨q1, q3⟩
         · by_cases q4 : rep k <= r.hi
           · exact absurd (.inl ⟨by omega, q4⟩) q2
           · exact .inr ⟨by omega, fun q5 => q2 (.inr q5)⟩
   · rw [if_neg c2, List.append_nil]
     refine ⟨pU.1, fun z hz => (pU.2.1 z hz).1, fun k hk => ?_⟩; rw [pU.2.2 k hk, mem_cons]; have e1 := rep_i64 k; have e2 := pt_cases hk; have e3 := tail (rep k); unfold I64 at e2 hfk; constructor
     · rintro q
       refine ⟨q.1, ?_⟩; rintro (q2 | q2)
       · omega
       · have := e3 q2; omega
     · rintro ⟨q1, q2⟩
       by_cases q3 : rep k < r.lo
       · exact ⟨q1, q3⟩
       · exact absurd (.inl ⟨by omega, by omega⟩) q2
theorem of_eq {c l : List Rq} (hc : Asc c) (hp : ∀ x, x ∈ c ↔ x ∈ l) : joinedL c = l.foldl putL [] := by
 have a := joined_law hc
 have b := putAll_law (b := l) (a := []) trivial (fun x hx => asc_all hc x ((hp x).2 hx))
 refine sep_ext a.1 b.1 (fun k _ => ?_)
 rw [a.2, b.2]
 constructor
 · rintro ⟨x, hx, q⟩; exact .inr ⟨x, (hp x).1 hx, q⟩
 · rintro (q | ⟨x, hx, q⟩)
   · exact absurd q mem_nil
   · exact ⟨x, (hp x).2 hx, q⟩
theorem union_eq {a b c : List Rq} (ha : Sep a) (hb : Sep b) (hc : Asc c) (hp : ∀ x, x ∈ c ↔ x ∈ a \/ x ∈ b) : joinedL c = b.foldl putL a := by
 have u := joined_law hc
 have v := putAll_law (b := b) (a := a) ha (Sep.all hb)
 refine sep_ext u.1 v.1 (fun k _ => ?_)
 rw [u.2, v.2]
 constructor
 · rintro ⟨x, hx, q⟩
   rcases (hp x).1 hx with e | e
   · exact .inl ⟨x, e, q⟩
   · exact .inr ⟨x, e, q⟩
 · rintro (⟨x, hx, q⟩ | ⟨x, hx, q⟩)
   · exact ⟨x, (hp x).2 (.inl hx), q⟩
   · exact ⟨x, (hp x).2 (.inr hx), q⟩
def cmRow (x : Rq) (out b : List Rq) : List Rq := b.foldl (fun o y => if MeetR x y then putL o (inR x y) else o) out
def cmL (a b : List Rq) : List Rq := a.foldl (fun o x => cmRow x o b) []
theorem cmRow_law {x : Rq} (hx : x.ok) : ∀ {b out : List Rq}, Sep out -> (∀ y ∈ b, y.ok) -> Sep (cmRow x out b) /\ ∀ k, Mem k (cmRow x out b) ↔ Mem k out \/ (x.lo <= k /\ k <= x.hi) /\ Mem k b
 | [], out, h, _ => ⟨h, fun k => ⟨.inl, fun q => q.elim id (fun q => absurd q.2 mem_nil)⟩⟩
 | y :: t, out, h, hb => by
   have hy := hb y List.mem_cons_self
   have hb' : ∀ z ∈ t, z.ok := fun z hz => hb z (List.mem_cons_of_mem _ hz)
   have e : cmRow x out (y :: t) = cmRow x (if MeetR x y then putL out (inR x y) else out) t := rfl; rw [e]
   by_cases hm : MeetR x y
   · rw [if_pos hm]
     have a1 := putL_law h (inR_ok hm); have a2 := cmRow_law hx a1.1 hb'; refine ⟨a2.1, fun k => ?_⟩; rw [a2.2, a1.2, mem_cons, inR_lo hx hy, inR_hi hx hy, and_or_left, or_assoc]; have : (max x.lo y.lo <= k /\ k <= min x.hi y.hi) ↔ ((x.lo <= k /\ k <= x.hi) /\ y.lo <= k /\ k <= y.hi) := (by omega); rw [this]
   · rw [if_neg hm]
     have a2 := cmRow_law hx h hb'; refine ⟨a2.1, fun k => ?_⟩; rw [a2.2, mem_cons, and_or_left]
     have : ¬ ((x.lo <= k /\ k <= x.hi) /\ y.lo <= k /\ k <= y.hi) := fun q => hm ⟨hx, hy, by omega, by omega⟩
     simp only [this, false_or]
theorem cmL_law' {b : List Rq} (hb : ∀ y ∈ b, y.ok) : ∀ {a out : List Rq}, Sep out -> (∀ x ∈ a, x.ok) -> Sep (a.foldl (fun o x => cmRow x o b) out) /\ ∀ k, Mem k (a.foldl (fun o x => cmRow x o b) out) ↔ Mem k out \/ Mem k a /\ Mem k b
 | [], out, h, _ => ⟨h, fun k => ⟨.inl, fun q => q.elim id (fun q => absurd q.1 mem_nil)⟩⟩
 | x :: t, out, h, ha => by
   have a1 := cmRow_law (ha x List.mem_cons_self) h hb; have a2 := cmL_law' hb a1.1 (fun z hz => ha z (List.mem_cons_of_mem _ hz)); refine ⟨a2.1, fun k => ?_⟩
   show Mem k (t.foldl (fun o x => cmRow x o b) (cmRow x out b)) ↔ _
   rw [a2.2, a1.2, mem_cons, or_and_right, or_assoc]
theorem cmL_law {a b : List Rq} (ha : ∀ x ∈ a, x.ok) (hb : ∀ y ∈ b, y.ok) : Sep (cmL a b) /\ ∀ k, Mem k (cmL a b) ↔ Mem k a /\ Mem k b := by
 have h := cmL_law' hb (a := a) (out := []) trivial ha
 exact ⟨h.1, fun k => (h.2 k).trans ⟨fun q => q.elim (fun q => absurd q mem_nil) id, .inr⟩⟩
theorem common_eq {a b : List Rq} (ha : Sep a) (hb : Sep b) : joinedL (cmn a b) = cmL a b := by
 have c := cmn_law a b ha hb
 have u := joined_law c.1
 have v := cmL_law (Sep.all ha) (Sep.all hb)
 exact sep_ext u.1 v.1 (fun k _ => by rw [u.2, c.2, v.2])
theorem cpl_law {l : List Rq} (h : Sep l) : Sep (cplL l) /\ ∀ k, Pt k -> (Mem k (cplL l) ↔ ¬ Mem (rep k) l) := by
 have a := cplF_law l (-1) 0 (.inl ⟨rfl, rfl⟩) h (fun y hy => by
   have := Rq.ok_lo' (Sep.all h y hy)
   unfold I64 at this; unfold key; omega)
 refine ⟨a.1, fun k hk => ?_⟩
 show Mem k (cplF (-1) 0 l) ↔ _
 rw [a.2.2 k hk]
 have := pt_cases hk
 unfold I64 at this; unfold key
 constructor
 · exact fun q => q.2
 · exact fun q => ⟨by omega, q⟩
theorem without_eq {a b : List Rq} (ha : Sep a) (hb : Sep b) : joinedL (cmn a (cplL b)) = woL a b := by
 have p := cpl_law hb
 have c := cmn_law a (cplL b) ha p.1
 have u := joined_law c.1
 have v := wo_law ha (Sep.all hb)
 exact sep_ext u.1 v.1 (fun k hk => by rw [u.2, c.2, v.2 k hk, p.2 k hk])
theorem complement_eq {l : List Rq} (h : Sep l) : cplL l = woL [⟨-1, 0, 1, 0⟩] l := by
 have p := cpl_law h
 have s : Sep [⟨-1, 0, 1, 0⟩] := ⟨by decide, by simp, trivial⟩
 have v := wo_law s (Sep.all h)
 refine sep_ext p.1 v.1 (fun k hk => ?_)
 rw [p.2 k hk, v.2 k hk, mem_cons]
 have e1 : (⟨-1, 0, 1, 0⟩ : Rq).lo = -36893488147419103232 := by decide
 have e2 : (⟨-1, 0, 1, 0⟩ : Rq).hi = 36893488147419103232 := by decide
 rw [e1, e2]
 have := pt_cases hk
 unfold I64 at this
 constructor
 · exact fun q => ⟨.inl (by omega), q⟩
 · exact fun q => q.2
def dropB (k : Int) : List Rq -> List Rq
 | [] => []
 | y :: t => if y.hi < k then dropB k t else y :: t
def wtn : List Rq -> List Rq -> Bool
 | [], _ => true
 | x :: s, b => match dropB x.lo b with
   | [] => false
   | y :: t => if y.lo <= x.lo /\ x.hi <= y.hi then wtn s (y :: t) else false
def WtP (a b : List Rq) : Prop := ∀ x ∈ a, ∃ y ∈ b, y.lo <= x.lo /\ x.hi <= y.hi
theorem dropB_law {k : Int} : ∀ {b : List Rq}, Sep b -> Sep (dropB k b) /\ (∀ y ∈ dropB k b, y ∈ b) /\ (∀ y ∈ b, y ∈ dropB k b \/ y.hi < k)
 | [], _ => ⟨trivial, fun _ h => h, fun _ h => (nomatch h)⟩
 | y :: t, h => by
   unfold dropB
   by_cases q : y.hi < k
   · rw [if_pos q]
     obtain ⟨a1, a2, a3⟩ := dropB_law (k := k) h.2.2; refine ⟨a1, fun z hz => List.mem_cons_of_mem _ (a2 z hz), fun z hz => ?_⟩; rcases List.mem_cons.1 hz with e | e
     · subst e; exact .inr q
     · exact a3 z e
   · rw [if_neg q]; exact ⟨h, fun _ h => h, fun _ h => .inl h⟩
theorem dropB_head {k : Int} {y : Rq} {t : List Rq} : ∀ {b : List Rq}, dropB k b = y :: t -> k <= y.hi
 | [], h => (nomatch h)
 | z :: s, h => by
   unfold dropB at h
   by_cases q : z.hi < k
   · rw [if_pos q] at h; exact dropB_head h
   · rw [if_neg q] at h; cases h; omega
theorem wtn_law : ∀ {a b : List Rq}, Sep a -> Sep b -> (wtn a b = true ↔ WtP a b)
 | [], b, _, _ => ⟨fun _ x hx => (nomatch hx), fun _ => by unfold wtn; rfl⟩
 | x :: s, b, ha, hb => by
   have kx := Rq.ok_le ha.1; obtain ⟨d1, d2, d3⟩ := dropB_law (k := x.lo) hb; unfold wtn; split
   · rename_i h0
     rw [h0] at d3; refine ⟨fun h => (nomatch h), fun h => ?_⟩; obtain ⟨y, hy, q1, q2⟩ := h x List.mem_cons_self; rcases d3 y hy with e | e
     · cases e
     · omega
   · rename_i y t h0
     have hh := dropB_head h0; rw [h0] at d1 d2 d3
     have hx : (y.lo <= x.lo /\ x.hi <= y.hi) ↔ ∃ z ∈ b, z.lo <= x.lo /\ x.hi <= z.hi := by
       constructor
       · exact fun q => ⟨y, d2 y List.mem_cons_self, q⟩
       · rintro ⟨z, hz, q1, q2⟩
         rcases d3 z hz with e | e
         · rcases List.mem_cons.1 e with e | e
           · subst e; exact ⟨q1, q2⟩
           · have := d1.2.1 z e; omega
         · omega
     by_cases q : y.lo <= x.lo /\ x.hi <= y.hi
     · rw [if_pos q, wtn_law ha.2.2 d1]
       constructor
       · intro h z hz
         rcases List.mem_cons.1 hz with e | e
         · subst e; exact hx.1 q
         · obtain ⟨w, hw, q1⟩ := h z e
           exact ⟨w, d2 w hw, q1⟩
       · intro h z hz
         obtain ⟨w, hw, q1⟩ := h z (List.mem_cons_of_mem _ hz); rcases d3 w hw with e | e
         · exact ⟨w, e, q1⟩
         · have := ha.2.1 z hz
           have := Rq.ok_le (Sep.all ha.2.2 z hz); omega
     · rw [if_neg q]
       exact ⟨fun h => (nomatch h), fun h => absurd (hx.2 (h x List.mem_cons_self)) q⟩
theorem wt_mem {a b : List Rq} (ha : Sep a) (hb : Sep b) : WtP a b ↔ ∀ k, Pt k -> Mem k a -> Mem k b := by
 constructor
 · rintro h k _ ⟨x, hx, q1, q2⟩
   obtain ⟨y, hy, r1, r2⟩ := h x hx; exact ⟨y, hy, by omega, by omega⟩
 · intro h x hx
   have ox := Sep.all ha x hx; have kx := Rq.ok_le ox; obtain ⟨y, hy, q1, q2⟩ := h x.lo (Rq.ok_lo ox).1 ⟨x, hx, by omega, kx⟩; have oy := Sep.all hb y hy; refine ⟨y, hy, q1, ?_⟩
   by_cases q : x.hi <= y.hi
   · exact q
   exfalso; have hx' := Rq.ok_hi ox; have hy' := Rq.ok_hi oy; have gx := Rq.ok_hi' ox; have gy := Rq.ok_hi' oy; unfold I64 at gx gy
   have noway : ∀ k, Pt k -> y.hi < k -> k <= x.hi -> k <= y.hi + 1 \/ 9223372036854775807 <= y.hi -> False := by
     intro k hk l1 l2 l3; obtain ⟨z, hz, m1, m2⟩ := h k hk ⟨x, hx, by omega, l2⟩; have oz := Sep.all hb z hz; have lz := (Rq.ok_lo oz).2; have kz := Rq.ok_le oz; have ky := Rq.ok_le oy
     have two : z = y \/ z.hi + 1 < y.lo \/ y.hi + 1 < z.lo := by
       clear h; clear ha
       induction b with
       | nil => cases hz
       | cons w t ih =>
         rcases List.mem_cons.1 hz with e | e
         · rcases List.mem_cons.1 hy with f | f
           · left; rw [e, f]
           · subst e; exact .inr (.inl (hb.2.1 y f))
         · rcases List.mem_cons.1 hy with f | f
           · subst f; exact .inr (.inr (hb.2.1 z e))
           · exact ih hb.2.2 f e
     rcases two with e | e | e
     · subst e; omega
     · omega
     · omega
   by_cases q3 : y.hi < 9223372036854775807
   · exact noway (y.hi + 1) (.inl (by unfold I64; omega)) (by omega) (by omega) (.inl (by omega))
   · exact noway x.hi hx'.1 (by omega) (by omega) (.inr (by omega))
theorem wt_union {a b : List Rq} (ha : Sep a) (hb : Sep b) : WtP a b ↔ b.foldl putL a = b := by
 have v := putAll_law (b := b) (a := a) ha (Sep.all hb)
 rw [wt_mem ha hb]
 constructor
 · intro h
   refine sep_ext v.1 hb (fun k hk => ?_); rw [v.2]; exact ⟨fun q => q.elim (h k hk) id, .inr⟩
 · intro h k _ hm
   have := (v.2 k).2 (.inl hm); rw [h] at this; exact this
theorem rq_err {x : Rq} (h1 : I64 x.b) (h2 : I64 x.d) : rnErr x.a x.b x.c x.d = 0 ↔ x.ok := by
 rw [rnErr_ok h1 h2]; exact ⟨fun h => ⟨h1, h2, h⟩, fun h => h.2.2⟩
theorem chkFrom_sep : ∀ {l : List Rq} {q : Rq}, (∀ x ∈ l, I64 x.b /\ I64 x.d) -> chkFrom (some q) l = 0 -> Sep l /\ ∀ y ∈ l, q.hi + 1 < y.lo
 | [], _, _, _ => ⟨trivial, fun _ h => (nomatch h)⟩
 | x :: t, q, hv, h => by
   have hx := hv x List.mem_cons_self; unfold chkFrom at h
   by_cases h1 : rnErr x.a x.b x.c x.d ≠ 0
   · rw [if_pos h1] at h; exact absurd h h1
   · rw [if_neg h1] at h
     have ox := (rq_err hx.1 hx.2).1 (by omega); have kx := Rq.ok_le ox
     by_cases h2 : q.hi + 1 < x.lo
     · simp only [h2, if_true] at h
       obtain ⟨a1, a2⟩ := chkFrom_sep (fun y hy => hv y (List.mem_cons_of_mem _ hy)) h; refine ⟨⟨ox, a2, a1⟩, fun y hy => ?_⟩; rcases List.mem_cons.1 hy with e | e
       · subst e; exact h2
       · have := a2 y e; omega
     · simp only [h2, if_false] at h; exact absurd h (by decide)
theorem chk_sep {l : List Rq} (hv : ∀ x ∈ l, I64 x.b /\ I64 x.d) (h : chkFrom none l = 0) : Sep l := by
 cases l with
 | nil => trivial
 | cons x t =>
   have hx := hv x List.mem_cons_self; unfold chkFrom at h
   by_cases h1 : rnErr x.a x.b x.c x.d ≠ 0
   · rw [if_pos h1] at h; exact absurd h h1
   · rw [if_neg h1] at h
     have a := chkFrom_sep (fun y hy => hv y (List.mem_cons_of_mem _ hy)) h; exact ⟨(rq_err hx.1 hx.2).1 (by omega), a.2, a.1⟩
theorem sep_chkFrom : ∀ {l : List Rq} {q : Rq}, Sep l -> (∀ y ∈ l, q.hi + 1 < y.lo) -> chkFrom (some q) l = 0
 | [], _, _, _ => rfl
 | x :: t, q, h, hq => by
   have e := (rq_err h.1.1 h.1.2.1).2 h.1; have h2 := hq x List.mem_cons_self; unfold chkFrom; rw [if_neg (by omega)]; simp only [h2, if_true]; exact sep_chkFrom h.2.2 h.2.1
theorem sep_chk {l : List Rq} (h : Sep l) : chkFrom none l = 0 := by
 cases l with
 | nil => rfl
 | cons x t =>
   have e := (rq_err h.1.1 h.1.2.1).2 h.1; unfold chkFrom; rw [if_neg (by omega)]; exact sep_chkFrom h.2.2 h.2.1
theorem order_prog {p x : Rq} (hp : p.ok) (hx : x.ok) : (ltR x p \/ TchR p x) ↔ ¬ p.hi + 1 < x.lo := by
 have kp := Rq.ok_le hp
 have kx := Rq.ok_le hx
 unfold ltR TchR
 constructor
 · rintro (q | q)
   · omega
   · have := q.2.2; omega
 · intro q
   by_cases q2 : p.lo <= x.hi + 1
   · exact .inr ⟨hp, hx, by omega, q2⟩
   · left; omega
theorem order_ref {p x : Rq} (hp : p.ok) (hx : x.ok) : (x.lo <= p.hi \/ TchR p x) ↔ ¬ p.hi + 1 < x.lo := by
 have kp := Rq.ok_le hp
 have kx := Rq.ok_le hx
 unfold TchR
 constructor
 · rintro (q | q)
   · omega
   · have := q.2.2; omega
 · intro q
   by_cases q2 : x.lo <= p.hi
   · exact .inl q2
   · exact .inr ⟨hp, hx, by omega, by omega⟩
def sumL : List Rq -> Int
 | [] => 0
 | x :: t => (x.d - x.b + 1) + sumL t
def cntP : Int -> List Rq -> Int × Int
 | acc, [] => (acc, 0)
 | acc, x :: t => if I64 (x.d - x.b + 1) then (if I64 (acc + (x.d - x.b + 1)) then cntP (acc + (x.d - x.b + 1)) t else (0, 15)) else (0, 15)
theorem sumL_ge : ∀ {l : List Rq}, (∀ x ∈ l, x.b <= x.d) -> 0 <= sumL l
 | [], _ => Int.le_refl 0
 | x :: t, h => by
   have := h x List.mem_cons_self; have := sumL_ge (fun y hy => h y (List.mem_cons_of_mem _ hy)); unfold sumL; omega
theorem cnt_law : ∀ {l : List Rq} {acc : Int}, (∀ x ∈ l, x.b <= x.d) -> 0 <= acc -> I64 acc -> cntP acc l = if I64 (acc + sumL l) then (acc + sumL l, 0) else (0, 15)
 | [], acc, _, _, h => by unfold cntP sumL; rw [Int.add_zero, if_pos h]
 | x :: t, acc, h, h0, hi => by
   have hx := h x List.mem_cons_self; have ht := sumL_ge (fun y hy => h y (List.mem_cons_of_mem _ hy)); unfold cntP
   have e : acc + sumL (x :: t) = acc + (x.d - x.b + 1) + sumL t := by show acc + ((x.d - x.b + 1) + sumL t) = _; omega
   rw [e]
   by_cases c1 : I64 (x.d - x.b + 1)
   · rw [if_pos c1]
     by_cases c2 : I64 (acc + (x.d - x.b + 1))
     · rw [if_pos c2]
       exact cnt_law (fun y hy => h y (List.mem_cons_of_mem _ hy)) (by omega) c2
     · rw [if_neg c2, if_neg]
       unfold I64 at *; omega
   · rw [if_neg c1, if_neg]
     unfold I64 at *; omega
def HasL (l : List Rq) (k : Int) : Prop := ∃ x ∈ l, x.ok /\ x.lo <= k /\ k <= x.hi
theorem hasL_mem {l : List Rq} (h : ∀ x ∈ l, x.ok) {k : Int} : HasL l k ↔ Mem k l :=
 ⟨fun ⟨x, hx, _, q⟩ => ⟨x, hx, q⟩, fun ⟨x, hx, q⟩ => ⟨x, hx, h x hx, q⟩⟩
theorem union_day {a b : List Rq} (ha : Sep a) (hb : Sep b) {k : Int} : Mem k (b.foldl putL a) ↔ Mem k a \/ Mem k b := (putAll_law ha (Sep.all hb)).2 k
theorem common_day {a b : List Rq} (ha : Sep a) (hb : Sep b) {k : Int} : Mem k (cmL a b) ↔ Mem k a /\ Mem k b := (cmL_law (Sep.all ha) (Sep.all hb)).2 k
theorem without_day {a b : List Rq} (ha : Sep a) (hb : Sep b) {k : Int} (hk : I64 k) : Mem k (woL a b) ↔ Mem k a /\ ¬ Mem k b := by
 have e : rep k = k := by unfold I64 at hk; have := rep_i64 k; omega
 rw [(wo_law ha (Sep.all hb)).2 k (.inl hk), e]
theorem cpl_day {l : List Rq} (h : Sep l) {k : Int} (hk : I64 k) : Mem k (cplL l) ↔ ¬ Mem k l := by
 have e : rep k = k := by unfold I64 at hk; have := rep_i64 k; omega
 rw [(cpl_law h).2 k (.inl hk), e]
theorem union_comm {a b : List Rq} (ha : Sep a) (hb : Sep b) : b.foldl putL a = a.foldl putL b := by
 have u := putAll_law (b := b) (a := a) ha (Sep.all hb)
 have v := putAll_law (b := a) (a := b) hb (Sep.all ha)
 exact sep_ext u.1 v.1 (fun k _ => by rw [u.2, v.2]; exact or_comm)
theorem common_comm {a b : List Rq} (ha : Sep a) (hb : Sep b) : cmL a b = cmL b a := by
 have u := cmL_law (Sep.all ha) (Sep.all hb)
 have v := cmL_law (Sep.all hb) (Sep.all ha)
 exact sep_ext u.1 v.1 (fun k _ => by rw [u.2, v.2]; exact and_comm)
def cl (k : Int) : Int := if k < -60 then -60 else if 260 < k then 260 else k
def cmpR (x y : Rq) : Int := if eC x.a x.b y.a y.b ≠ 0 then eC x.a x.b y.a y.b else eC x.c x.d y.c y.d
theorem cmpR_lt {x y : Rq} : cmpR x y < 0 ↔ x.a < y.a \/ x.a = y.a /\ (x.b < y.b \/ x.b = y.b /\ (x.c < y.c \/ x.c = y.c /\ x.d < y.d)) := by
 unfold cmpR eC c3
 repeat' split
 all_goals omega
theorem cmpR_irrefl (x : Rq) : decide (cmpR x x < 0) = false := by
 rw [decide_eq_false_iff_not, cmpR_lt]; omega
theorem cmpR_trans (x y z : Rq) (h : decide (cmpR x y < 0) = true) (k : decide (cmpR y z < 0) = true) : decide (cmpR x z < 0) = true := by
 rw [decide_eq_true_eq, cmpR_lt] at *; omega
theorem cmpR_ntrans (x y z : Rq) (h : decide (cmpR x y < 0) = false) (k : decide (cmpR y z < 0) = false) : decide (cmpR x z < 0) = false := by
 rw [decide_eq_false_iff_not, cmpR_lt] at *; omega
theorem cmpR_total (x y : Rq) (h : decide (cmpR x y < 0) = false) (k : decide (cmpR y x < 0) = false) : x = y := by
 rw [decide_eq_false_iff_not, cmpR_lt] at *
 cases x; cases y; simp only [Rq.mk.injEq] at *; omega
def srt (l : List Rq) : List Rq := l.mergeSort fun x y => !decide (cmpR y x < 0)
theorem srt_perm (l : List Rq) : (srt l).Perm l := List.mergeSort_perm _ _
theorem srt_mem (l : List Rq) (x : Rq) : x ∈ srt l ↔ x ∈ l := (srt_perm l).mem_iff
theorem srt_len (l : List Rq) : (srt l).length = l.length := (srt_perm l).length_eq
theorem srt_pair (l : List Rq) : (srt l).Pairwise fun x y => ¬ cmpR y x < 0 := by
 have h := List.pairwise_mergeSort (le := fun x y : Rq => !decide (cmpR y x < 0)) (fun a b c h1 h2 => by
  simp only [Bool.not_eq_true'] at *
  exact cmpR_ntrans c b a h2 h1) (fun a b => by
  by_cases h : cmpR a b < 0
  · simp only [Bool.or_eq_true, Bool.not_eq_true', decide_eq_false_iff_not, cmpR_lt] at *; omega
  · simp [h]) l
 exact h.imp (fun h => by simpa using h)
theorem asc_of_pair : ∀ {l : List Rq}, (∀ x ∈ l, x.ok) -> l.Pairwise (fun x y => ¬ cmpR y x < 0) -> Asc l
 | [], _, _ => trivial
 | x :: t, hk, h => by
   have hx := hk x List.mem_cons_self; rw [List.pairwise_cons] at h; refine ⟨hx, fun y hy => ?_, asc_of_pair (fun z hz => hk z (List.mem_cons_of_mem _ hz)) h.2⟩; have h1 := h.1 y hy; have hy' := hk y (List.mem_cons_of_mem _ hy); rw [cmpR_lt] at h1; obtain ⟨b1, _, _⟩ := hx; obtain ⟨b2, _, _⟩ := hy'; unfold Rq.lo key; unfold I64 at b1 b2; omega
theorem srt_asc {l : List Rq} (h : ∀ x ∈ l, x.ok) : Asc (srt l) := asc_of_pair (fun x hx => h x ((srt_mem l x).1 hx)) (srt_pair l)
set_option maxHeartbeats 4000000
set_option maxRecDepth 100000
set_option linter.unusedVariables false
set_option linter.unusedSimpArgs false
theorem kuR_8 {W w1 w2 : World} {a0 a1 a2 a3 a4 a5 a6 a7 : Addr} {v0 v1 v2 v3 v4 v5 v6 v7 : Value} (k : Up w1 w2) (h : Up W w1 /\ w1.cell? a0 = some v0 /\ w1.cell? a1 = some v1 /\ w1.cell? a2 = some v2 /\ w1.cell? a3 = some v3 /\ w1.cell? a4 = some v4 /\ w1.cell? a5 = some v5 /\ w1.cell? a6 = some v6 /\ w1.cell? a7 = some v7) :
  Up W w2 /\ w2.cell? a0 = some v0 /\ w2.cell? a1 = some v1 /\ w2.cell? a2 = some v2 /\ w2.cell? a3 = some v3 /\ w2.cell? a4 = some v4 /\ w2.cell? a5 = some v5 /\ w2.cell? a6 = some v6 /\ w2.cell? a7 = some v7 := by
 obtain ⟨h1, c0, c1, c2, c3, c4, c5, c6, c7⟩ := h
 exact ⟨h1.trans k, k.cell c0, k.cell c1, k.cell c2, k.cell c3, k.cell c4, k.cell c5, k.cell c6, k.cell c7⟩
theorem rnCmpU (a b c d e f g h : Int) (w : World) :
  Calls Tryz.prog 43 #[.agg #[.int .i8 a, .int .i64 b, .int .i8 c, .int .i64 d], .agg #[.int .i8 e, .int .i64 f, .int .i8 g, .int .i64 h]] w fun r w' => r = .returned (.int .i64 (or2 (eC a b e f) (eC c d g h))) /\ Up w w' := by
 go_enter Tryz.func43, Tryz.ntmps43
 go_wp2_with fail
 obtain ⟨W1, hW1⟩ : ∃ W1, W1 = (w.alloc (.cells #[.int .i8 a, .int .i64 b, .int .i8 c, .int .i64 d] 45)).alloc (.cells #[.int .i8 e, .int .i64 f, .int .i8 g, .int .i64 h] 45) := ⟨_, rfl⟩
 have uW1 : Up w W1 := by rw [hW1]; exact ((Up.refl _).alloc _).alloc _
 have c2 : W1.cell? ⟨w.heap.size, 0, none⟩ = some (.int .i8 a) := by rw [hW1]; simp [go_sem]
 have c3 : W1.cell? ⟨w.heap.size, 1, none⟩ = some (.int .i64 b) := by rw [hW1]; simp [go_sem]
 have c4 : W1.cell? ⟨w.heap.size, 2, none⟩ = some (.int .i8 c) := by rw [hW1]; simp [go_sem]
 have c5 : W1.cell? ⟨w.heap.size, 3, none⟩ = some (.int .i64 d) := by rw [hW1]; simp [go_sem]
 have l6 : w.heap.size < W1.heap.size := by rw [hW1]; simp <;> omega
 have c7 : W1.cell? ⟨w.heap.size + 1, 0, none⟩ = some (.int .i8 e) := by rw [hW1]; simp [go_sem]
 have c8 : W1.cell? ⟨w.heap.size + 1, 1, none⟩ = some (.int .i64 f) := by rw [hW1]; simp [go_sem]
 have c9 : W1.cell? ⟨w.heap.size + 1, 2, none⟩ = some (.int .i8 g) := by rw [hW1]; simp [go_sem]
 have a0 : W1.cell? ⟨w.heap.size + 1, 3, none⟩ = some (.int .i64 h) := by rw [hW1]; simp [go_sem]
 have a1 : w.heap.size + 1 < W1.heap.size := by rw [hW1]; simp <;> omega
 rw [<- hW1]
 clear hW1
 have hS12 := kuR_8 (W := W1) (Up.refl _) ⟨Up.refl _, c2, c3, c4, c5, c7, c8, c9, a0⟩
 have HShS12 := Lib.hid hS12
 clear c2 c3 c4 c5 c7 c8 c9 a0
 go_region_held3 (fun w' => Up W1 w' /\ w'.cell? ⟨w.heap.size, 0, none⟩ = some (.int .i8 a) /\ w'.cell? ⟨w.heap.size, 1, none⟩ = some (.int .i64 b) /\ w'.cell? ⟨w.heap.size, 2, none⟩ = some (.int .i8 c) /\ w'.cell? ⟨w.heap.size, 3, none⟩ = some (.int .i64 d) /\ w'.cell? ⟨w.heap.size + 1, 0, none⟩ = some (.int .i8 e) /\ w'.cell? ⟨w.heap.size + 1, 1, none⟩ = some (.int .i64 f) /\ w'.cell? ⟨w.heap.size + 1, 2, none⟩ = some (.int .i8 g) /\ w'.cell? ⟨w.heap.size + 1, 3, none⟩ = some (.int .i64 h))
  (first | exact kuR_8 ((Up.refl _).drew) hS12 | exact kuR_8 ‹Up _ _› ‹_› | exact kuR_8 ‹Up _ _› ‹_› | assumption | exact kuR_8 ((Up.refl _).alloc _) ‹_›)
  (first | (go_at_call 66; refine (eCmp _ _ _ _ _).mono ?_; rintro e wa ⟨rfl, qa⟩) | (go_at_call 87; refine (cmpOr _ (eC a b e f) (eC c d g h) _ ?_ ?_).mono ?_; (simp [go_sem]); (simp [go_sem]); rintro e wa ⟨rfl, rfl⟩))
 all_goals
  clear hS12; obtain ⟨uf21, a2, a3, a4, a5, a6, a7, a8, a9⟩ := (‹Up W1 _ /\ _› : _ /\ _); obtain ⟨w22, rfl⟩ : ∃ w22 : World, w22 = wa := ⟨_, rfl⟩; have aA := nlt l6 uf21.size; clear l6; have aB := nlt a1 uf21.size; clear a1; have vuf21 := uW1.trans uf21; clear uf21 uW1 HShS12; go_wp2_with fail; go_ret; exact ⟨rfl, vuf21⟩
end Go.Proofs.YtoghoddjkdoohaaGreatDoor
