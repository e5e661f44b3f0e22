/- Walks and laws that the claim's theorem leans on: part 20. -/
import Derived.Test.YtoghoddjkdoohaaGreatDoorZKn1
import Derived.Test.YtoghoddjkdoohaaGreatDoorZKn7
import Derived.Test.YtoghoddjkdoohaaGreatDoorZKn8
import Derived.Test.YtoghoddjkdoohaaGreatDoorZKn16
import Derived.Test.YtoghoddjkdoohaaGreatDoorShJoin
import Derived.Laws.MakeOwn
import Derived.Lib.ItoaLen
namespace Go.Proofs.YtoghoddjkdoohaaGreatDoor
open Go.RowKit
def spl : List UInt8 -> List (List UInt8)
 | [] => [[]]
 | c :: t => if c = 44 then [] :: spl t else match spl t with
   | [] => [[c]]
   | f :: r => (c :: f) :: r
theorem spl_ne : ∀ l, spl l ≠ []
 | [] => by simp [spl]
 | c :: t => by
   unfold spl; split
   · simp
   · split <;> simp
theorem spl_part : ∀ (x : List UInt8), (∀ c ∈ x, c ≠ 44) -> spl x = [x]
 | [], _ => rfl
 | c :: t, h => by
   have h1 := h c List.mem_cons_self; unfold spl; rw [if_neg h1, spl_part t (fun d hd => h d (List.mem_cons_of_mem _ hd))]
theorem spl_comma : ∀ (x y : List UInt8), (∀ c ∈ x, c ≠ 44) -> spl (x ++ 44 :: y) = x :: spl y
 | [], y, _ => by simp [spl]
 | c :: t, y, h => by
   have h1 := h c List.mem_cons_self; rw [List.cons_append, spl, if_neg h1, spl_comma t y (fun d hd => h d (List.mem_cons_of_mem _ hd))]
def joinC : List (List UInt8) -> List UInt8
 | [] => []
 | [x] => x
 | x :: y :: t => x ++ 44 :: joinC (y :: t)
theorem spl_join : ∀ (L : List (List UInt8)), L ≠ [] -> (∀ x ∈ L, ∀ c ∈ x, c ≠ 44) -> spl (joinC L) = L
 | [], h, _ => absurd rfl h
 | [x], _, h => spl_part x (h x List.mem_cons_self)
 | x :: y :: t, _, h => by
   unfold joinC; rw [spl_comma _ _ (h x List.mem_cons_self), spl_join (y :: t) (by simp) (fun z hz => h z (List.mem_cons_of_mem _ hz))]
theorem joinC_snoc : ∀ (L : List (List UInt8)) (x : List UInt8), L ≠ [] -> joinC (L ++ [x]) = joinC L ++ 44 :: x
 | [], _, h => absurd rfl h
 | [y], x, _ => rfl
 | y :: z :: t, x, _ => by
   have := joinC_snoc (z :: t) x (by simp); simp only [List.cons_append, joinC] at *; rw [this]; simp
theorem joinC_len : ∀ (L : List (List UInt8)) (n : Nat), (∀ x ∈ L, x.length <= n) -> (joinC L).length <= L.length * (n + 1)
 | [], n, _ => by simp [joinC]
 | [x], n, h => by have := h x List.mem_cons_self; simp [joinC]; omega
 | x :: y :: t, n, h => by
   have h1 := h x List.mem_cons_self; have h2 := joinC_len (y :: t) n (fun z hz => h z (List.mem_cons_of_mem _ hz)); unfold joinC; simp only [List.length_append, List.length_cons] at *
   have : (t.length + 1 + 1) * (n + 1) = (t.length + 1) * (n + 1) + (n + 1) := by rw [Nat.add_mul (t.length + 1) 1]; omega
   omega
theorem spl_len : ∀ l : List UInt8, (spl l).length <= l.length + 1
 | [] => by simp [spl]
 | c :: t => by
   have := spl_len t; unfold spl; split
   · simp; omega
   · split
     · simp
     · next f r h => rw [h] at this; simp at this ⊢; omega
theorem spl_sub : ∀ l : List UInt8, ∀ f ∈ spl l, f.length <= l.length
 | [], f, h => by simp [spl] at h; subst h; simp
 | c :: t, f, h => by
   have ih := spl_sub t; unfold spl at h; split at h
   · rcases List.mem_cons.1 h with rfl | h
     · simp
     · have := ih f h; simp; omega
   · split at h
     · simp at h; subst h; simp
     · next g r hg =>
       rcases List.mem_cons.1 h with rfl | h
       · have := ih g (by rw [hg]; exact List.mem_cons_self); simp; omega
       · have := ih f (by rw [hg]; exact List.mem_cons_of_mem _ h); simp; omega
set_option maxHeartbeats 4000000
set_option maxRecDepth 100000
set_option linter.unusedVariables false
set_option linter.unusedSimpArgs false
theorem rnBT (a b c d : Int) (s t : ByteArray) (HA : Hid (∀ W, EnvR W -> Calls Tryz.prog 119 #[.agg #[.int .i8 a, .int .i64 b]] W fun o w' => o = .returned (.tuple #[.string s, .int .i64 0]) /\ Dn W w')) (HB : Hid (∀ W, EnvR W -> Calls Tryz.prog 119 #[.agg #[.int .i8 c, .int .i64 d]] W fun o w' => o = .returned (.tuple #[.string t, .int .i64 0]) /\ Dn W w')) (w : World) (hE : EnvR w) :
  Calls Tryz.prog 118 #[.agg #[.int .i8 a, .int .i64 b], .agg #[.int .i8 c, .int .i64 d], .func (.func 119) #[] #[]] w fun ro w' => ro = .returned (.tuple #[.agg #[.string s, .string t], .int .i64 0]) /\ Dn w w' := by
 go_enter Tryz.func118, Tryz.ntmps118
 go_wp2_with fail
 obtain ⟨W1, hW1⟩ : ∃ W1, W1 = ((w.alloc (.cells #[.int .i8 a, .int .i64 b] 41)).alloc (.cells #[.int .i8 c, .int .i64 d] 41)).alloc (.cells #[.string ⟨#[]⟩, .string ⟨#[]⟩] 144) := ⟨_, rfl⟩
 have uW1 : Dn w W1 := by rw [hW1]; exact (((Dn.refl _).alloc _).alloc _).alloc _
 have n2 : w.heap.size ≠ w.heap.size + 1 + 1 := by omega
 have n3 : w.heap.size + 1 ≠ w.heap.size + 1 + 1 := by omega
 have c4 : W1.cell? ⟨w.heap.size, 0, none⟩ = some (.int .i8 a) := by rw [hW1]; simp [go_sem]
 have c5 : W1.cell? ⟨w.heap.size, 1, none⟩ = some (.int .i64 b) := by rw [hW1]; simp [go_sem]
 have l6 : w.heap.size < W1.heap.size := by rw [hW1]; simp <;> omega
 have c7 : W1.cell? ⟨w.heap.size + 1, 0, none⟩ = some (.int .i8 c) := by rw [hW1]; simp [go_sem]
 have c8 : W1.cell? ⟨w.heap.size + 1, 1, none⟩ = some (.int .i64 d) := by rw [hW1]; simp [go_sem]
 have l9 : w.heap.size + 1 < W1.heap.size := by rw [hW1]; simp <;> omega
 have a2 : W1.cell? ⟨w.heap.size + 1 + 1, 0, none⟩ = some (.string ⟨#[]⟩) := by rw [hW1]; simp [go_sem]
 have a3 : W1.cell? ⟨w.heap.size + 1 + 1, 1, none⟩ = some (.string ⟨#[]⟩) := by rw [hW1]; simp [go_sem]
 have a0 : w.heap.size + 1 + 1 < W1.heap.size := by rw [hW1]; simp <;> omega
 have f13 : W1.frozen? ⟨w.heap.size + 1 + 1, 0, none⟩ = false := by rw [hW1]; simp [go_sem]
 have f14 : W1.frozen? ⟨w.heap.size + 1 + 1, 1, none⟩ = false := by rw [hW1]; simp [go_sem]
 rw [<- hW1]
 clear hW1
 refine (HA.out _ (hE.dn uW1)).mono ?_
 rintro e w1 ⟨rfl, qw1⟩
 obtain ⟨a4, a7⟩ := nl2 qw1.size l6 l9
 obtain ⟨a5, a6, a8, a9⟩ := mv4 qw1.cell c4 c5 c7 c8
 have f21 := fz qw1 f13 a0
 have f22 := fz qw1 f14 a0
 have a1 := nlt a0 qw1.size
 have aA := qw1.cell a2
 have aB := qw1.cell a3
 clear l6 c4 c5 l9 c7 c8 f13 f14 a0 a2 a3
 have uw1 := uW1.trans qw1
 clear qw1 uW1
 go_wp2_with fail
 refine (HB.out _ (hE.dn uw1)).mono ?_
 rintro e w2 ⟨rfl, qw2⟩
 obtain ⟨aI, aJ⟩ := nl2 qw2.size a4 a7
 obtain ⟨aC, aD, aE, aF⟩ := mv4 qw2.cell a5 a6 a8 a9
 have f32 := fz qw2 f21 a1
 have f33 := fz qw2 f22 a1
 have aK := nlt a1 qw2.size
 have aG := qw2.cell aA
 have aH := qw2.cell aB
 clear a4 a5 a6 a7 a8 a9 f21 f22 a1 aA aB
 have uw2 := uw1.trans qw2
 clear qw2 uw1
 go_wp2_with fail
 exact bodyPost_ret (v := .tuple #[.agg #[.string s, .string t], .int .i64 0]) (by simp [results, Tryz.results118, go_sem, aC, aD, aE, aF, aG, aH, f32, f33] <;> omega) rfl ⟨rfl, ((uw2.sC).sC)⟩
theorem preKn68x1 (w : World) (a b c d : Int) : ∃ W1, W1 = w.alloc (.cells #[.int .i8 a, .int .i64 b, .int .i8 c, .int .i64 d] 45) /\ (Dn w W1) /\ (W1.cell? ⟨w.heap.size, 0, none⟩ = some (.int .i8 a)) /\ (W1.cell? ⟨w.heap.size, 1, none⟩ = some (.int .i64 b)) /\ (W1.cell? ⟨w.heap.size, 2, none⟩ = some (.int .i8 c)) /\ (W1.cell? ⟨w.heap.size, 3, none⟩ = some (.int .i64 d)) /\ (w.heap.size < W1.heap.size) := by
 obtain ⟨W1, hW1⟩ : ∃ W1, W1 = w.alloc (.cells #[.int .i8 a, .int .i64 b, .int .i8 c, .int .i64 d] 45) := ⟨_, rfl⟩
 refine ⟨W1, hW1, (by rw [hW1]; exact (Dn.refl _).alloc _), ?_, ?_, ?_, ?_, ?_⟩ <;> rw [hW1] <;> first | (simp [go_sem]; done) | (simp <;> omega)
theorem rnTx_ok (a b c d : Int) (s t : ByteArray) (hs : s.size <= 1000) (ht : t.size <= 1000) (HC : Hid (ChkIs a b c d 0)) (HB : Hid (∀ W, EnvR W -> Calls Tryz.prog 118 #[.agg #[.int .i8 a, .int .i64 b], .agg #[.int .i8 c, .int .i64 d], .func (.func 119) #[] #[]] W fun o w' => o = .returned (.tuple #[.agg #[.string s, .string t], .int .i64 0]) /\ Dn W w')) (w : World) (hE : EnvR w) :
  Calls Tryz.prog 80 #[.agg #[.int .i8 a, .int .i64 b, .int .i8 c, .int .i64 d]] w fun ro w' => ro = .returned (.tuple #[.string (s ++ ⟨#[46, 46]⟩ ++ t), .int .i64 0]) /\ Dn w w' := by
 have z1 : ¬ (9223372036854775807 < s.size + 2) := by omega
 have z2 : ¬ (9223372036854775807 < s.size + 2 + t.size) := by omega
 go_enter Tryz.func80, Tryz.ntmps80
 go_wp2_with fail
 obtain ⟨W1, hW1, uW1, c2, c3, c4, c5, l6⟩ := preKn68x1 w a b c d
 rw [<- hW1]
 clear hW1
 refine (HC.out _).mono ?_
 rintro e w1 ⟨rfl, qw1⟩
 have l7 := nlt l6 qw1.size
 obtain ⟨c8, c9, a0, a1⟩ := mv4 qw1.cell c2 c3 c4 c5
 clear l6 c2 c3 c4 c5
 have uw1 := uW1.trans qw1
 clear qw1 uW1
 go_wp2_with fail
 refine (HB.out _ (hE.dn uw1)).mono ?_
 rintro e w2 ⟨rfl, qw2⟩
 have a2 := nlt l7 qw2.size
 obtain ⟨a3, a4, a5, a6⟩ := mv4 qw2.cell c8 c9 a0 a1
 clear l7 c8 c9 a0 a1
 have uw2 := uw1.trans qw2
 clear qw2 uw1
 go_wp2_with fail
 go_ret2
 exact ⟨rfl, uw2.alloc _⟩
theorem rfTx (a b c d : Int) (s t : ByteArray) (hs : s.size <= 1000) (ht : t.size <= 1000) (HA : Hid (∀ W, Calls Tryz.prog 123 #[.agg #[.int .i8 a, .int .i64 b]] W fun o w' => o = .returned (.string s) /\ Dn W w')) (HB : Hid (∀ W, Calls Tryz.prog 123 #[.agg #[.int .i8 c, .int .i64 d]] W fun o w' => o = .returned (.string t) /\ Dn W w')) (w : World) :
   Calls Tryz.prog 82 #[.agg #[.int .i8 a, .int .i64 b, .int .i8 c, .int .i64 d]] w fun ro w' => ro = .returned (.string (s ++ ⟨#[46, 46]⟩ ++ t)) /\ Dn w w' := by
 have z1 : ¬ (9223372036854775807 < s.size + 2) := by omega
 have z2 : ¬ (9223372036854775807 < s.size + 2 + t.size) := by omega
 go_enter Tryz.func82, Tryz.ntmps82
 go_wp2_with fail
 obtain ⟨W1, hW1, uW1, c2, c3, c4, c5, l6⟩ := preKn68x1 w a b c d
 rw [<- hW1]
 clear hW1
 have hS := kd_4 (W := w) (Dn.refl W1) ⟨uW1, c2, c3, c4, c5⟩
 refine wp_region_held_drew (S := fun w' => Dn w w' /\ w'.cell? ⟨w.heap.size, 0, none⟩ = some (.int .i8 a) /\ w'.cell? ⟨w.heap.size, 1, none⟩ = some (.int .i64 b) /\ w'.cell? ⟨w.heap.size, 2, none⟩ = some (.int .i8 c) /\ w'.cell? ⟨w.heap.size, 3, none⟩ = some (.int .i64 d)) (by kernel_rfl) ?_ (fun hHeld => ?_)
 · (try dsimp only); exact kd_4 ((Dn.refl _).drew) hS
 refine tS 0 rfl ?_
 refine tS 1 rfl ?_
 refine tS 4 rfl ?_
 refine tS 5 rfl ?_
 refine rD 2 rfl (fun K hK => ?_)
 ·
   go_simp; go_at_call 123; refine (HA.out _).mono ?_; rintro e wa1 ⟨rfl, q1⟩; have g1 := kd_4 q1 hHeld
   try go_wp2_with fail
   refine hK.out _ _ ?_ (fun hHeld => ?_)
   · (try dsimp only); exact g1
   clear hK K
   try simp only [Act.put, pL]
   refine tS 3 rfl ?_; refine rD 6 rfl (fun K hK => ?_)
   ·
     go_simp; go_at_call 123; refine (HB.out _).mono ?_; rintro e wa2 ⟨rfl, q2⟩; have g2 := kd_4 q2 g1
     try go_wp2_with fail
     refine hK.out _ _ ?_ (fun hHeld => ?_)
     · (try dsimp only); exact g2
     clear hK K
     try simp only [Act.put, pL]
     refine tS 7 rfl ?_; refine tS 8 rfl ?_; refine wpAnyH_done (by kernel_rfl) ?_ _; have hf : Dn w _ := g2.1; go_wp2_with fail; go_ret; exact ⟨rfl, hf⟩
def rStr (a b c d : Int) : ByteArray := eStr a b ++ ⟨#[46, 46]⟩ ++ eStr c d
theorem eStr_sz (i d : Int) (hd : I64 d) : (eStr i d).size <= 1000 := by
 unfold eStr
 split
 · exact size_itoa d hd
 · split <;> decide
theorem rnText (a b c d : Int) (w : World) (hb : I64 b) (hd : I64 d) (h : RnOk a b c d) (hE : EnvR w) :
  Calls Tryz.prog 80 #[.agg #[.int .i8 a, .int .i64 b, .int .i8 c, .int .i64 d]] w fun ro w' => ro = .returned (.tuple #[.string (rStr a b c d), .int .i64 0]) /\ Dn w w' := by
 have HC : Hid (ChkIs a b c d (rnErr a b c d)) := Lib.hid (rnChk a b c d)
 rw [(rnErr_ok hb hd).2 h] at HC
 have HA : Hid (∀ W, EnvR W -> Calls Tryz.prog 119 #[.agg #[.int .i8 a, .int .i64 b]] W fun o w' => o = .returned (.tuple #[.string (eStr a b), .int .i64 0]) /\ Dn W w') := Lib.hid (fun W hW => (eText_ok a b W h.1 hb hW.i).mono fun _ _ ⟨h1, h2⟩ => ⟨h1, h2.dn⟩)
 have HB : Hid (∀ W, EnvR W -> Calls Tryz.prog 119 #[.agg #[.int .i8 c, .int .i64 d]] W fun o w' => o = .returned (.tuple #[.string (eStr c d), .int .i64 0]) /\ Dn W w') := Lib.hid (fun W hW => (eText_ok c d W h.2.1 hd hW.i).mono fun _ _ ⟨h1, h2⟩ => ⟨h1, h2.dn⟩)
 exact rnTx_ok a b c d _ _ (eStr_sz a b hb) (eStr_sz c d hd) HC (Lib.hid fun W hW => rnBT a b c d _ _ HA HB W hW) w hE
theorem rfText (a b c d : Int) (w : World) (hb : I64 b) (hd : I64 d) (h : RnOk a b c d) :
  Calls Tryz.prog 82 #[.agg #[.int .i8 a, .int .i64 b, .int .i8 c, .int .i64 d]] w fun ro w' => ro = .returned (.string (rStr a b c d)) /\ Dn w w' :=
 rfTx a b c d _ _ (eStr_sz a b hb) (eStr_sz c d hd) (Lib.hid fun W => rText8 a b W h.1 hb) (Lib.hid fun W => rText8 c d W h.2.1 hd) w
set_option maxHeartbeats 4000000
set_option maxRecDepth 100000
set_option linter.unusedVariables false
set_option linter.unusedSimpArgs false
def tx (x : Rq) : List UInt8 := (rStr x.a x.b x.c x.d).data.toList
def jnT (l : List Rq) : ByteArray := ⟨(joinC (l.map tx)).toArray⟩
def noneS : ByteArray := ⟨#[110, 111, 110, 101]⟩
def txtL (L : List Rq) : ByteArray := if L = [] then noneS else jnT L
theorem joinTail_is : ∀ (x : List UInt8) (r : List (List UInt8)), [44].intercalate (x :: r) = joinC (x :: r)
 | x, [] => by simp [List.intercalate, joinC]
 | x, y :: t => by
   have ih := joinTail_is y t; unfold joinC; rw [<- ih]; simp [List.intercalate]
theorem join_is (L : List (List UInt8)) : Lib.join L [44] = joinC L := by
 cases L with
 | nil => rfl
 | cons x r => exact joinTail_is x r
theorem tx_len {x : Rq} (hb : I64 x.b) (hd : I64 x.d) : (tx x).length <= 2002 := by
 have h1 := eStr_sz x.a x.b hb
 have h2 := eStr_sz x.c x.d hd
 unfold tx rStr
 simp [ByteArray.data_append]; omega
theorem rStr_size {x : Rq} (hb : I64 x.b) (hd : I64 x.d) : (rStr x.a x.b x.c x.d).size <= 2002 := by
 have := tx_len hb hd
 rw [Lib.size_eq]; exact this
theorem jnT_len {l : List Rq} (h : I6 l) : (joinC (l.map tx)).length <= l.length * 2003 := by
 have := joinC_len (l.map tx) 2002 (fun t ht => by
  obtain ⟨x, hx, rfl⟩ := List.mem_map.1 ht
  exact tx_len (h x hx).1 (h x hx).2)
 simpa using this
theorem jnT_size {l : List Rq} (h : I6 l) : (jnT l).size <= l.length * 2003 := by
 rw [Lib.size_eq]; exact jnT_len h
theorem jnT_first {L : List Rq} {x : Rq} (h : L[0]? = some x) : jnT (L.take (0 + 1)) = (⟨#[]⟩ : ByteArray) ++ rStr x.a x.b x.c x.d := by
 cases L with
 | nil => simp at h
 | cons y t =>
   simp at h; subst h; apply ByteArray.ext; simp [jnT, joinC, tx, ByteArray.data_append]
theorem jnT_next {L : List Rq} {k : Nat} {x : Rq} (h : L[k]? = some x) (hk : 0 < k) : jnT (L.take (k + 1)) = jnT (L.take k) ++ ⟨#[44]⟩ ++ rStr x.a x.b x.c x.d := by
 obtain ⟨hl, rfl⟩ := List.getElem?_eq_some_iff.1 h
 apply ByteArray.ext
 rw [List.take_add_one, List.getElem?_eq_getElem hl]
 simp only [jnT, List.map_append, Option.toList_some, List.map_cons, List.map_nil]
 rw [joinC_snoc _ _ (by simp; constructor <;> (try omega); intro e; subst e; simp at hl)]
 simp [tx, ByteArray.data_append]
theorem i6_take {L : List Rq} (h : I6 L) (k : Nat) : I6 (L.take k) := fun x hx => h x (List.mem_of_mem_take hx)
theorem rfTextS (p : Option Addr) (cap : Nat) (L : List Rq) (w : World) (hok : ∀ x ∈ L, RnOk x.a x.b x.c x.d) (hl : L.length <= 100) (hI : I6 L) (hR : Row w p L) :
  Calls Tryz.prog 37 #[.slice p L.length cap] w fun ro w' => ro = .returned (.string (txtL L)) /\ Dn w w' := by
 have HOK := Lib.hid hok
 have HI := Lib.hid hI
 clear hok hI
 go_enter Tryz.func37, Tryz.ntmps37
 go_wp2_with fail
 go_loopw [3, 4] (fun sv iv wr => ∃ k : Nat, k <= L.length /\ iv = .int .i64 k /\ sv = .string (jnT (L.take k)) /\ Dn w wr) (fun _ iv _ => L.length - (intOf iv).toNat)
 case atStart => exact ⟨0, by omega, rfl, rfl, Dn.refl _⟩
 case round =>
  obtain ⟨k, hk, rfl, rfl, hu⟩ := hrel
  by_cases hlt : k < L.length
  · have d1 : decide ((k : Int) < L.length) = true := by simp; omega
    obtain ⟨x, hx⟩ : ∃ x, L[k]? = some x := ⟨L[k], by simp [hlt]⟩; obtain ⟨g, o, rfl, hc⟩ := hR.cs (by omega); obtain ⟨a0, a1, a2, a3⟩ := (hc.dn hu).el _ _ hx; have hxi := HI.out x (List.mem_of_getElem? hx); have HT := Lib.hid (fun W => rfText x.a x.b x.c x.d W hxi.1 hxi.2 (HOK.out x (List.mem_of_getElem? hx))); have hz1 : (jnT (L.take k)).size <= 200300 := Nat.le_trans (jnT_size (i6_take HI.out k)) (by rw [List.length_take]; omega); have hz2 := rStr_size (x := x) hxi.1 hxi.2; have HX := Lib.hid hx
    by_cases h0 : k = 0
    · have hz0 : (jnT (L.take k)) = ⟨#[]⟩ := by rw [h0]; rfl
      have hnx := Lib.hid (show jnT (L.take (k + 1)) = (⟨#[]⟩ : ByteArray) ++ rStr x.a x.b x.c x.d by rw [h0] at hx ⊢; exact jnT_first hx); rw [hz0]; have d2 : decide (0 < k) = false := (by simp; omega); have d3 : decide ((0 : Int) < (k : Int)) = false := (by simp; omega); clear hx hc hR hxi hz1 hz0 h0; generalize rStr x.a x.b x.c x.d = T at *; go_wp2_with fail; refine (HT.out _).mono ?_; rintro e w1 ⟨rfl, q1⟩; have u1 := hu.trans q1; go_wp2_with fail; go_roundw
      case rel => exact ⟨k + 1, by omega, by simp, by rw [hnx.out], u1⟩
      case measure => simp [intOf]; omega
    · have hnx := Lib.hid (jnT_next hx (by omega))
      have d2 : decide (0 < k) = true := (by simp; omega); have d3 : decide ((0 : Int) < (k : Int)) = true := (by simp; omega); clear hx hc hR hxi h0; generalize rStr x.a x.b x.c x.d = T at *; generalize jnT (L.take k) = S at *
      have hz3 : (S ++ (⟨#[44]⟩ : ByteArray)).size <= 300000 := by
       have e1 : (⟨#[44]⟩ : ByteArray).size = 1 := rfl; rw [ByteArray.size_append, e1]; omega
      go_wp2_with fail; refine (HT.out _).mono ?_; rintro e w1 ⟨rfl, q1⟩; have u1 := hu.trans q1; go_wp2_with fail; go_roundw
      case rel => exact ⟨k + 1, by omega, by simp, by rw [hnx.out], u1⟩
      case measure => simp [intOf]; omega
  · obtain rfl : k = L.length := by omega
    have d1 : decide ((L.length : Int) < L.length) = false := (by simp); rw [List.take_length]
    by_cases h0 : L = []
    · subst h0
      go_wp2_with fail; go_ret; exact ⟨rfl, hu⟩
    · have hn := Lib.hid (show txtL L = jnT L by unfold txtL; rw [if_neg h0])
      have h1 : 0 < L.length := List.length_pos_iff.2 h0; have d2 : ((L.length : Int) == 0) = false := (by simp; omega); have d4 : decide ((L.length : Int) = 0) = false := (by simp; omega); have d5 : decide (L.length = 0) = false := (by simp; omega); clear h0 h1; go_wp2_with fail; go_ret; rw [hn.out]; exact ⟨rfl, hu⟩
structure LtH (w : World) (B : Nat) : Prop where
 lt : B < w.heap.size
theorem LtH.dn {w w2 : World} {B : Nat} (h : LtH w B) (q : Dn w w2) : LtH w2 B := ⟨Nat.lt_of_lt_of_le h.lt q.size⟩
def rS (x : Rq) : ByteArray := rStr x.a x.b x.c x.d
structure TxRel (B : Nat) (L : List Rq) (k : Nat) (wr : World) (O : List ByteArray) : Prop where
 own : wr.ownsRow 0 9 1 (.slice (some ⟨B, 0, none⟩) L.length L.length) L.length (O.map Value.string)
 len : O.length = L.length
 at_ : ∀ j x, j < k -> L[j]? = some x -> O[j]? = some (rS x)
theorem TxRel.dn {B : Nat} {L : List Rq} {k : Nat} {wr w' : World} {O : List ByteArray} (h : TxRel B L k wr O) (q : Dn wr w') : TxRel B L k w' O :=
 ⟨h.own.kept (grown_dn q none) (Or.inr (by simp [Value.ownBlock])), h.len, h.at_⟩
theorem TxRel.cell {B : Nat} {L : List Rq} {k : Nat} {wr : World} {O : List ByteArray} (h : TxRel B L k wr O) {j : Nat} (hj : j < L.length) : ∃ v, wr.cell? ⟨B, j, none⟩ = some (.string v) /\ wr.frozen? ⟨B, j, none⟩ = false := by
 have hl := h.len
 refine ⟨O[j], ?_, h.own.frozenAt j⟩
 rw [h.own.cellAt j (by omega), List.getElem?_map, List.getElem?_eq_getElem (by omega)]
 rfl
theorem TxRel.set {B : Nat} {L : List Rq} {k : Nat} {wr : World} {O : List ByteArray} (h : TxRel B L k wr O) {x : Rq} (hx : L[k]? = some x) : TxRel B L (k + 1) (wr.setCell ⟨B, k, none⟩ (.string (rS x))) (O.set k (rS x)) := by
 have hl := (List.getElem?_eq_some_iff.1 hx).1
 refine ⟨?_, by rw [List.length_set]; exact h.len, fun j y hj hy => ?_⟩
 · have := (h.own.stored k (.string (rS x))).1
   rwa [<- List.map_set] at this
 · by_cases e : j = k
   · subst e
     rw [hx] at hy; cases hy; rw [List.getElem?_set_self (by rw [h.len]; exact hl)]
   · rw [List.getElem?_set_ne (fun e' => e e'.symm)]
     exact h.at_ j y (by omega) hy
theorem TxRel.all {B : Nat} {L : List Rq} {wr : World} {O : List ByteArray} (h : TxRel B L L.length wr O) : O = L.map rS := by
 apply List.ext_getElem?
 intro j
 rw [List.getElem?_map]
 by_cases hj : j < L.length
 · rw [h.at_ j L[j] hj (by simp [hj])]; simp [hj]
 · rw [List.getElem?_eq_none (by rw [h.len]; omega), List.getElem?_eq_none (by omega)]; rfl
theorem TxRel.new (w : World) (L : List Rq) (hl : L.length <= 100) : TxRel w.heap.size L 0 (w.alloc (.cells (madeCells #[.string ⟨#[]⟩] L.length) 9)) (List.replicate L.length ⟨#[]⟩) := by
 refine ⟨?_, by simp, fun j x hj => by omega⟩
 have h := World.ownsRow_lit (base := 0) (e := 9) (size := 1) w (madeCells #[.string ⟨#[]⟩] L.length) L.length (Nat.zero_le _) (by unfold maxLen; omega) (by rw [size_madeCells]; omega)
 rw [toList_madeCells_one] at h
 simpa using h
theorem infoStr : (Tryz.prog.info? 9).map (fun i => (i.zero, i.size, i.bytes)) = some (some (.string ⟨#[]⟩), 1, 16) := by kernel_rfl
theorem run_mkS (N : Nat) (hN : N <= 1000000) (w : World) : (Instr.makeSlice 69 (.int .i64 (N : Int)) (.int .i64 (N : Int))).run Tryz.prog w = .ok (.slice (some ⟨w.heap.size, 0, none⟩) N N) (w.alloc (.cells (madeCells #[.string ⟨#[]⟩] N) 9)) := by
 obtain ⟨i0, hi, hz0, hz1, hz2⟩ := info_parts infoStr
 have h := run_make (P := Tryz.prog) w 69 9 i0 (.string ⟨#[]⟩) Tryz.underlying69 hi hz0 .i64 .i64 N N (by omega) (by omega) (by rw [hz2]; omega) (by omega)
 rw [hz1] at h
 simpa [Value.cells] using h
theorem join_rS (L : List Rq) : (⟨(Lib.join ((L.map rS).map (·.data.toList)) [44]).toArray⟩ : ByteArray) = jnT L := by
 rw [join_is, List.map_map]; rfl
theorem rsTextS (p : Option Addr) (cap : Nat) (L : List Rq) (T : ByteArray) (w : World) (hT : T = if chkL L = 0 then txtL L else ⟨#[]⟩) (hE : EnvR w) (hl : L.length <= 100) (hI : I6 L) (hR : Row w p L) :
   Calls Tryz.prog 36 #[.slice p L.length cap] w fun ro w' => ro = .returned (.tuple #[.string T, .int .i64 (chkL L)]) /\ Dn w w' := by
 have HB := Lib.hid (fun W (h : Dn w W) => rsCheck p cap L W (by omega) hI (hR.dn h))
 by_cases hc : chkL L = 0
 rotate_left
 · have d0 : (chkL L != 0) = true := by simpa using hc
   obtain rfl : T = ⟨#[]⟩ := by rw [hT, if_neg hc]
   clear hT hc hR hI; generalize chkL L = c at *; go_enter Tryz.func36, Tryz.ntmps36; go_wp2_with fail; refine (HB.out _ (Dn.refl _)).mono ?_; rintro e w1 ⟨rfl, qw1⟩; have uw1 := qw1; clear qw1; go_wp2_with fail; go_ret2; exact ⟨rfl, uw1⟩
 obtain rfl : T = txtL L := by rw [hT, if_pos hc]
 have hok := Sep.all (chk_ok hI hc)
 rw [hc] at HB ⊢
 have HOK := Lib.hid hok
 have HI := Lib.hid hI
 clear hT hc hok hI
 by_cases h0 : L = []
 · subst h0
   go_enter Tryz.func36, Tryz.ntmps36; go_wp2_with fail; refine (HB.out _ (Dn.refl _)).mono ?_; rintro e w1 ⟨rfl, qw1⟩; have uw1 := qw1; clear qw1; go_wp2_with fail; go_ret2; exact ⟨rfl, uw1⟩
 have hn := Lib.hid (show txtL L = jnT L by unfold txtL; rw [if_neg h0])
 have h1 : 0 < L.length := List.length_pos_iff.2 h0
 have d2 : ((L.length : Int) == 0) = false := by simp; omega
 have d4 : decide ((L.length : Int) = 0) = false := by simp; omega
 have d5 : decide (L.length = 0) = false := by simp; omega
 have hmk := run_mkS L.length (by omega)
 rw [hn.out]
 clear h0 hn
 generalize hZC : madeCells #[.string ⟨#[]⟩] L.length = ZC at *
 have HZC := Lib.hid hZC
 clear hZC
 go_enter Tryz.func36, Tryz.ntmps36
 go_wp2_with fail
 refine (HB.out _ (Dn.refl _)).mono ?_
 rintro e w1 ⟨rfl, qw1⟩
 have uw1 := qw1
 clear qw1
 go_wp2_with fail
 obtain ⟨W1, hW1⟩ : ∃ W1, W1 = w1.alloc (.cells ZC 9) := ⟨_, rfl⟩
 have htx : TxRel w1.heap.size L 0 W1 (List.replicate L.length ⟨#[]⟩) := by rw [hW1, <- HZC.out]; exact TxRel.new _ L hl
 have u2 : Dn w W1 := by rw [hW1]; exact uw1.alloc _
 have hBB : w.heap.size <= w1.heap.size := uw1.size
 have hBL : w1.heap.size < W1.heap.size := by rw [hW1]; simp
 rw [<- hW1]
 generalize w1.heap.size = B at *
 have HTX := Lib.hid htx
 have HBB := Lib.hid hBB
 have HBL := Lib.hid hBL
 clear hW1 htx hBB hBL HZC hmk uw1
 go_loopw [22] (fun iv wr => ∃ (k : Nat) (O : List ByteArray), k <= L.length /\ iv = .int .i64 k /\ TxRel B L k wr O /\ B < wr.heap.size /\ Dn w wr) (fun iv _ => L.length - (intOf iv).toNat)
 case atStart => exact ⟨0, _, by omega, rfl, HTX.out, HBL.out, u2⟩
 case round =>
   obtain ⟨k, O, hk, rfl, htr, hBr, hu⟩ := hrel; clear HTX HBL
   by_cases hlt : k < L.length
   · have d1 : decide ((k : Int) < L.length) = true := by simp; omega
     obtain ⟨x, hx⟩ : ∃ x, L[k]? = some x := ⟨L[k], by simp [hlt]⟩; obtain ⟨g, o, rfl, hc⟩ := hR.cs (by omega); obtain ⟨a0, a1, a2, a3⟩ := (hc.dn hu).el _ _ hx; have hxi := HI.out x (List.mem_of_getElem? hx); have hxo := (HOK.out x (List.mem_of_getElem? hx)).2.2; have HT := Lib.hid (fun W (h : Dn w W) => rnText x.a x.b x.c x.d W hxi.1 hxi.2 hxo (hE.dn h)); have HX := Lib.hid hx; have hlh : LtH wr B := ⟨hBr⟩; clear hx hc hR hxi hxo hBr; go_wp2_with fail; clear a0 a1 a2 a3; obtain ⟨W1, hW1⟩ : ∃ W1, W1 = wr.alloc (.cells #[.int .i8 x.a, .int .i64 x.b, .int .i8 x.c, .int .i64 x.d] 45) := ⟨_, rfl⟩; have uW1 : Dn wr W1 := (by rw [hW1]; exact (Dn.refl _).alloc _); replace htr := htr.dn uW1; replace hlh := hlh.dn uW1; have c2 : W1.cell? ⟨wr.heap.size, 0, none⟩ = some (.int .i8 x.a) := (by rw [hW1]; simp [go_sem]); have c3 : W1.cell? ⟨wr.heap.size, 1, none⟩ = some (.int .i64 x.b) := (by rw [hW1]; simp [go_sem]); have c4 : W1.cell? ⟨wr.heap.size, 2, none⟩ = some (.int .i8 x.c) := (by rw [hW1]; simp [go_sem]); have c5 : W1.cell? ⟨wr.heap.size, 3, none⟩ = some (.int .i64 x.d) := (by rw [hW1]; simp [go_sem]); have l6 : wr.heap.size < W1.heap.size := (by rw [hW1]; simp <;> omega); rw [<- hW1]; clear hW1; have vW1 := hu.trans uW1; clear uW1 hu; refine (HT.out _ vW1).mono ?_; rintro e w1 ⟨rfl, qw1⟩; replace htr := htr.dn qw1; replace hlh := hlh.dn qw1; have l7 := nlt l6 qw1.size; obtain ⟨c8, c9, c10, c11⟩ := mv4 qw1.cell c2 c3 c4 c5; clear l6 c2 c3 c4 c5; have uw1 := vW1.trans qw1; clear qw1 vW1; obtain ⟨v0, hcell, hfz⟩ := htr.cell hlt; have hBr2 := hlh.lt; clear hlh; have HTR := Lib.hid htr; clear htr; go_wp2_with fail; go_roundw
     case rel => exact ⟨k + 1, _, by omega, by simp, HTR.out.set HX.out, by simpa using hBr2, uw1.setCell HBB.out _⟩
     case measure => simp [intOf]; omega
   · obtain rfl : k = L.length := by omega
     have d1 : decide ((L.length : Int) < L.length) = false := (by simp); obtain rfl := htr.all
     have HJ := Lib.hid (fun W (q : Dn wr W) => Tryz.strings_Join B 0 L.length (L.map rS) ⟨#[44]⟩ W (fun j x hx => by
      have hj : j < L.length := (by have := (List.getElem?_eq_some_iff.1 hx).1; simpa using this); rw [Nat.zero_add]
      exact q.cell (by rw [htr.own.cellAt j (by omega), List.getElem?_map, hx]; rfl)) (Nat.lt_of_lt_of_le hBr q.size) (by simp; omega) (by simp) (by
       have h1 := jnT_size HI.out; rw [<- join_rS, Lib.size_eq] at h1; have h2 : (⟨#[44]⟩ : ByteArray).data.toList = [44] := rfl; rw [h2]
       exact Nat.le_trans h1 (by omega)))
     simp only [List.length_map] at HJ; have hjz : (jnT L).size <= 200300 := Nat.le_trans (jnT_size HI.out) (by omega); have hlim : decide (((jnT L).size : Int) > 1048576) = false := (by simp; omega); have hlim2 : decide (1048576 < (jnT L).size) = false := (by simp; omega); have HJE := Lib.hid (join_rS L); clear htr hBr hjz hR; go_wp2_with fail; refine (HJ.out _ (Dn.refl _)).mono ?_; rintro e w5 ⟨rfl, hb5⟩; have u5' : Dn w w5 := hu.trans ⟨hb5⟩; rw [HJE.out]; clear hb5; go_wp2_with fail; go_ret2; exact ⟨rfl, u5'⟩
set_option linter.unusedVariables false
set_option linter.unusedSimpArgs false
theorem rp_ofT {s lo hi : ByteArray} {q0 q1 q2 q3 r i1 d1 r1 i2 d2 r2 : Int} (hc : Lib.cut s.data.toList [46, 46] = (lo.data.toList, hi.data.toList, true)) (h1 : EP lo i1 d1 r1) (h2 : EP hi i2 d2 r2)
   (hx : ((r1 = 5 \/ r2 = 5) /\ q0 = 0 /\ q1 = 0 /\ q2 = 0 /\ q3 = 0 /\ r = 5) \/ (r1 ≠ 5 /\ r2 ≠ 5 /\ (r1 ≠ 0 \/ r2 ≠ 0) /\ q0 = 0 /\ q1 = 0 /\ q2 = 0 /\ q3 = 0 /\ r = 15) \/
    (r1 = 0 /\ r2 = 0 /\ rnErr i1 d1 i2 d2 ≠ 0 /\ q0 = 0 /\ q1 = 0 /\ q2 = 0 /\ q3 = 0 /\ r = rnErr i1 d1 i2 d2) \/ (r1 = 0 /\ r2 = 0 /\ rnErr i1 d1 i2 d2 = 0 /\ q0 = i1 /\ q1 = d1 /\ q2 = i2 /\ q3 = d2 /\ r = 0)) : RP s q0 q1 q2 q3 r := by
 refine Or.inr ⟨by rw [hc], i1, d1, r1, i2, d2, r2, ?_, ?_, hx⟩
 · rw [hc]; exact h1
 · rw [hc]; exact h2
theorem cut_ddT (x y : List UInt8) (hx : ∀ c ∈ x, c ≠ 46) : Lib.cut (x ++ [46, 46] ++ y) [46, 46] = (x, y, true) := by
 have e : Lib.index (x ++ [46, 46] ++ y) [46, 46] = (x.length : Int) := by
  refine Lib.index_first (by simp) ?_ ?_
  · unfold Lib.occAt
    simp [List.isPrefixOf]
  · intro j hj
    unfold Lib.occAt
    have hd : (x ++ [46, 46] ++ y).drop j = x[j] :: (x ++ [46, 46] ++ y).drop (j + 1) := by
     rw [List.drop_eq_getElem_cons (by simp; omega)]; congr 1; simp [List.getElem_append_left hj]
    rw [hd]; have := hx x[j] (List.getElem_mem hj); simp [List.isPrefixOf, Ne.symm this]
 unfold Lib.cut
 rw [e, if_pos (by omega)]
 simp
theorem rd_neT (u : Nat) : ∀ c ∈ rd u, c ≠ 46 := fun c hc e => by
 have := rd_isD u c hc
 rw [e] at this
 exact absurd this.1 (by decide)
theorem itoa_neT (n : Int) : ∀ c ∈ Lib.itoa n, c ≠ 46 := by
 intro c hc
 by_cases h0 : n = 0
 · subst h0; rw [itoa_zero] at hc; simp at hc; subst hc; decide
 · rw [itoa_rd n h0] at hc
   split at hc
   · rcases List.mem_cons.1 hc with rfl | hc
     · decide
     · exact rd_neT _ c hc
   · exact rd_neT _ c hc
theorem eStr_neT (i d : Int) : ∀ c ∈ (eStr i d).data.toList, c ≠ 46 := by
 unfold eStr
 split
 · exact itoa_neT d
 · split <;> decide
theorem eStr_smallT (i d : Int) (hd : I64 d) : (eStr i d).size <= 21 := by
 unfold eStr
 split
 · have := Lib.itoa_length_le d hd.1 hd.2
   simp [ByteArray.size]; omega
 · split <;> decide
theorem rStr_sizeT (a b c d : Int) (hb : I64 b) (hd : I64 d) : (rStr a b c d).size <= 1000 := by
 have h1 := eStr_smallT a b hb
 have h2 := eStr_smallT c d hd
 unfold rStr
 have : (⟨#[46, 46]⟩ : ByteArray).size = 2 := rfl
 rw [ByteArray.size_append, ByteArray.size_append]; omega
theorem ep_str9T (i d : Int) (h : eOk i d) (hd : I64 d) : EP (eStr i d) i d 0 := by
 rcases h with rfl | ⟨rfl | rfl, rfl⟩
 · obtain ⟨h1, h2⟩ := itoa_ok d
   have hl : (eStr 0 d).data.toList = Lib.itoa d := by rw [eStr_day]
   refine Or.inr (Or.inr ⟨?_, ?_, rfl, Or.inl ⟨by rw [hl]; exact h1, Or.inl ⟨by rw [hl, h2]; exact hd, by rw [hl, h2], rfl⟩⟩⟩)
   · intro e
     rw [e] at hl; rw [<- hl] at h1; exact absurd h1 (by decide +kernel)
   · intro e
     rw [e] at hl; rw [<- hl] at h1; exact absurd h1 (by decide +kernel)
 · exact Or.inl ⟨rfl, rfl, rfl, rfl⟩
 · exact Or.inr (Or.inl ⟨rfl, rfl, rfl, rfl⟩)
theorem rp_strT (a b c d : Int) (hb : I64 b) (hd : I64 d) (h : RnOk a b c d) : RP (rStr a b c d) a b c d 0 := by
 have hc : Lib.cut (rStr a b c d).data.toList [46, 46] = ((eStr a b).data.toList, (eStr c d).data.toList, true) := by
  have : (rStr a b c d).data.toList = (eStr a b).data.toList ++ [46, 46] ++ (eStr c d).data.toList := by
   unfold rStr; simp [ByteArray.data_append]
  rw [this]; exact cut_ddT _ _ (eStr_neT a b)
 exact rp_ofT hc (ep_str9T a b h.1 hb) (ep_str9T c d h.2.1 hd) (Or.inr (Or.inr (Or.inr ⟨rfl, rfl, (rnErr_ok hb hd).2 h, rfl, rfl, rfl, rfl, rfl⟩)))
theorem ep_ex9T (s : ByteArray) : ∃ i d e, EP s i d e := by
 by_cases h1 : s = sP
 · exact ⟨1, 0, 0, Or.inl ⟨h1, rfl, rfl, rfl⟩⟩
 by_cases h2 : s = sM
 · exact ⟨-1, 0, 0, Or.inr (Or.inl ⟨h2, rfl, rfl, rfl⟩)⟩
 by_cases hp : pOk s.data.toList
 · by_cases hi : I64 (pVal s.data.toList)
   · exact ⟨0, _, 0, Or.inr (Or.inr ⟨h1, h2, rfl, Or.inl ⟨hp, Or.inl ⟨hi, rfl, rfl⟩⟩⟩)⟩
   · exact ⟨0, 0, 15, Or.inr (Or.inr ⟨h1, h2, rfl, Or.inl ⟨hp, Or.inr ⟨hi, rfl, rfl⟩⟩⟩)⟩
 · exact ⟨0, 0, 5, Or.inr (Or.inr ⟨h1, h2, rfl, Or.inr ⟨hp, rfl, rfl⟩⟩)⟩
theorem rp_exT (s : ByteArray) : ∃ q0 q1 q2 q3 r, RP s q0 q1 q2 q3 r /\ (r = 0 \/ (r ≠ 0 /\ q0 = 0 /\ q1 = 0 /\ q2 = 0 /\ q3 = 0)) := by
 by_cases hc : (Lib.cut s.data.toList [46, 46]).2.2 = true
 · obtain ⟨i1, d1, r1, h1⟩ := ep_ex9T ⟨(Lib.cut s.data.toList [46, 46]).1.toArray⟩
   obtain ⟨i2, d2, r2, h2⟩ := ep_ex9T ⟨(Lib.cut s.data.toList [46, 46]).2.1.toArray⟩; have e1 := ep_err h1; have e2 := ep_err h2
   by_cases k1 : r1 = 5 \/ r2 = 5
   · exact ⟨0, 0, 0, 0, 5, Or.inr ⟨hc, i1, d1, r1, i2, d2, r2, h1, h2, Or.inl ⟨k1, rfl, rfl, rfl, rfl, rfl⟩⟩, Or.inr ⟨by decide, rfl, rfl, rfl, rfl⟩⟩
   · by_cases k2 : r1 ≠ 0 \/ r2 ≠ 0
     · exact ⟨0, 0, 0, 0, 15, Or.inr ⟨hc, i1, d1, r1, i2, d2, r2, h1, h2, Or.inr (Or.inl ⟨by omega, by omega, k2, rfl, rfl, rfl, rfl, rfl⟩)⟩, Or.inr ⟨by decide, rfl, rfl, rfl, rfl⟩⟩
     · by_cases k3 : rnErr i1 d1 i2 d2 = 0
       · exact ⟨i1, d1, i2, d2, 0, Or.inr ⟨hc, i1, d1, r1, i2, d2, r2, h1, h2, Or.inr (Or.inr (Or.inr ⟨by omega, by omega, k3, rfl, rfl, rfl, rfl, rfl⟩))⟩, Or.inl rfl⟩
       · exact ⟨0, 0, 0, 0, _, Or.inr ⟨hc, i1, d1, r1, i2, d2, r2, h1, h2, Or.inr (Or.inr (Or.inl ⟨by omega, by omega, k3, rfl, rfl, rfl, rfl, rfl⟩))⟩, Or.inr ⟨k3, rfl, rfl, rfl, rfl⟩⟩
 · exact ⟨0, 0, 0, 0, 5, Or.inl ⟨by simpa using hc, rfl, rfl, rfl, rfl, rfl⟩, Or.inr ⟨by decide, rfl, rfl, rfl, rfl⟩⟩
theorem rp_errT {s : ByteArray} {q0 q1 q2 q3 r : Int} (h : RP s q0 q1 q2 q3 r) : I64 q1 /\ I64 q3 := by
 rcases h with ⟨_, _, rfl, _, rfl, _⟩ | ⟨_, i1, d1, r1, i2, d2, r2, h1, h2, ⟨_, _, rfl, _, rfl, _⟩ | ⟨_, _, _, _, rfl, _, rfl, _⟩ | ⟨_, _, _, _, rfl, _, rfl, _⟩ | ⟨_, _, _, _, rfl, _, rfl, _⟩⟩
 · decide
 · decide
 · decide
 · decide
 · exact ⟨ep_i64 h1, ep_i64 h2⟩
def PsP (f : List UInt8) (y : Rq × Int) : Prop := RP ⟨f.toArray⟩ y.1.a y.1.b y.1.c y.1.d y.2
structure PsL (fs : List (List UInt8)) (ys : List (Rq × Int)) : Prop where
 len : ys.length = fs.length
 at_ : ∀ (k : Nat) (f : List UInt8) (y : Rq × Int), fs[k]? = some f -> ys[k]? = some y -> PsP f y
theorem psL_nil : PsL [] [] := ⟨rfl, fun k f y h => by simp at h⟩
theorem psL_cons {f : List UInt8} {y : Rq × Int} {fs : List (List UInt8)} {ys : List (Rq × Int)} (h : PsP f y) (t : PsL fs ys) : PsL (f :: fs) (y :: ys) := by
 refine ⟨by simp [t.len], fun k g z hg hz => ?_⟩
 cases k with
 | zero => simp at hg hz; subst hg; subst hz; exact h
 | succ k => simp at hg hz; exact t.at_ k g z hg hz
theorem psL_ex : ∀ fs : List (List UInt8), ∃ ys, PsL fs ys
 | [] => ⟨[], psL_nil⟩
 | f :: fs => by
   obtain ⟨ys, h⟩ := psL_ex fs; obtain ⟨q0, q1, q2, q3, r, hr, _⟩ := rp_exT ⟨f.toArray⟩; exact ⟨(⟨q0, q1, q2, q3⟩, r) :: ys, psL_cons hr h⟩
def firstE : List (Rq × Int) -> Int
 | [] => 0
 | y :: t => if y.2 = 0 then firstE t else y.2
theorem firstE_snoc : ∀ (l : List (Rq × Int)) (y : Rq × Int), firstE (l ++ [y]) = if firstE l = 0 then y.2 else firstE l
 | [], y => by simp only [List.nil_append, firstE]; split <;> simp_all
 | x :: t, y => by
   by_cases h : x.2 = 0
   · have e1 : firstE (x :: t) = firstE t := by simp [firstE, h]
     have e2 : firstE (x :: t ++ [y]) = firstE (t ++ [y]) := (by simp [firstE, h]); rw [e1, e2]; exact firstE_snoc t y
   · have e1 : firstE (x :: t) = x.2 := by simp [firstE, h]
     have e2 : firstE (x :: t ++ [y]) = x.2 := (by simp [firstE, h]); rw [e1, e2, if_neg h]
def NoF (l : List (Rq × Int)) : Prop := ∀ y ∈ l, y.2 ≠ 5
instance (l : List (Rq × Int)) : Decidable (NoF l) := by unfold NoF; infer_instance
def prsE (ys : List (Rq × Int)) : Int := if NoF ys then (if firstE ys = 0 then chkL (ys.map (·.1)) else firstE ys) else 5
def prsR (ys : List (Rq × Int)) : List Rq := if prsE ys = 0 then ys.map (·.1) else []
theorem prsE_form {ys : List (Rq × Int)} {y : Rq × Int} (h : y ∈ ys) (h5 : y.2 = 5) : prsE ys = 5 := by
 unfold prsE; rw [if_neg (fun hn => hn y h h5)]
theorem prsR_bad {ys : List (Rq × Int)} (h : prsE ys ≠ 0) : prsR ys = [] := by unfold prsR; rw [if_neg h]
theorem prsE_first {ys : List (Rq × Int)} (h : NoF ys) (h0 : firstE ys ≠ 0) : prsE ys = firstE ys := by unfold prsE; rw [if_pos h, if_neg h0]
theorem prsE_chk {ys : List (Rq × Int)} (h : NoF ys) (h0 : firstE ys = 0) : prsE ys = chkL (ys.map (·.1)) := by unfold prsE; rw [if_pos h, if_pos h0]
theorem psL_i6 {fs : List (List UInt8)} {ys : List (Rq × Int)} (h : PsL fs ys) : I6 (ys.map (·.1)) := by
 intro x hx
 obtain ⟨y, hy, rfl⟩ := List.mem_map.1 hx
 obtain ⟨k, hk, rfl⟩ := List.getElem_of_mem hy
 have hk2 : k < fs.length := by have := h.len; omega
 exact rp_errT (h.at_ k _ _ (List.getElem?_eq_getElem hk2) (List.getElem?_eq_getElem hk))
def SP (s : ByteArray) (R : List Rq) (E : Int) : Prop := (s = noneS /\ R = [] /\ E = 0) \/ (s ≠ noneS /\ ∃ ys, PsL (spl s.data.toList) ys /\ R = prsR ys /\ E = prsE ys)
theorem sp_ex (s : ByteArray) : ∃ R E, SP s R E := by
 by_cases h : s = noneS
 · exact ⟨[], 0, Or.inl ⟨h, rfl, rfl⟩⟩
 · obtain ⟨ys, hy⟩ := psL_ex (spl s.data.toList)
   exact ⟨_, _, Or.inr ⟨h, ys, hy, rfl, rfl⟩⟩
theorem sp_bad {s : ByteArray} {R : List Rq} {E : Int} (h : SP s R E) (he : E ≠ 0) : R = [] := by
 rcases h with ⟨_, rfl, _⟩ | ⟨_, ys, _, rfl, rfl⟩
 · rfl
 · exact prsR_bad he
theorem tx_isT {x : Rq} (hb : I64 x.b) (hd : I64 x.d) : (tx x).length <= 1000 := by
 have := rStr_sizeT x.a x.b x.c x.d hb hd
 unfold tx
 rw [<- Lib.size_eq]; exact this
theorem itoa_c (n : Int) : ∀ c ∈ Lib.itoa n, c ≠ 44 := by
 have hr : ∀ u : Nat, ∀ c ∈ rd u, c ≠ 44 := fun u c hc e => by
   have := rd_isD u c hc; rw [e] at this; exact absurd this.1 (by decide)
 intro c hc
 by_cases h0 : n = 0
 · subst h0; rw [itoa_zero] at hc; simp at hc; subst hc; decide
 · rw [itoa_rd n h0] at hc
   split at hc
   · rcases List.mem_cons.1 hc with rfl | hc
     · decide
     · exact hr _ c hc
   · exact hr _ c hc
theorem eStr_c (i d : Int) : ∀ c ∈ (eStr i d).data.toList, c ≠ 44 := by
 unfold eStr
 split
 · exact itoa_c d
 · split <;> decide
theorem tx_c (x : Rq) : ∀ c ∈ tx x, c ≠ 44 := by
 intro c hc
 unfold tx rStr at hc
 simp only [ByteArray.data_append, Array.toList_append, List.mem_append] at hc
 rcases hc with (h | h) | h
 · exact eStr_c _ _ c h
 · simp at h; subst h; decide
 · exact eStr_c _ _ c h
theorem tx_parse {x : Rq} (h : x.ok) : PsP (tx x) (x, 0) := by
 have := rp_strT x.a x.b x.c x.d h.1 h.2.1 h.2.2
 unfold PsP tx
 simpa using this
theorem txs_parse : ∀ {L : List Rq}, (∀ x ∈ L, x.ok) -> PsL (L.map tx) (L.map fun x => (x, 0))
 | [], _ => psL_nil
 | x :: t, h => psL_cons (tx_parse (h x List.mem_cons_self)) (txs_parse fun y hy => h y (List.mem_cons_of_mem _ hy))
theorem firstE_zero : ∀ L : List Rq, firstE (L.map fun x => (x, 0)) = 0
 | [] => rfl
 | x :: t => by simp only [List.map_cons, firstE, if_pos]; exact firstE_zero t
theorem map_fst0 (L : List Rq) : (L.map fun x => (x, (0 : Int))).map (·.1) = L := by simp [Function.comp_def]
theorem noF_zero (L : List Rq) : NoF (L.map fun x => (x, 0)) := fun y hy => by
 obtain ⟨x, _, rfl⟩ := List.mem_map.1 hy
 show (0 : Int) ≠ 5
 decide
theorem txt_back {L : List Rq} (hI : I6 L) (hc : chkL L = 0) : SP (txtL L) L 0 := by
 by_cases h0 : L = []
 · subst h0; exact Or.inl ⟨rfl, rfl, rfl⟩
 · have hok := Sep.all (chk_ok hI hc)
   have hs : spl (jnT L).data.toList = L.map tx := by
     unfold jnT; exact spl_join _ (by simpa using h0) (fun f hf => by obtain ⟨x, _, rfl⟩ := List.mem_map.1 hf; exact tx_c x)
   have hp : prsE (L.map fun x => (x, (0 : Int))) = 0 := by rw [prsE_chk (noF_zero L) (firstE_zero L), map_fst0, hc]
   unfold txtL; rw [if_neg h0]; refine Or.inr ⟨?_, _, by rw [hs]; exact txs_parse hok, ?_, hp.symm⟩
   · intro e
     rw [e] at hs
     cases L with
     | nil => exact h0 rfl
     | cons x t =>
       have : spl noneS.data.toList = [noneS.data.toList] := spl_part _ (by decide); rw [this, List.map_cons] at hs; have h1 := (List.cons.inj hs).1; have hm : (46 : UInt8) ∈ tx x := (by unfold tx rStr; simp [ByteArray.data_append]); rw [<- h1] at hm; exact absurd hm (by decide)
   · unfold prsR; rw [if_pos hp, map_fst0]
theorem txt_parts {L : List Rq} (hI : I6 L) (hc : chkL L = 0) : ∀ f ∈ spl (txtL L).data.toList, f.length <= 1000 := by
 by_cases h0 : L = []
 · subst h0; intro f hf
   have : spl (txtL []).data.toList = [noneS.data.toList] := spl_part _ (by decide); rw [this] at hf; simp at hf; subst hf; decide
 · have hs : spl (txtL L).data.toList = L.map tx := by
    unfold txtL; rw [if_neg h0]; unfold jnT; exact spl_join _ (by simpa using h0) (fun f hf => by obtain ⟨x, _, rfl⟩ := List.mem_map.1 hf; exact tx_c x)
   rw [hs]; intro f hf; obtain ⟨x, hx, rfl⟩ := List.mem_map.1 hf; exact tx_isT (hI x hx).1 (hI x hx).2
theorem dl_at (s : ByteArray) (i : Nat) (h : i < s.size) : s.data.toList[i]? = some s[i] := Lib.data_getElem? s i h
theorem dl_len (s : ByteArray) : s.data.toList.length = s.size := by simp
theorem part_list (s : ByteArray) (f i : Nat) : (s.extract f i).data.toList = (s.data.toList.drop f).take (i - f) := by
 rw [ByteArray.data_extract, Array.toList_extract, List.extract_eq_take_drop]
theorem drop_cons {α : Type} {l : List α} {k : Nat} {x : α} {t : List α} (h : l.drop k = x :: t) : l[k]? = some x /\ l.drop (k + 1) = t /\ k < l.length := by
 have hk : k < l.length := by
  by_cases hk : k < l.length
  · exact hk
  · rw [List.drop_eq_nil_of_le (by omega)] at h; cases h
 rw [List.drop_eq_getElem_cons hk] at h
 obtain ⟨h1, h2⟩ := List.cons.inj h
 exact ⟨by rw [List.getElem?_eq_getElem hk, h1], h2, hk⟩
theorem toArrS (s : ByteArray) : (⟨s.data.toList.toArray⟩ : ByteArray) = s := by simp
def Gat (ys : List (Rq × Int)) (k : Nat) : Prop := NoF (ys.take k)
theorem gat_step {ys : List (Rq × Int)} {k : Nat} {y : Rq × Int} (h : Gat ys k) (hy : ys[k]? = some y) (h5 : y.2 ≠ 5) : Gat ys (k + 1) := by
 intro z hz
 rw [List.take_add_one, hy] at hz
 rcases List.mem_append.1 hz with hz | hz
 · exact h z hz
 · simp at hz; subst hz; exact h5
theorem fst_at {ys : List (Rq × Int)} {k : Nat} {y : Rq × Int} (hy : ys[k]? = some y) : (ys.take (k + 1)).map (·.1) = (ys.take k).map (·.1) ++ [y.1] := by
 rw [List.take_add_one, hy]; simp
theorem firstE_at {ys : List (Rq × Int)} {k : Nat} {y : Rq × Int} (hy : ys[k]? = some y) : firstE (ys.take (k + 1)) = if firstE (ys.take k) = 0 then y.2 else firstE (ys.take k) := by
 rw [List.take_add_one, hy]; exact firstE_snoc _ _
theorem gat_bad {ys : List (Rq × Int)} {k : Nat} {y : Rq × Int} (hy : ys[k]? = some y) (h5 : y.2 = 5) : prsE ys = 5 /\ prsR ys = [] := by
 have := prsE_form (List.mem_of_getElem? hy) h5
 exact ⟨this, prsR_bad (by rw [this]; decide)⟩
theorem spl_at {l : List UInt8} {a b : Nat} (hab : a <= b) (hb : b < l.length) (hn : ∀ j, a <= j -> j < b -> l[j]? ≠ some 44) (hc : l[b]? = some 44) :
   spl (l.drop a) = ((l.drop a).take (b - a)) :: spl (l.drop (b + 1)) := by
 have e : l.drop a = (l.drop a).take (b - a) ++ 44 :: l.drop (b + 1) := by
   have h1 : (l.drop a).drop (b - a) = 44 :: l.drop (b + 1) := by
    rw [List.drop_drop, show a + (b - a) = b by omega, List.drop_eq_getElem_cons hb]; rw [List.getElem?_eq_getElem hb] at hc; rw [Option.some.inj hc]
   rw [<- h1, List.take_append_drop]
 rw [e]
 refine (spl_comma _ _ ?_).trans ?_
 · intro c hc e'
   subst e'; obtain ⟨j, hj, hg⟩ := List.getElem_of_mem hc; simp only [List.length_take, List.length_drop] at hj; refine hn (a + j) (by omega) (by omega) ?_; rw [List.getElem_take, List.getElem_drop] at hg; rw [List.getElem?_eq_getElem (by omega), hg]
 · rw [<- e]
theorem spl_last {l : List UInt8} {a : Nat} (hn : ∀ j, a <= j -> j < l.length -> l[j]? ≠ some 44) : spl (l.drop a) = [l.drop a] := by
 refine spl_part _ ?_
 intro c hc e'
 subst e'
 obtain ⟨j, hj, hg⟩ := List.getElem_of_mem hc
 simp only [List.length_drop] at hj
 refine hn (a + j) (by omega) (by omega) ?_
 rw [List.getElem_drop] at hg
 rw [List.getElem?_eq_getElem (by omega), hg]
end Go.Proofs.YtoghoddjkdoohaaGreatDoor
