/- Walks and laws that the claim's theorem leans on: part 21. -/
import Derived.Test.YtoghoddjkdoohaaGreatDoorZKn1
import Derived.Test.YtoghoddjkdoohaaGreatDoorZKn18
import Derived.Test.YtoghoddjkdoohaaGreatDoorZKn20
import Derived.Shelf.SlIter.Collect
import Derived.Lib.IndexLaws
namespace Go.Proofs.YtoghoddjkdoohaaGreatDoor
set_option maxHeartbeats 4000000
set_option maxRecDepth 100000
open Go.RowKit Go.Maps Go.Sort Go.Shelf Go.Proofs
set_option linter.unusedVariables false
set_option linter.unusedSimpArgs false
abbrev rqv (x : Rq) : Value := .agg #[.int .i8 x.a, .int .i64 x.b, .int .i8 x.c, .int .i64 x.d]
def SeqGivesB (F : Fence) (n : Nat) (g : Nat) (lb : Array Value) (L : List Rq) (w : World) : Prop :=
 ∀ (l : Nat) (J : List Rq -> World -> Prop) (W : World), Below w.heap.size w W -> AbidesFrom W.heap.size J -> (∀ s W', J s W' -> Below w.heap.size w W') ->
  (∀ pre x W1, J pre W1 -> pre.length < L.length -> YieldAt F (n - 1) Tryz.prog l #[rqv x] W1 fun e W' => e = .returned (.bool true) /\ J (pre ++ [x]) W' /\ KeepsWalks W1 W') ->
  J [] W ->
  CallsIn F n Tryz.prog g (#[.func (.yield l) #[] #[]] ++ lb) W fun e W' => (∃ v, e = .returned v) /\ J L W'
theorem vals_give (F : Fence) (n : Nat) (hF : F.fn 86) (hro : F.round = none) (hn : 1 <= n) (B : Nat) (p : Option Addr) (cap : Nat) (L : List Rq) (w : World) (hl : L.length <= 100000)
  (hB : w.cell? ⟨B, 0, none⟩ = some (.slice p L.length cap)) (hR : Row w p L) :
  SeqGivesB F n 86 #[.pointer (some ⟨B, 0, none⟩)] L w := by
 intro l J W hW hJ hJB hY h0
 have FG := Tryz.func86
 refine callsIn_of_wp FG rfl hF ?_ hro
 simp only [Tryz.ntmps86, List.size_toArray, List.length_cons, List.length_nil, Nat.reduceAdd, Nat.reduceSub, Array.replicate_succ, Array.replicate_zero, List.push_toArray, List.append_toArray, List.nil_append, List.cons_append]
 have hB1 : W.cell? ⟨B, 0, none⟩ = some (.slice p L.length cap) := cell_below hW hB
 have HR := Lib.hid hR
 have HJB := Lib.hid hJB
 have HB := Lib.hid hB
 clear hR hB
 gi_wp2
 clear hB1
 gi_loopw [7] (fun iv wr => ∃ k : Nat, k <= L.length /\ iv = .int .i64 k /\ J (L.take k) wr) (fun iv _ => L.length - (intOf iv).toNat)
 case atStart => exact ⟨0, by omega, rfl, h0⟩
 case round =>
  obtain ⟨k, hk, rfl, hJk⟩ := hrel
  by_cases hlt : k < L.length
  · have d1 : decide ((k : Int) < L.length) = true := by simp; omega
    obtain ⟨x, hx⟩ : ∃ x, L[k]? = some x := ⟨L[k], by simp [hlt]⟩; obtain ⟨g, o, rfl, hc⟩ := HR.out.cs (by omega); obtain ⟨a0, a1, a2, a3⟩ := (hc.dn ⟨HJB.out _ _ hJk⟩).el _ _ hx; have HX := Lib.hid hx; clear hx hc; have hJ2 : J (L.take k) (wr.alloc (.cells #[.int .i8 x.a, .int .i64 x.b, .int .i8 x.c, .int .i64 x.d] 45)) := hJ _ _ _ none hJk (World.grownBy_alloc _ _ none) (fun r e => by cases e); obtain ⟨fn, tmps, assign, body, hy, hR2⟩ := hY (L.take k) x _ hJ2 (by simp; omega); gi_wp2; refine hR2.mono ?_; rintro e W3 ⟨rfl, hJ3, hk3⟩; gi_wp2; go_roundw
    case rel => exact ⟨k + 1, by omega, by simp, by rw [take_at HX.out]; exact hJ3⟩
    case measure => simp [intOf]; omega
  · obtain rfl : k = L.length := by omega
    have d1 : decide ((L.length : Int) < L.length) = false := (by simp); rw [List.take_length] at hJk; gi_wp2; go_end0; exact ⟨⟨_, rfl⟩, hJk⟩
def apPick (b : Option Code) : Code × Code := match b with
 | some (.seq _ (.seq (.seq _ (.block _ (.rangeFunc _ _ x y))) _)) => (x, y)
 | _ => (.skip, .skip)
def apRecQ (cA cB : Code) (fn : FuncId) (sv : Value) (Bs D : Nat) (st : LoopState) (pend : Option Code) : Loop :=
 { state := st, pending := pend, fn, tmps := #[.slice none 0 0, sv, .pointer (some ⟨Bs, 0, none⟩), undef, .slice none 0 0, undef, sv, undef, undef, undef, undef, undef, undef], params := #[7], assign := cA, body := cB, defers := D }
structure ApQ (cA cB : Code) (w0 : World) (fn : FuncId) (sv : Value) (Bs l D : Nat) (ss : List Rq) (W : World) : Prop where
 box : ∃ v, W.heap[Bs]? = some (.cells #[v] 22 (0, 0)) /\ W.ownsRow w0.heap.size 45 4 v ss.length (ss.flatMap qc)
 L : W.heap[l]? = some (.loop (apRecQ cA cB fn sv Bs D .ready none))
 K : W.heap[D]? = some (.deferred (some []))
 below : Below w0.heap.size w0 W
theorem apq_abides (cA cB : Code) (w0 : World) (fn : FuncId) (sv : Value) (Bs l D B : Nat) (hB : w0.heap.size <= B) : AbidesFrom B (ApQ cA cB w0 fn sv Bs l D) := fun s W W' row h hg hrow => by
 have hrow' : ∀ r, row = some r -> ∃ o : Obj, W.heap[r]? = some o /\ o.isWalk = true := fun r e => (hrow r e).2
 obtain ⟨v, hv, hr⟩ := h.box
 exact ⟨⟨v, (grownBy_keeps hg hrow' hv rfl).trans hv, ownsRow_abides_a hr hg hrow'⟩, (grownBy_keeps hg hrow' h.L rfl).trans h.L, (grownBy_keeps hg hrow' h.K rfl).trans h.K,
  h.below.grown hg h.below.size (fun k e => Nat.le_trans hB (hrow k e).1)⟩
theorem apq_yield (cA cB : Code) (hAB : apPick Tryz.f126.body = (cA, cB)) (F : Fence) (m : Nat) (w0 : World) (fn : FuncId) (hfn : F.fn fn) (sv : Value) (Bs l D : Nat) (hBl : Bs ≠ l) (hDl : D ≠ l) (hDB : D ≠ Bs) (h0B : w0.heap.size <= Bs) (h0l : w0.heap.size <= l)
    (N : Nat) (hN : N <= 1000000) (ss : List Rq) (x : Rq) (W0 : World) (h0 : ApQ cA cB w0 fn sv Bs l D ss W0) (hlen : ss.length < N) :
    YieldAt F m Tryz.prog l #[rqv x] W0 fun e W' => e = .returned (.bool true) /\ ApQ cA cB w0 fn sv Bs l D (ss ++ [x]) W' /\ KeepsWalks W0 W' := by
  have hne : 22 ≠ 45 := by decide
  obtain ⟨i0, hi, hz0, hz1, hz2⟩ := info_parts infoRun; refine ⟨fn, #[.slice none 0 0, sv, .pointer (some ⟨Bs, 0, none⟩), undef, .slice none 0 0, undef, sv, rqv x, undef, undef, undef, undef, undef], cA, cB, by simpa [apRecQ] using run_yield (P := Tryz.prog) (args := #[rqv x]) h0.L rfl, roundIn_of_wpIn hfn ?_⟩; obtain ⟨W, hW⟩ : ∃ W, W = W0.alloc (.cells #[.int .i8 x.a, .int .i64 x.b, .int .i8 x.c, .int .i64 x.d] 45) := ⟨_, rfl⟩
  have h : ApQ cA cB w0 fn sv Bs l D ss W := by rw [hW]; exact apq_abides cA cB w0 fn sv Bs l D w0.heap.size (Nat.le_refl _) _ _ _ none h0 (World.grownBy_alloc _ _ none) (fun r e => by cases e)
  have hk1 : KeepsWalks W0 W := by rw [hW]; exact KeepsWalks.alloc _ _
  have hxc : W.heap[W0.heap.size]? = some (.cells #[.int .i8 x.a, .int .i64 x.b, .int .i8 x.c, .int .i64 x.d] 45 (0, 0)) := by rw [hW]; exact World.alloc_heap_new _ _
  have hl0 : l < W0.heap.size := (Array.getElem?_eq_some_iff.1 h0.L).1
  have hB0 : Bs < W0.heap.size := by obtain ⟨v, hv, _⟩ := h0.box; exact (Array.getElem?_eq_some_iff.1 hv).1
  obtain ⟨v, hv, hrow⟩ := h.box; have hl : l < W.heap.size := (Array.getElem?_eq_some_iff.1 h.L).1; have hbr := run_beginRound (P := Tryz.prog) h.L rfl; obtain ⟨W2, hW2⟩ : ∃ W2, W.putObj l (.loop { apRecQ cA cB fn sv Bs D .ready none with state := .busy }) = W2 := ⟨_, rfl⟩; rw [hW2] at hbr
  have hg2 : W.grownBy W2 (some l) := by rw [<- hW2]; exact grownBy_putObj_a _ _ _
  have hk2 : KeepsWalks W W2 := by rw [<- hW2]; exact KeepsWalks.putObj _ h.L rfl
  have hv2 : W2.heap[Bs]? = some (.cells #[v] 22 (0, 0)) := by rw [<- hW2]; exact (World.putObj_heap_other hBl).trans hv
  have hK2 : W2.heap[D]? = some (.deferred (some [])) := by rw [<- hW2]; exact (World.putObj_heap_other hDl).trans h.K
  have hx2 : W2.heap[W0.heap.size]? = some (.cells #[.int .i8 x.a, .int .i64 x.b, .int .i8 x.c, .int .i64 x.d] 45 (0, 0)) := by rw [<- hW2]; exact (World.putObj_heap_other (by omega)).trans hxc
  have hL2 : W2.heap[l]? = some (.loop { apRecQ cA cB fn sv Bs D .ready none with state := .busy }) := by rw [<- hW2]; exact World.putObj_heap_same hl
  have hrow2 : W2.ownsRow w0.heap.size 45 4 v ss.length (ss.flatMap qc) := hrow.kept hg2 (ownsRow_ne_a hrow h.L (fun cur e => by first | cases e | exact hne (Obj.cells.inj e).2.1)); have hb2 : Below w0.heap.size w0 W2 := h.below.grown hg2 h.below.size (fun k e => by cases e; exact h0l); obtain ⟨hc2, hf2⟩ := cell_of_box_a hv2
  have x0 : W2.cell? ⟨W0.heap.size, 0, none⟩ = some (.int .i8 x.a) := by simp [World.cell?, hx2]
  have x1 : W2.cell? ⟨W0.heap.size, 1, none⟩ = some (.int .i64 x.b) := by simp [World.cell?, hx2]
  have x2 : W2.cell? ⟨W0.heap.size, 2, none⟩ = some (.int .i8 x.c) := by simp [World.cell?, hx2]
  have x3 : W2.cell? ⟨W0.heap.size, 3, none⟩ = some (.int .i64 x.d) := by simp [World.cell?, hx2]
  have hBlt : Bs < W2.heap.size := (Array.getElem?_eq_some_iff.1 hv2).1; have hl2 : l < W2.heap.size := (Array.getElem?_eq_some_iff.1 hL2).1; have hDlt : D < W2.heap.size := (Array.getElem?_eq_some_iff.1 hK2).1
  have ne_of : ∀ {j : Nat} {o : Obj}, W2.heap[j]? = some o -> (∀ cur, o ≠ .cells cur 45 (0, 0)) -> some j ≠ v.ownBlock := fun hj hno => by
    rcases ownsRow_ne_a hrow2 hj hno with e | e
    · rw [e]; simp
    · exact fun e' => e e'.symm
  clear hW2
  obtain ⟨rfl, rfl⟩ : cA = (apPick Tryz.f126.body).1 /\ cB = (apPick Tryz.f126.body).2 := by rw [hAB]; exact ⟨rfl, rfl⟩
  dsimp only [apPick, Tryz.f126]; clear hAB; rw [hW] at hbr
  have hcell : ∀ j u, (qc x)[j]? = some u -> (W2.alloc (.cells #[.int .i8 x.a, .int .i64 x.b, .int .i8 x.c, .int .i64 x.d] 45)).cell? ((⟨W2.heap.size, 0, none⟩ : Addr).add j) = some u := by
    intro j u hj
    match j, hj with
    | 0, hj => simp [qc] at hj; subst hj; simp [Addr.add]
    | 1, hj => simp [qc] at hj; subst hj; simp [Addr.add]
    | 2, hj => simp [qc] at hj; subst hj; simp [Addr.add]
    | 3, hj => simp [qc] at hj; subst hj; simp [Addr.add]
    | n + 4, hj => simp [qc] at hj
  have hone : ∀ u ∈ qc x, u.oneCell' = true := by intro u hu; simp [qc] at hu; rcases hu with rfl | rfl | rfl | rfl <;> rfl
  have h63 : ss.length + 1 <= maxLen := by unfold maxLen; omega
  have hby : (ss.length + 1) * 32 <= 140737488355328 := by omega
  have hbase : w0.heap.size <= (W2.alloc (.cells #[.int .i8 x.a, .int .i64 x.b, .int .i8 x.c, .int .i64 x.d] 45)).heap.size := by have := hb2.size; simp; omega
  have HC := Lib.hid hcell; have HO := Lib.hid hone; have H63 := Lib.hid h63; have HBY := Lib.hid hby; have HBA := Lib.hid hbase; clear hcell hone h63 hby hbase
  gi_wp2_with (first
    | (gi_at_builtin; refine wpListIn_append_own _ rfl _ _ 22 rfl w0.heap.size 45 i0 _ 4 32 Tryz.underlying22 hi hz0 hz1 hz2 rfl (by decide) _ _ _ rfl (hrow2.alloc _) ⟨W2.heap.size, 0, none⟩ 1 1 (qc x) rfl rfl HC.out HO.out H63.out HBY.out HBA.out ?_; intro v' w3 hown' hg3 hnil3
       have hv3 : w3.heap[Bs]? = some (.cells #[v] 22 (0, 0)) := (hg3.block Bs (by simp; omega) (ne_of hv2 (fun cur e => by first | cases e | exact hne (Obj.cells.inj e).2.1))).trans ((Below.heap_alloc _ _ Bs hBlt).trans hv2); obtain ⟨hc3, hf3⟩ := cell_of_box_a hv3
       obtain ⟨g', cap', cur', rfl, hbase', hgb', hr1, hr2, hr3, hr4⟩ : ∃ g' cap' cur', v' = .slice (some ⟨g', 0, none⟩) (ss.length + 1) cap' /\ w0.heap.size <= g' /\ w3.heap[g']? = some (.cells cur' 45 (0, 0)) /\ ss.length + 1 <= cap' /\ cap' <= maxLen /\ cur'.size = cap' * 4 /\ cur'.toList.take ((ss.length + 1) * 4) = ss.flatMap qc ++ qc x := by
         rcases hown'.2 with ⟨_, h0⟩ | h'
         · exact absurd h0 (by omega)
         · exact h'
       go_frame)
    | gi_round_op_a)
  have hg3' : (W2.alloc (.cells #[.int .i8 x.a, .int .i64 x.b, .int .i8 x.c, .int .i64 x.d] 45)).grownBy w3 v.ownBlock := hg3; have hL3 : w3.heap[l]? = some (.loop { apRecQ (apPick Tryz.f126.body).1 (apPick Tryz.f126.body).2 fn sv Bs D .ready none with state := .busy }) := (hg3'.block l (by simp; omega) (ne_of hL2 (fun cur e => by first | cases e | exact hne (Obj.cells.inj e).2.1))).trans ((Below.heap_alloc _ _ l hl2).trans hL2); have hK3 : w3.heap[D]? = some (.deferred (some [])) := (hg3'.block D (by simp; omega) (ne_of hK2 (fun cur e => by first | cases e | exact hne (Obj.cells.inj e).2.1))).trans ((Below.heap_alloc _ _ D hDlt).trans hK2); obtain ⟨w4, hw4⟩ : ∃ w4, w3.setCell ⟨Bs, 0, none⟩ (.slice (some ⟨g', 0, none⟩) (ss.length + 1) cap') = w4 := ⟨_, rfl⟩; rw [hw4]
  have hg4 : w3.grownBy w4 (some Bs) := by rw [<- hw4]; exact grownBy_setCell0_a _ _ _
  have hv4 : w4.heap[Bs]? = some (.cells #[.slice (some ⟨g', 0, none⟩) (ss.length + 1) cap'] 22 (0, 0)) := by rw [<- hw4]; exact heap_setCell_box_a _ hv3
  have hL4 := (hg4.block l (Array.getElem?_eq_some_iff.1 hL3).1 (fun e => hBl (by cases e; rfl))).trans hL3; have hK4 : w4.heap[D]? = some (.deferred (some [])) := (hg4.block D (Array.getElem?_eq_some_iff.1 hK3).1 (fun e => hDB (by cases e; rfl))).trans hK3; have hrow4 := hown'.kept hg4 (ownsRow_ne_a hown' hv3 (fun cur e => by first | cases e | exact hne (Obj.cells.inj e).2.1)); have hl4 : l < w4.heap.size := (Array.getElem?_eq_some_iff.1 hL4).1; have hb3 : Below w0.heap.size w0 w3 := (hb2.alloc hb2.size _).grown hg3' (by have := hb2.size; simp; omega) (fun k e => (hrow2.lt k e).1); have hb4 : Below w0.heap.size w0 w4 := hb3.grown hg4 hb3.size (fun k e => by cases e; exact h0B); have hk4 : KeepsWalks W w4 := ((hk2.trans (KeepsWalks.alloc _ _)).trans (KeepsWalks.of_grownBy hg3' (ownsRow_not_walk_a (hrow2.alloc _)))).trans (by rw [<- hw4]; exact KeepsWalks.setCell _ _ _); clear hw4; refine ⟨_, _, run_endRound none hL4, rfl, ⟨⟨_, (World.putObj_heap_other hBl).trans hv4, ?_⟩, World.putObj_heap_same hl4, (World.putObj_heap_other hDl).trans hK4, hb4.grown (grownBy_putObj_a _ _ _) hb4.size (fun k e => by cases e; exact h0l)⟩, hk1.trans (hk4.trans (KeepsWalks.putObj _ hL4 rfl))⟩
  have hkk := fun o => hrow4.kept (grownBy_putObj_a w4 l o) (ownsRow_ne_a hrow4 hL4 (fun cur e => by first | cases e | exact hne (Obj.cells.inj e).2.1))
  rw [show (ss ++ [x]).length = ss.length + 1 by simp, show (ss ++ [x]).flatMap qc = ss.flatMap qc ++ qc x by simp]; exact hkk _
theorem slAppendSeq (F : Fence) (n : Nat) (h11 : F.fn 126) (hro : F.round = none) (hn : 2 <= n) (g : Nat) (lb : Array Value) (hFg : F.fn g) (eg : ∀ args w, (callFunc g args).run Tryz.prog w = .ok (.enter g args) w)
   (L : List Rq) (hl : L.length <= 100000) (w : World) (hseq : SeqGivesB F (n - 1) g lb L w) :
   CallsIn F n Tryz.prog 126 #[.slice none 0 0, .func (.func g) #[] lb] w fun e w' => ∃ v : Value, e = .returned v /\ OwnQ w' w.heap.size v L /\ Dn w w' := by
 have h1 : 1 <= n := by omega
 have hne : 22 ≠ 45 := by decide
 obtain ⟨cA, cB, hAB⟩ : ∃ cA cB, apPick Tryz.f126.body = (cA, cB) := ⟨_, _, rfl⟩
 have FG := Tryz.func126
 refine callsIn_of_wp_marks FG rfl h11 ?_ hro
 simp only [Tryz.ntmps126, List.size_toArray, List.length_cons, List.length_nil, Nat.reduceAdd, Nat.reduceSub, Array.replicate_succ, Array.replicate_zero, List.push_toArray, List.append_toArray, List.nil_append, List.cons_append]
 gi_wp2
 refine wpIn_rangeFunc ?_
 intro fn hfn
 rw [hro]
 obtain ⟨W0, hW0⟩ : ∃ W0, w.alloc (.cells #[.slice none 0 0] 22) = W0 := ⟨_, rfl⟩
 have hs0 : W0.heap.size = w.heap.size + 1 := by rw [<- hW0]; simp
 have hv0 : W0.heap[w.heap.size]? = some (.cells #[.slice none 0 0] 22 (0, 0)) := by rw [<- hW0]; exact World.alloc_heap_new w _
 have hb0 : Below w.heap.size w W0 := by rw [<- hW0]; exact (Below.refl _ w).alloc (Nat.le_refl _) _
 rw [hW0]
 obtain ⟨W1, hW1⟩ : ∃ W1, (W0.alloc (.deferred (some []))).alloc (.loop (apRecQ cA cB fn (.func (.func g) #[] lb) w.heap.size W0.heap.size .ready none)) = W1 := ⟨_, rfl⟩
 have hold : ∀ k, k < W0.heap.size -> W1.heap[k]? = W0.heap[k]? := fun k hk => by
   rw [<- hW1]; exact (Below.heap_alloc _ _ k (by simp; omega)).trans (Below.heap_alloc _ _ k hk)
 have hb1 : Below w.heap.size w W1 := by rw [<- hW1]; exact (hb0.alloc hb0.size _).alloc (by have := hb0.size; simp; omega) _
 have hs1 : W1.heap.size = W0.heap.size + 2 := by rw [<- hW1]; simp
 have hM : ApQ cA cB w fn (.func (.func g) #[] lb) w.heap.size (W0.heap.size + 1) W0.heap.size [] W1 :=
   ⟨⟨_, (hold w.heap.size (by omega)).trans hv0, ⟨rfl, .inl ⟨rfl, rfl⟩⟩⟩,
    by rw [<- hW1]; have := World.alloc_heap_new (W0.alloc (.deferred (some []))) (.loop (apRecQ cA cB fn (.func (.func g) #[] lb) w.heap.size W0.heap.size .ready none)); rwa [World.size_alloc] at this,
    by rw [<- hW1]; exact (Below.heap_alloc _ _ _ (by simp)).trans (World.alloc_heap_new W0 _), hb1⟩
 refine ⟨W0.heap.size + 1, [{ target := .collected W0.heap.size, args := #[] }], W1, { target := .fn (.func g) lb, args := #[.func (.yield (W0.heap.size + 1)) #[] #[]] }, W1, g,
   #[.func (.yield (W0.heap.size + 1)) #[] #[]] ++ lb, W1, ?_, ?_, ?_, ?_, fun _ => h1, ?_⟩
 · have hA : cA = (apPick Tryz.f126.body).1 := by rw [hAB]
   have hB : cB = (apPick Tryz.f126.body).2 := by rw [hAB]
   rw [<- hW1, hA, hB]; exact run_enterLoop_outer _ _ _ _ _
 · simp [resolve, go_sem]
 · intro f' hf'; simp [Target.leads] at hf'; subst hf'; exact hFg
 · simp [invoke, go_sem, eg]
 · refine (hseq (W0.heap.size + 1) (ApQ cA cB w fn (.func (.func g) #[] lb) w.heap.size (W0.heap.size + 1) W0.heap.size) W1 hb1 (apq_abides cA cB _ _ _ _ _ _ _ hb1.size) (fun s W' h => h.below)
     (fun pre x W hJ hl2 => apq_yield cA cB hAB F (n - 1 - 1) w fn hfn _ w.heap.size (W0.heap.size + 1) W0.heap.size (by omega) (by omega) (by omega) (Nat.le_refl _) (by omega) L.length (by omega) pre x W hJ hl2) hM).mono ?_
   rintro e W2 ⟨⟨v0, rfl⟩, h2⟩; obtain ⟨v, hv, hrow⟩ := h2.box; have hend := run_endLoop (P := Tryz.prog) h2.L (by simp [apRecQ]); obtain ⟨W3, hW3⟩ : ∃ W3, W2.putObj (W0.heap.size + 1) (.loop { apRecQ cA cB fn (.func (.func g) #[] lb) w.heap.size W0.heap.size .ready none with state := .exhausted }) = W3 := ⟨_, rfl⟩; rw [hW3] at hend
   have hg3 : W2.grownBy W3 (some (W0.heap.size + 1)) := by rw [<- hW3]; exact grownBy_putObj_a _ _ _
   have hv3 : W3.heap[w.heap.size]? = some (.cells #[v] 22 (0, 0)) := by rw [<- hW3]; exact (World.putObj_heap_other (by omega)).trans hv
   have hK3 : W3.heap[W0.heap.size]? = some (.deferred (some [])) := by rw [<- hW3]; exact (World.putObj_heap_other (by omega)).trans h2.K
   have hrow3 := hrow.kept hg3 (ownsRow_ne_a hrow h2.L (fun cur e => by first | cases e | exact hne (Obj.cells.inj e).2.1)); have hb3 : Below w.heap.size w W3 := h2.below.grown hg3 h2.below.size (fun k e => by cases e; omega); obtain ⟨hc3, hf3⟩ := cell_of_box_a hv3; clear hW3; refine ⟨none, W3, hend, ?_⟩; gi_wp2; rw [<- hs0]; refine ⟨by simp, .inl ⟨_, _, rfl, run_takeDeferred hK3, ?_⟩⟩; exact ⟨_, results_tmp rfl _ _ _, v, rfl, ⟨hrow3.kept (grownBy_putObj_a _ _ _) (ownsRow_ne_a hrow3 hK3 (fun cur e => by first | cases e | exact hne (Obj.cells.inj e).2.1))⟩, ⟨hb3.grown (grownBy_putObj_a _ _ _) hb3.size (fun k e => by cases e; omega)⟩⟩
set_option maxHeartbeats 4000000
set_option maxRecDepth 100000
theorem ib_cases (l : List UInt8) : Lib.indexByte l 44 = -1 \/ ∃ j : Nat, Lib.indexByte l 44 = j := by
 have h := Lib.indexByte_ge l 44
 rcases (show Lib.indexByte l 44 = -1 \/ 0 <= Lib.indexByte l 44 by omega) with h | h
 · exact .inl h
 · exact .inr ⟨(Lib.indexByte l 44).toNat, by omega⟩
theorem slIndex (t : ByteArray) (W : World) : Calls Tryz.prog 142 #[.string t, .string ⟨#[44]⟩] W fun e w' => e = .returned (.int .i64 (Lib.indexByte t.data.toList 44)) /\ w' = W := Any.strings_Index_one Tryz.lays143 t 44 W
def KeepB (b1 b2 b3 : Nat) (A A' : World) : Prop := A'.heap[b1]? = A.heap[b1]? /\ A'.heap[b2]? = A.heap[b2]? /\ A'.heap[b3]? = A.heap[b3]?
def SeqW (n : Nat) (g : Nat) (b1 b2 b3 : Nat) (fs : List (List UInt8)) (w : World) : Prop :=
 ∀ (l : Nat) (J : Nat -> World -> Prop) (Jx : World -> Prop) (W : World), KeepB b1 b2 b3 w W ->
  (∀ k A v, J k A -> J k (A.setCell ⟨b2, 0, none⟩ v)) ->
  (∀ k f A, fs[k]? = some f -> J k A -> YieldAt Fence.wide (n - 1) Tryz.prog l #[.string ⟨f.toArray⟩] A fun e A' => (e = .returned (.bool true) /\ J (k + 1) A' /\ KeepB b1 b2 b3 A A') \/ (e = .returned (.bool false) /\ Jx A')) ->
  J 0 W ->
  CallsIn Fence.wide n Tryz.prog g #[.func (.yield l) #[] #[], .pointer (some ⟨b1, 0, none⟩), .pointer (some ⟨b2, 0, none⟩), .pointer (some ⟨b3, 0, none⟩)] W fun e W' => (∃ v, e = .returned v) /\ (J fs.length W' \/ Jx W')
def boxLen (W : World) (B : Nat) : Nat := match W.cell? ⟨B, 0, none⟩ with
 | some (.string s) => s.size
 | _ => 0
theorem boxLen_is {W : World} {B : Nat} {s : ByteArray} (h : W.cell? ⟨B, 0, none⟩ = some (.string s)) : boxLen W B = s.size := by unfold boxLen; rw [h]
structure ItB (W : World) (b1 b2 b3 : Nat) (s : ByteArray) : Prop where
 c1 : W.heap[b1]? = some (.cells #[.string ⟨#[44]⟩] 9 (0, 0))
 c2 : W.heap[b2]? = some (.cells #[.string s] 9 (0, 0))
 c3 : W.heap[b3]? = some (.cells #[.int .i64 0] 3 (0, 0))
theorem ItB.kept {W W' : World} {b1 b2 b3 : Nat} {s : ByteArray} (h : ItB W b1 b2 b3 s) (k : KeepB b1 b2 b3 W W') : ItB W' b1 b2 b3 s := ⟨k.1.trans h.c1, k.2.1.trans h.c2, k.2.2.trans h.c3⟩
theorem ItB.put {W : World} {b1 b2 b3 : Nat} {s : ByteArray} (h : ItB W b1 b2 b3 s) (n1 : b1 ≠ b2) (n3 : b3 ≠ b2) (t : ByteArray) : ItB (W.setCell ⟨b2, 0, none⟩ (.string t)) b1 b2 b3 t :=
 ⟨(Below.heap_setCell W ⟨b2, 0, none⟩ _ b1 n1).trans h.c1, heap_setCell_box_a _ h.c2, (Below.heap_setCell W ⟨b2, 0, none⟩ _ b3 n3).trans h.c3⟩
theorem spl_hit {s : ByteArray} {j : Nat} (h : Lib.indexByte s.data.toList 44 = j) : j < s.size /\ spl s.data.toList = (s.extract 0 j).data.toList :: spl (s.extract (j + 1) s.size).data.toList := by
 obtain ⟨h3, h4⟩ := Lib.indexByte_some h
 have hl : s.data.toList.length = s.size := dl_len s
 have hs : j < s.size := by have := (List.getElem?_eq_some_iff.1 h3).1; omega
 refine ⟨hs, ?_⟩
 have := spl_at (l := s.data.toList) (a := 0) (b := j) (Nat.zero_le _) (by omega) (fun a _ b => h4 a b) h3
 rw [part_list, part_list]
 simp only [List.drop_zero, Nat.sub_zero] at this ⊢
 rw [this]
 congr 2
 rw [List.take_of_length_le (by simp)]
theorem spl_miss {s : ByteArray} (h : Lib.indexByte s.data.toList 44 = -1) : spl s.data.toList = [s.data.toList] := by
 have := spl_last (l := s.data.toList) (a := 0) (fun j _ _ => Lib.indexByte_none h j)
 simpa using this
theorem toArr (s : ByteArray) : (⟨s.data.toList.toArray⟩ : ByteArray) = s := by simp
theorem spl_seq (n : Nat) (hn : 1 <= n) (b1 b2 b3 : Nat) (n1 : b1 ≠ b2) (n3 : b3 ≠ b2) (s : ByteArray) (w : World) (hs : s.size <= 1000000) (hB : ItB w b1 b2 b3 s) :
  SeqW n 140 b1 b2 b3 (spl s.data.toList) w := by
 intro l J Jx W hW hJB hY h0
 have FG := Tryz.func140
 refine callsIn_of_wp FG rfl trivial ?_ rfl
 simp only [Tryz.ntmps140, List.size_toArray, List.length_cons, List.length_nil, Nat.reduceAdd, Nat.reduceSub, Array.replicate_succ, Array.replicate_zero, List.push_toArray, List.append_toArray, List.nil_append, List.cons_append]
 have hB1 := hB.kept hW
 obtain ⟨x1, f1⟩ := cell_of_box_a hB1.c1
 have HB1 := Lib.hid hB1
 have HJB := Lib.hid hJB
 clear hB1 hJB hB
 gi_wp2
 clear x1 f1
 gi_loopw [7] (fun _ wr => ∃ (k : Nat) (t : ByteArray), ItB wr b1 b2 b3 t /\ t.size <= 1000000 /\ spl t.data.toList = (spl s.data.toList).drop k /\ J k wr) (fun _ wr => boxLen wr b2)
 case atStart => exact ⟨0, s, HB1.out, hs, rfl, h0⟩
 case round =>
  obtain ⟨k, t, hb, hts, hsp, hJk⟩ := hrel; obtain ⟨x1, f1⟩ := cell_of_box_a hb.c1; obtain ⟨x2, f2⟩ := cell_of_box_a hb.c2; obtain ⟨x3, f3⟩ := cell_of_box_a hb.c3; have HI := Lib.hid (fun W => slIndex t W); have hbl := boxLen_is x2; have HIB := Lib.hid hb; have HSP := Lib.hid hsp; rcases ib_cases t.data.toList with hm | ⟨j, hj⟩
  · have hfs := spl_miss hm
    rw [hsp] at hfs; obtain ⟨g1, g2, g3⟩ := drop_cons hfs
    have hlast : k + 1 = (spl s.data.toList).length := by
      have := congrArg List.length g2; simp at this; omega
    rw [hm] at HI; have hyk := hY k _ wr g1 hJk; rw [toArr] at hyk; obtain ⟨fn, tmps, assign, body, hy, hR2⟩ := hyk; have HL := Lib.hid hlast; clear hsp hfs g1 g2 hb hm hlast; gi_wp2_with (refine ⟨trivial, ?_⟩; gi_at_call 142; refine (callsIn_wide.2 (HI.out _)).mono ?_; rintro e w' ⟨rfl, rfl⟩); refine hR2.mono ?_; rintro e W3 (⟨rfl, hJ3, hk3⟩ | ⟨rfl, hJ3⟩)
    · gi_wp2
      go_end0; rw [HL.out] at hJ3; exact ⟨⟨_, rfl⟩, .inl hJ3⟩
    · gi_wp2
      go_end0; exact ⟨⟨_, rfl⟩, .inr hJ3⟩
  · obtain ⟨hjs, hfs⟩ := spl_hit hj
    rw [hsp] at hfs; obtain ⟨g1, g2, g3⟩ := drop_cons hfs; rw [hj] at HI; have hyk := hY k _ wr g1 hJk; rw [toArr] at hyk; obtain ⟨fn, tmps, assign, body, hy, hR2⟩ := hyk; have HG2 := Lib.hid g2; have hjn : decide ((j : Int) < 0) = false := (by simp); have hrem : (t.extract (j + 1) t.size).size < t.size := (by rw [ByteArray.size_extract]; omega); clear hsp hfs g1 g2 hb hj; gi_wp2_with (refine ⟨trivial, ?_⟩; gi_at_call 142; refine (callsIn_wide.2 (HI.out _)).mono ?_; rintro e w' ⟨rfl, rfl⟩); refine hR2.mono ?_; clear x1 f1 x2 f2 x3 f3; rintro e W3 (⟨rfl, hJ3, hk3⟩ | ⟨rfl, hJ3⟩)
    · have hb3 := HIB.out.kept hk3
      obtain ⟨x1, f1⟩ := cell_of_box_a hb3.c1; obtain ⟨x2, f2⟩ := cell_of_box_a hb3.c2; obtain ⟨x3, f3⟩ := cell_of_box_a hb3.c3; have HB3 := Lib.hid hb3; clear hb3; gi_wp2; go_roundw
      case rel => exact ⟨k + 1, t.extract (j + 1) t.size, HB3.out.put n1 n3 _, by omega, HG2.out.symm, HJB.out _ _ _ hJ3⟩
      case measure =>
       rw [boxLen_is (World.cell?_setCell_same' _ _ _ (by rw [x2]; rfl)), hbl]; exact hrem
    · gi_wp2
      refine bodyPost_ret (results_none rfl _ _ _) rfl ?_; exact ⟨⟨_, rfl⟩, .inr hJ3⟩
end Go.Proofs.YtoghoddjkdoohaaGreatDoor
