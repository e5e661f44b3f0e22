/- Walks and laws that the claim's theorem leans on: part 22. -/
import Derived.Test.YtoghoddjkdoohaaGreatDoorZKn1
import Derived.Test.YtoghoddjkdoohaaGreatDoorZKn12
import Derived.Test.YtoghoddjkdoohaaGreatDoorZKn21
import Derived.RangeFuncCalls
namespace Go.Proofs.YtoghoddjkdoohaaGreatDoor
set_option maxHeartbeats 8000000
set_option maxRecDepth 100000
open Go.RowKit Go.Maps Go.Sort Go.Shelf Go.Proofs
set_option linter.unusedVariables false
set_option linter.unusedSimpArgs false
theorem slsplitSeq (s : ByteArray) (w : World) : Calls Tryz.prog 113 #[.string s, .string ⟨#[44]⟩, .int .i64 0] w fun ro w' => ro = .returned (.func (.func 140) #[] #[.pointer (some ⟨w.heap.size + 1, 0, none⟩), .pointer (some ⟨w.heap.size, 0, none⟩), .pointer (some ⟨w.heap.size + 2, 0, none⟩)]) /\ w' = ((w.alloc (.cells #[.string s] 9)).alloc (.cells #[.string ⟨#[44]⟩] 9)).alloc (.cells #[.int .i64 0] 3) := by
 go_enter Tryz.func113, Tryz.ntmps113
 go_wp2_with fail
 go_ret
 exact ⟨rfl, rfl⟩
theorem slSplitSeq (s : ByteArray) (w : World) : Calls Tryz.prog 76 #[.string s, .string ⟨#[44]⟩] w fun ro w' => ro = .returned (.func (.func 140) #[] #[.pointer (some ⟨w.heap.size + 1, 0, none⟩), .pointer (some ⟨w.heap.size, 0, none⟩), .pointer (some ⟨w.heap.size + 2, 0, none⟩)]) /\ w' = ((w.alloc (.cells #[.string s] 9)).alloc (.cells #[.string ⟨#[44]⟩] 9)).alloc (.cells #[.int .i64 0] 3) := by
 go_enter Tryz.func76, Tryz.ntmps76
 go_wp2_with fail
 refine (slsplitSeq s _).mono ?_
 rintro e w' ⟨rfl, rfl⟩
 go_wp2_with fail
 go_ret
 exact ⟨rfl, rfl⟩
def Bx (W : World) (B : Nat) (v : Value) (t : TypeId) : Prop := W.heap[B]? = some (.cells #[v] t (0, 0))
theorem Bx.far {W : World} {B : Nat} {v : Value} {t : TypeId} (h : Bx W B v t) {a : Addr} (hn : B ≠ a.block) (u : Value) : Bx (W.setCell a u) B v t := (Below.heap_setCell W a u B hn).trans h
theorem Bx.put {W : World} {B : Nat} {v : Value} {t : TypeId} (h : Bx W B v t) (u : Value) : Bx (W.setCell ⟨B, 0, none⟩ u) B u t := heap_setCell_box_a u h
theorem Bx.lt {W : World} {B : Nat} {v : Value} {t : TypeId} (h : Bx W B v t) : B < W.heap.size := (Array.getElem?_eq_some_iff.1 h).1
theorem Bx.kept {W W' : World} {B : Nat} {v : Value} {t : TypeId} (h : Bx W B v t) (e : W'.heap[B]? = W.heap[B]?) : Bx W' B v t := e.trans h
theorem Bx.cell {W : World} {B : Nat} {v : Value} {t : TypeId} (h : Bx W B v t) : W.cell? ⟨B, 0, none⟩ = some v := (cell_of_box_a h).1
theorem Bx.fz {W : World} {B : Nat} {v : Value} {t : TypeId} (h : Bx W B v t) : W.frozen? ⟨B, 0, none⟩ = false := (cell_of_box_a h).2
theorem Bx.dn {W W' : World} {B : Nat} {v : Value} {t : TypeId} (h : Bx W B v t) (q : Dn W W') : Bx W' B v t := h.kept (q.below.block B h.lt)
def rfOf? : Code -> Option (Code × Code)
 | .rangeFunc _ _ x y => some (x, y)
 | .seq a b => match rfOf? a with
   | some r => some r
   | none => rfOf? b
 | .block _ c => rfOf? c
 | _ => none
def psPick (b : Option Code) : Code × Code := match b with
 | some c => (rfOf? c).getD (.skip, .skip)
 | none => (.skip, .skip)
def psRec (cA cB : Code) (fn : FuncId) (s : ByteArray) (sv : Value) (A2 A3 A4 A5 D : Nat) (st : LoopState) (pend : Option Code) : Loop :=
 { state := st, pending := pend, fn, tmps := #[.string s, undef, .pointer (some ⟨A2, 0, none⟩), .pointer (some ⟨A3, 0, none⟩), .pointer (some ⟨A4, 0, none⟩), .pointer (some ⟨A5, 0, none⟩), undef, undef, undef, .string s, .int .i64 s.size, .bool false, .string s, .bool false, .string s, sv, undef, undef, undef, undef, undef, undef, undef, undef, undef, undef, undef, undef, undef, undef, undef, undef, undef, undef, undef, undef, undef, undef, undef, undef, undef], params := #[16], assign := cA, body := cB, defers := D }
structure PsB (A2 A3 A4 A5 b1 b2 b3 D l : Nat) : Prop where
 n23 : A2 ≠ A3
 n24 : A2 ≠ A4
 n25 : A2 ≠ A5
 n34 : A3 ≠ A4
 n35 : A3 ≠ A5
 n45 : A4 ≠ A5
 x2 : A2 < D
 x3 : A3 < D
 x4 : A4 < D
 x5 : A5 < D
 y1 : b1 < D
 y2 : b2 < D
 y3 : b3 < D
 z12 : b1 ≠ A2 /\ b2 ≠ A2 /\ b3 ≠ A2
 z13 : b1 ≠ A3 /\ b2 ≠ A3 /\ b3 ≠ A3
 z14 : b1 ≠ A4 /\ b2 ≠ A4 /\ b3 ≠ A4
 z15 : b1 ≠ A5 /\ b2 ≠ A5 /\ b3 ≠ A5
 dl : D < l
structure PsQ (R0 : LoopState -> Option Code -> Loop) (w0 : World) (ys : List (Rq × Int)) (A2 A3 A4 A5 D l : Nat) (k : Nat) (W : World) : Prop where
 b2 : Bx W A2 (.slice none 0 0) 22
 b3 : Bx W A3 (.int .i64 0) 24
 b4 : ∃ v, Bx W A4 v 22 /\ OwnQ W D v ((ys.take k).map (·.1))
 b5 : Bx W A5 (.int .i64 (firstE (ys.take k))) 24
 L : W.heap[l]? = some (.loop (R0 .ready none))
 K : W.heap[D]? = some (.deferred (some []))
 below : Below w0.heap.size w0 W
 g : Gat ys k
structure PsX (R0 : LoopState -> Option Code -> Loop) (w0 : World) (ys : List (Rq × Int)) (A2 A3 D l : Nat) (W : World) : Prop where
 e : prsE ys = 5 /\ prsR ys = []
 b2 : Bx W A2 (.slice none 0 0) 22
 b3 : Bx W A3 (.int .i64 5) 24
 L : W.heap[l]? = some (.loop (R0 .done (some .ret)))
 K : W.heap[D]? = some (.deferred (some []))
 below : Below w0.heap.size w0 W
def PsIs (x : ByteArray) (y : Rq × Int) : Prop := ∀ W, EnvR W -> Calls Tryz.prog 77 #[.string x] W fun o w' => o = .returned (.tuple #[.agg #[.int .i8 y.1.a, .int .i64 y.1.b, .int .i8 y.1.c, .int .i64 y.1.d], .int .i64 y.2]) /\ Dn W w'
theorem below_set {w0 W : World} (h : Below w0.heap.size w0 W) {B : Nat} (hB : w0.heap.size <= B) (v : Value) : Below w0.heap.size w0 (W.setCell ⟨B, 0, none⟩ v) := h.grown (grownBy_setCell0_a _ _ _) h.size (fun k e => by cases e; exact hB)
theorem row_ne {W : World} {D : Nat} {v : Value} {L : List Rq} (h : OwnQ W D v L) {B : Nat} (hB : B < D) : v.ownBlock ≠ some B := fun e => by have := (h.row B e).1; omega
theorem own_box {W : World} {D B : Nat} {v : Value} {L : List Rq} (h : OwnQ W D v L) (hB : B < D) (u : Value) : OwnQ (W.setCell ⟨B, 0, none⟩ u) D v L := h.kept (grownBy_setCell0_a W B u) (fun k e => by cases e; exact hB)
theorem own_not {W : World} {D : Nat} {v : Value} {L : List Rq} (h : OwnQ W D v L) {j : Nat} {o : Obj} (ho : W.heap[j]? = some o) (hn : ∀ cur, o ≠ .cells cur 45 (0, 0)) : v.ownBlock ≠ some j := fun e => by
 rcases ownsRow_ne_a h.own ho hn with e2 | e2
 · rw [e2] at e; cases e
 · exact e2 e
theorem own_put {W : World} {D : Nat} {v : Value} {L : List Rq} (h : OwnQ W D v L) {l : Nat} {r : Loop} (hl : W.heap[l]? = some (.loop r)) (o : Obj) : OwnQ (W.putObj l o) D v L :=
 ⟨h.own.kept (grownBy_putObj_a W l o) (ownsRow_ne_a h.own hl (fun cur e => by cases e))⟩
theorem ps_rec {R0 : LoopState -> Option Code -> Loop} {cA cB : Code} {fn : FuncId} {s : ByteArray} {sv : Value} {A2 A3 A4 A5 D l : Nat} (hR : R0 = psRec cA cB fn s sv A2 A3 A4 A5 D) {W0 : World} (hL : W0.heap[l]? = some (.loop (R0 .ready none))) (x : ByteArray) :
  (Instr.yield l #[.string x]).run Tryz.prog W0 = .ok (.round l fn #[.string s, undef, .pointer (some ⟨A2, 0, none⟩), .pointer (some ⟨A3, 0, none⟩), .pointer (some ⟨A4, 0, none⟩), .pointer (some ⟨A5, 0, none⟩), undef, undef, undef, .string s, .int .i64 s.size, .bool false, .string s, .bool false, .string s, sv, .string x, undef, undef, undef, undef, undef, undef, undef, undef, undef, undef, undef, undef, undef, undef, undef, undef, undef, undef, undef, undef, undef, undef, undef, undef] cA cB) W0 /\
  (Instr.beginRound l).run Tryz.prog W0 = .ok () (W0.putObj l (.loop (R0 .busy none))) /\
  (∀ (W3 : World) (jump : Option Code), W3.heap[l]? = some (.loop (R0 .busy none)) -> (Instr.endRound l jump).run Tryz.prog W3 = .ok (.bool jump.isNone) (W3.putObj l (.loop (R0 (if jump.isNone then .ready else .done) jump)))) := by
 subst hR
 exact ⟨by simpa [psRec] using run_yield (P := Tryz.prog) (args := #[.string x]) hL rfl, run_beginRound (P := Tryz.prog) hL rfl, fun W3 jump h => run_endRound (P := Tryz.prog) jump h⟩
theorem heap_far {W : World} {B : Nat} {v : Value} {j : Nat} (hn : j ≠ B) : (W.setCell ⟨B, 0, none⟩ v).heap[j]? = W.heap[j]? := Below.heap_setCell W ⟨B, 0, none⟩ v j hn
theorem hv_dn {W W' : World} {D : Nat} {v : Value} {L : List Rq} (h : OwnQ W D v L) (q : Dn W W') : OwnQ W' D v L := h.dn q
theorem run_new (w : World) (arr : Array Value) (t : TypeId) (j : Nat) (u : Value) (h : arr[j]? = some u) : (w.alloc (.cells arr t)).cell? ⟨w.heap.size, j, none⟩ = some u := by simp [go_sem]; exact h
theorem psq_five (cA cB : Code) (hAB : psPick Tryz.f34.body = (cA, cB)) (w0 : World) (hE : EnvR w0) (fn : FuncId) (s : ByteArray) (sv : Value) (A2 A3 A4 A5 b1 b2 b3 D l : Nat) (hB : PsB A2 A3 A4 A5 b1 b2 b3 D l) (h2 : w0.heap.size <= A2) (h3 : w0.heap.size <= A3) (h4 : w0.heap.size <= A4) (h5' : w0.heap.size <= A5) (hD : w0.heap.size <= D) (R0 : LoopState -> Option Code -> Loop) (hR : R0 = psRec cA cB fn s sv A2 A3 A4 A5 D)
  (ys : List (Rq × Int)) (hlen : ys.length <= 100000) (k : Nat) (x : ByteArray) (xa xb xc xd r : Int) (hy : ys[k]? = some (⟨xa, xb, xc, xd⟩, r)) (HP : Hid (PsIs x (⟨xa, xb, xc, xd⟩, r))) (h5 : r = 5) (W0 : World) (h : PsQ R0 w0 ys A2 A3 A4 A5 D l k W0) :
  YieldAt Fence.wide 1 Tryz.prog l #[.string x] W0 fun e W' => (e = .returned (.bool true) /\ PsQ R0 w0 ys A2 A3 A4 A5 D l (k + 1) W' /\ KeepB b1 b2 b3 W0 W') \/ (e = .returned (.bool false) /\ PsX R0 w0 ys A2 A3 D l W') := by
 obtain ⟨hy1, hbr, hend⟩ := ps_rec hR h.L x
 clear hR
 refine ⟨fn, _, cA, cB, hy1, roundIn_of_wpIn trivial ?_⟩
 have hl : l < W0.heap.size := (Array.getElem?_eq_some_iff.1 h.L).1
 obtain ⟨W2, hW2⟩ : ∃ W2, W0.putObj l (.loop (R0 .busy none)) = W2 := ⟨_, rfl⟩
 rw [hW2] at hbr
 obtain ⟨hlD, hx2, hx3, hx4, hx5⟩ := And.intro hB.dl (And.intro hB.x2 (And.intro hB.x3 (And.intro hB.x4 hB.x5)))
 have hoth : ∀ j, j ≠ l -> W2.heap[j]? = W0.heap[j]? := fun j hj => by rw [<- hW2]; exact World.putObj_heap_other hj
 have hsz : W2.heap.size = W0.heap.size := by rw [<- hW2]; simp [World.putObj]
 have k2 := h.b2.kept (hoth A2 (by omega))
 have k3 := h.b3.kept (hoth A3 (by omega))
 obtain ⟨v, k4', hv'⟩ := h.b4
 have k4 := k4'.kept (hoth A4 (by omega))
 have k5 := h.b5.kept (hoth A5 (by omega))
 have hv : OwnQ W2 D v ((ys.take k).map (·.1)) := by rw [<- hW2]; exact own_put hv' h.L _
 have hK2 : W2.heap[D]? = some (.deferred (some [])) := (hoth D (by omega)).trans h.K
 have hL2 : W2.heap[l]? = some (.loop (R0 .busy none)) := by rw [<- hW2]; exact World.putObj_heap_same hl
 have hb2 : Below w0.heap.size w0 W2 := by rw [<- hW2]; exact h.below.grown (grownBy_putObj_a _ _ _) h.below.size (fun k e => by cases e; omega)
 have HE2 := Lib.hid (hE.dn ⟨hb2⟩)
 have HG := Lib.hid h.g
 have HOTH := Lib.hid hoth
 have HEND := Lib.hid hend
 clear hW2 h hv' k4' hy1 hoth hend
 unfold PsIs at HP
 dsimp only at HP
 obtain ⟨eA, eB⟩ : cA = (psPick Tryz.f34.body).1 /\ cB = (psPick Tryz.f34.body).2 := by rw [hAB]; exact ⟨rfl, rfl⟩
 rw [eA, eB]
 dsimp only [psPick, rfOf?, Option.getD, Tryz.f34]
 clear hAB eA eB
 have HB2 := Lib.hid hb2
 have HK2 := Lib.hid k2
 have HK3 := Lib.hid k3
 have HK4 := Lib.hid k4
 have HK5 := Lib.hid k5
 have HV := Lib.hid hv
 have HL2 := Lib.hid hL2
 have HKD := Lib.hid hK2
 clear k2 k3 k4 k5 hv hL2 hK2 hb2
 gi_wp2_with gi_round_op_a
 refine ⟨W2, hbr, ?_⟩
 gi_wp2_with gi_round_op_a
 refine ⟨trivial, ?_⟩
 gi_at_call 77
 refine (CallsIn.inRound l (callsIn_wide.2 (HP.out _ HE2.out))).mono ?_
 rintro e w2 ⟨rfl, q2⟩
 have qa := q2.trans ((Dn.refl _).alloc (.cells #[.int .i8 xa, .int .i64 xb, .int .i8 xc, .int .i64 xd] 45))
 subst h5
 have HM2 := Lib.hid (HK2.out.dn qa)
 have HM3 := Lib.hid ((HK3.out.dn qa).far (a := ⟨A2, 0, none⟩) (Ne.symm hB.n23) (.slice none 0 0))
 have z2 := HM2.out.cell
 have z3 := HM3.out.cell
 have y2 := HM2.out.fz
 have y3 := HM3.out.fz
 have HBB := Lib.hid hB
 clear hB
 gi_wp2_with gi_round_op_a
 have hB := HBB.out
 clear z2 z3 y2 y3
 have e5 : ∀ j, j < W2.heap.size -> j ≠ A2 -> j ≠ A3 -> (((w2.alloc (.cells #[.int .i8 xa, .int .i64 xb, .int .i8 xc, .int .i64 xd] 45)).setCell ⟨A2, 0, none⟩ (.slice none 0 0)).setCell ⟨A3, 0, none⟩ (.int .i64 5)).heap[j]? = W2.heap[j]? := fun j hj n2 n3 => (heap_far n3).trans ((heap_far n2).trans (qa.below.block j hj))
 have hl5 := (e5 l (by omega) (by omega) (by omega)).trans HL2.out
 have p2 := (HM2.out.put (.slice none 0 0)).far (a := ⟨A3, 0, none⟩) hB.n23 (.int .i64 5)
 have p3 := HM3.out.put (.int .i64 5)
 have hDs : D < W2.heap.size := (Array.getElem?_eq_some_iff.1 HKD.out).1
 have hb5 := below_set (below_set ((⟨HB2.out⟩ : Dn w0 W2).trans qa).below h2 (.slice none 0 0)) h3 (.int .i64 5)
 refine ⟨_, _, HEND.out _ (some .ret) hl5, .inr ⟨rfl, ?_⟩⟩
 exact ⟨gat_bad hy rfl, p2.kept (World.putObj_heap_other (by omega)), p3.kept (World.putObj_heap_other (by omega)), World.putObj_heap_same (Array.getElem?_eq_some_iff.1 hl5).1, (World.putObj_heap_other (by omega)).trans ((e5 D hDs (by omega) (by omega)).trans HKD.out), hb5.grown (grownBy_putObj_a _ _ _) hb5.size (fun k e => by cases e; omega)⟩
theorem psq_zero (cA cB : Code) (hAB : psPick Tryz.f34.body = (cA, cB)) (w0 : World) (hE : EnvR w0) (fn : FuncId) (s : ByteArray) (sv : Value) (A2 A3 A4 A5 b1 b2 b3 D l : Nat) (hB : PsB A2 A3 A4 A5 b1 b2 b3 D l) (h2 : w0.heap.size <= A2) (h3 : w0.heap.size <= A3) (h4 : w0.heap.size <= A4) (h5' : w0.heap.size <= A5) (hD : w0.heap.size <= D) (R0 : LoopState -> Option Code -> Loop) (hR : R0 = psRec cA cB fn s sv A2 A3 A4 A5 D)
   (ys : List (Rq × Int)) (hlen : ys.length <= 100000) (k : Nat) (x : ByteArray) (xa xb xc xd r : Int) (hy : ys[k]? = some (⟨xa, xb, xc, xd⟩, r)) (HP : Hid (PsIs x (⟨xa, xb, xc, xd⟩, r))) (h5 : r ≠ 5) (hf : firstE (ys.take k) = 0) (W0 : World) (h : PsQ R0 w0 ys A2 A3 A4 A5 D l k W0) :
   YieldAt Fence.wide 1 Tryz.prog l #[.string x] W0 fun e W' => (e = .returned (.bool true) /\ PsQ R0 w0 ys A2 A3 A4 A5 D l (k + 1) W' /\ KeepB b1 b2 b3 W0 W') \/ (e = .returned (.bool false) /\ PsX R0 w0 ys A2 A3 D l W') := by
 obtain ⟨hy1, hbr, hend⟩ := ps_rec hR h.L x
 clear hR
 refine ⟨fn, _, cA, cB, hy1, roundIn_of_wpIn trivial ?_⟩
 have hl : l < W0.heap.size := (Array.getElem?_eq_some_iff.1 h.L).1
 obtain ⟨W2, hW2⟩ : ∃ W2, W0.putObj l (.loop (R0 .busy none)) = W2 := ⟨_, rfl⟩
 rw [hW2] at hbr
 obtain ⟨hlD, hx2, hx3, hx4, hx5⟩ := And.intro hB.dl (And.intro hB.x2 (And.intro hB.x3 (And.intro hB.x4 hB.x5)))
 have hoth : ∀ j, j ≠ l -> W2.heap[j]? = W0.heap[j]? := fun j hj => by rw [<- hW2]; exact World.putObj_heap_other hj
 have hsz : W2.heap.size = W0.heap.size := by rw [<- hW2]; simp [World.putObj]
 have k2 := h.b2.kept (hoth A2 (by omega))
 have k3 := h.b3.kept (hoth A3 (by omega))
 obtain ⟨v, k4', hv'⟩ := h.b4
 have k4 := k4'.kept (hoth A4 (by omega))
 have k5 := h.b5.kept (hoth A5 (by omega))
 have hv : OwnQ W2 D v ((ys.take k).map (·.1)) := by rw [<- hW2]; exact own_put hv' h.L _
 have hK2 : W2.heap[D]? = some (.deferred (some [])) := (hoth D (by omega)).trans h.K
 have hL2 : W2.heap[l]? = some (.loop (R0 .busy none)) := by rw [<- hW2]; exact World.putObj_heap_same hl
 have hb2 : Below w0.heap.size w0 W2 := by rw [<- hW2]; exact h.below.grown (grownBy_putObj_a _ _ _) h.below.size (fun k e => by cases e; omega)
 have HE2 := Lib.hid (hE.dn ⟨hb2⟩)
 have HG := Lib.hid h.g
 have HOTH := Lib.hid hoth
 have HEND := Lib.hid hend
 clear hW2 h hv' k4' hy1 hoth hend
 unfold PsIs at HP
 dsimp only at HP
 obtain ⟨eA, eB⟩ : cA = (psPick Tryz.f34.body).1 /\ cB = (psPick Tryz.f34.body).2 := by rw [hAB]; exact ⟨rfl, rfl⟩
 rw [eA, eB]
 dsimp only [psPick, rfOf?, Option.getD, Tryz.f34]
 clear hAB eA eB
 have HB2 := Lib.hid hb2
 have HK2 := Lib.hid k2
 have HK3 := Lib.hid k3
 have HK4 := Lib.hid k4
 have HK5 := Lib.hid k5
 have HV := Lib.hid hv
 have HL2 := Lib.hid hL2
 have HKD := Lib.hid hK2
 clear k2 k3 k4 k5 hv hL2 hK2 hb2
 gi_wp2_with gi_round_op_a
 refine ⟨W2, hbr, ?_⟩
 gi_wp2_with gi_round_op_a
 refine ⟨trivial, ?_⟩
 gi_at_call 77
 refine (CallsIn.inRound l (callsIn_wide.2 (HP.out _ HE2.out))).mono ?_
 rintro e w2 ⟨rfl, q2⟩
 have qa := q2.trans ((Dn.refl _).alloc (.cells #[.int .i8 xa, .int .i64 xb, .int .i8 xc, .int .i64 xd] 45))
 rw [hf] at HK5
 have d5 : (r == 5) = false := by simpa using h5
 have d5' : decide (r = 5) = false := by simpa using h5
 have HF := Lib.hid hf
 have H5 := Lib.hid h5
 have HY := Lib.hid hy
 clear hf h5 hy
 have hw2 := q2.size
 have hA4 := HK4.out.lt
 have hA5 := HK5.out.lt
 have hne : w2.heap.size ≠ A5 := by omega
 have hDs : D < W2.heap.size := (Array.getElem?_eq_some_iff.1 HKD.out).1
 have hOwn0 : OwnQ ((w2.alloc (.cells #[.int .i8 xa, .int .i64 xb, .int .i8 xc, .int .i64 xd] 45)).setCell ⟨A5, 0, none⟩ (.int .i64 r)) D v ((ys.take k).map (·.1)) := own_box (hv_dn HV.out qa) hx5 _
 have HM5 := Lib.hid (HK5.out.dn qa)
 have HM4 := Lib.hid ((HK4.out.dn qa).far (a := ⟨A5, 0, none⟩) hB.n45 (.int .i64 r))
 have z5 := HM5.out.cell
 have y5 := HM5.out.fz
 have z4 := HM4.out.cell
 have y4 := HM4.out.fz
 have hrun : ∀ j u, (#[.int .i8 xa, .int .i64 xb, .int .i8 xc, .int .i64 xd] : Array Value)[j]? = some u -> ((w2.alloc (.cells #[.int .i8 xa, .int .i64 xb, .int .i8 xc, .int .i64 xd] 45)).setCell ⟨A5, 0, none⟩ (.int .i64 r)).cell? ⟨w2.heap.size, j, none⟩ = some u := fun j u hj => (World.cell?_of_block (heap_far hne)).trans (run_new w2 _ _ j u hj)
 have x0 := hrun 0 _ rfl
 have x1 := hrun 1 _ rfl
 have x2 := hrun 2 _ rfl
 have x3 := hrun 3 _ rfl
 clear hrun
 obtain ⟨i0, hi, hz0, hz1, hz2⟩ := info_parts infoRun
 have HOWN0 := Lib.hid hOwn0
 have hsx : D <= ((w2.alloc (.cells #[.int .i8 xa, .int .i64 xb, .int .i8 xc, .int .i64 xd] 45)).setCell ⟨A5, 0, none⟩ (.int .i64 r)).heap.size := by simp; omega
 have esz : ((w2.alloc (.cells #[.int .i8 xa, .int .i64 xb, .int .i8 xc, .int .i64 xd] 45)).setCell ⟨A5, 0, none⟩ (.int .i64 r)).heap.size = w2.heap.size + 1 := by simp
 have hcell : ∀ j u, (qc ⟨xa, xb, xc, xd⟩)[j]? = some u -> (((w2.alloc (.cells #[.int .i8 xa, .int .i64 xb, .int .i8 xc, .int .i64 xd] 45)).setCell ⟨A5, 0, none⟩ (.int .i64 r)).alloc (.cells #[.int .i8 xa, .int .i64 xb, .int .i8 xc, .int .i64 xd] 45)).cell? ((⟨w2.heap.size + 1, 0, none⟩ : Addr).add j) = some u := by
   intro j u hj; have h := run_new ((w2.alloc (.cells #[.int .i8 xa, .int .i64 xb, .int .i8 xc, .int .i64 xd] 45)).setCell ⟨A5, 0, none⟩ (.int .i64 r)) #[.int .i8 xa, .int .i64 xb, .int .i8 xc, .int .i64 xd] 45 j u (by simpa [qc] using hj); rw [esz] at h
   have hadd : (⟨w2.heap.size + 1, 0, none⟩ : Addr).add j = ⟨w2.heap.size + 1, j, none⟩ := by unfold Addr.add; split <;> simp_all
   rw [hadd]; exact h
 have hone : ∀ u ∈ qc ⟨xa, xb, xc, xd⟩, u.oneCell' = true := by intro u hu; simp [qc] at hu; rcases hu with rfl | rfl | rfl | rfl <;> rfl
 have hlk : ((ys.take k).map (·.1)).length <= 100000 := by simp; omega
 have HC := Lib.hid hcell
 have HO := Lib.hid hone
 have H63 := Lib.hid (show ((ys.take k).map (·.1)).length + 1 <= maxLen by unfold maxLen; omega)
 have HBY := Lib.hid (show (((ys.take k).map (·.1)).length + 1) * 32 <= 140737488355328 by omega)
 have HBA := Lib.hid (show D <= (((w2.alloc (.cells #[.int .i8 xa, .int .i64 xb, .int .i8 xc, .int .i64 xd] 45)).setCell ⟨A5, 0, none⟩ (.int .i64 r)).alloc (.cells #[.int .i8 xa, .int .i64 xb, .int .i8 xc, .int .i64 xd] 45)).heap.size by simp; omega)
 have HLEN := Lib.hid hlen
 have HBB := Lib.hid hB
 have HQA := Lib.hid qa
 have HSX := Lib.hid hsx
 clear hcell hone hOwn0 hsx hlk hlen hB qa esz
 gi_wp2_with (first | (gi_at_builtin; go_loud (refine wpListIn_append_own _ rfl _ _ 22 rfl D 45 i0 _ 4 32 Tryz.underlying22 hi hz0 hz1 hz2 rfl (by decide) _ _ _ rfl (HOWN0.out.own.alloc _) ⟨w2.heap.size + 1, 0, none⟩ 1 1 (qc ⟨xa, xb, xc, xd⟩) rfl rfl HC.out HO.out H63.out HBY.out HBA.out ?_)) | gi_round_op_a)
 intro v' w3 hown' hg3 hnil3
 have hB := HBB.out
 have qa := HQA.out
 have hg4 : ((w2.alloc (.cells #[.int .i8 xa, .int .i64 xb, .int .i8 xc, .int .i64 xd] 45)).setCell ⟨A5, 0, none⟩ (.int .i64 r)).grownBy w3 v.ownBlock := grown_trans (World.grownBy_alloc _ _ v.ownBlock) hg3
 have n4 := HM4.out.kept (W' := w3) (hg4.block A4 HM4.out.lt (fun e => row_ne HOWN0.out hx4 e.symm))
 have HN4 := Lib.hid n4
 have hown3 : OwnQ w3 D v' (((ys.take k).map (·.1)) ++ [⟨xa, xb, xc, xd⟩]) := ⟨by simpa using hown'⟩
 obtain ⟨g', nn, cap', rfl⟩ : ∃ g' nn cap', v' = .slice (some ⟨g', 0, none⟩) nn cap' := by
   rcases hown3.form with ⟨_, e⟩ | ⟨g, cap, e, _⟩
   · simp at e
   · exact ⟨_, _, _, e⟩
 have HOW3 := Lib.hid hown3
 have HG4 := Lib.hid hg4
 clear z4 y4 z5 y5 x0 x1 x2 x3 hnil3 hg3 hown' hown3 hg4
 have z4' := n4.cell
 have y4' := n4.fz
 clear n4
 gi_wp2_with gi_round_op_a
 clear z4' y4'
 have hXs : w2.heap.size <= ((w2.alloc (.cells #[.int .i8 xa, .int .i64 xb, .int .i8 xc, .int .i64 xd] 45)).setCell ⟨A5, 0, none⟩ (.int .i64 r)).heap.size := by simp <;> omega
 have e4 : ∀ j, j < W2.heap.size -> j ≠ A5 -> j ≠ A4 -> v.ownBlock ≠ some j -> (w3.setCell ⟨A4, 0, none⟩ (.slice (some ⟨g', 0, none⟩) nn cap')).heap[j]? = W2.heap[j]? := fun j hj n5 n4 nv => (heap_far n4).trans ((HG4.out.block j (by omega) (fun e => nv e.symm)).trans ((heap_far n5).trans (qa.below.block j hj)))
 have hl3 := (e4 l (by omega) (by omega) (by omega) (own_not HV.out HL2.out (fun cur e => by cases e))).trans HL2.out
 have hD3 := (e4 D hDs (by omega) (by omega) (own_not HV.out HKD.out (fun cur e => by cases e))).trans HKD.out
 have hA2 := HK2.out.lt
 have hA3 := HK3.out.lt
 have p2 := HK2.out.kept (e4 A2 hA2 hB.n25 hB.n24 (row_ne HV.out hx2))
 have p3 := HK3.out.kept (e4 A3 hA3 hB.n35 hB.n34 (row_ne HV.out hx3))
 have p4 := HN4.out.put (.slice (some ⟨g', 0, none⟩) nn cap')
 have p5 := ((HM5.out.put (.int .i64 r)).kept (W' := w3) (HG4.out.block A5 (by omega) (fun e => row_ne HOWN0.out hx5 e.symm))).far (a := ⟨A4, 0, none⟩) (Ne.symm hB.n45) (.slice (some ⟨g', 0, none⟩) nn cap')
 have hown4 := own_box HOW3.out hx4 (.slice (some ⟨g', 0, none⟩) nn cap')
 have hbX : Below w0.heap.size w0 ((w2.alloc (.cells #[.int .i8 xa, .int .i64 xb, .int .i8 xc, .int .i64 xd] 45)).setCell ⟨A5, 0, none⟩ (.int .i64 r)) := below_set ((⟨HB2.out⟩ : Dn w0 W2).trans qa).below h5' (.int .i64 r)
 have hb3 : Below w0.heap.size w0 w3 := hbX.grown HG4.out hbX.size (fun j e => by have := (HOWN0.out.row j e).1; omega)
 have hb4 := below_set hb3 h4 (.slice (some ⟨g', 0, none⟩) nn cap')
 have hll : l < (w3.setCell ⟨A4, 0, none⟩ (.slice (some ⟨g', 0, none⟩) nn cap')).heap.size := (Array.getElem?_eq_some_iff.1 hl3).1
 have kb : ∀ b, b < D -> b ≠ A5 -> b ≠ A4 -> ((w3.setCell ⟨A4, 0, none⟩ (.slice (some ⟨g', 0, none⟩) nn cap')).putObj l (.loop (R0 .ready none))).heap[b]? = W0.heap[b]? := fun b hb n5 n4 => (World.putObj_heap_other (by omega)).trans ((e4 b (by omega) n5 n4 (row_ne HV.out hb)).trans (HOTH.out b (by omega)))
 refine ⟨_, _, HEND.out _ none hl3, .inl ⟨rfl, ?_, kb b1 hB.y1 hB.z15.1 hB.z14.1, kb b2 hB.y2 hB.z15.2.1 hB.z14.2.1, kb b3 hB.y3 hB.z15.2.2 hB.z14.2.2⟩⟩
 refine ⟨p2.kept (World.putObj_heap_other (by omega)), p3.kept (World.putObj_heap_other (by omega)), ⟨_, p4.kept (World.putObj_heap_other (by omega)), ?_⟩, ?_, World.putObj_heap_same hll, (World.putObj_heap_other (by omega)).trans hD3, hb4.grown (grownBy_putObj_a _ _ _) hb4.size (fun k e => by cases e; omega), gat_step HG.out HY.out H5.out⟩
 · rw [fst_at HY.out]; exact own_put hown4 hl3 _
 · rw [firstE_at HY.out, if_pos HF.out]; exact p5.kept (World.putObj_heap_other (by omega))
theorem psq_nz (cA cB : Code) (hAB : psPick Tryz.f34.body = (cA, cB)) (w0 : World) (hE : EnvR w0) (fn : FuncId) (s : ByteArray) (sv : Value) (A2 A3 A4 A5 b1 b2 b3 D l : Nat) (hB : PsB A2 A3 A4 A5 b1 b2 b3 D l) (h2 : w0.heap.size <= A2) (h3 : w0.heap.size <= A3) (h4 : w0.heap.size <= A4) (h5' : w0.heap.size <= A5) (hD : w0.heap.size <= D) (R0 : LoopState -> Option Code -> Loop) (hR : R0 = psRec cA cB fn s sv A2 A3 A4 A5 D)
   (ys : List (Rq × Int)) (hlen : ys.length <= 100000) (k : Nat) (x : ByteArray) (xa xb xc xd r : Int) (hy : ys[k]? = some (⟨xa, xb, xc, xd⟩, r)) (HP : Hid (PsIs x (⟨xa, xb, xc, xd⟩, r))) (h5 : r ≠ 5) (hf : firstE (ys.take k) ≠ 0) (W0 : World) (h : PsQ R0 w0 ys A2 A3 A4 A5 D l k W0) :
   YieldAt Fence.wide 1 Tryz.prog l #[.string x] W0 fun e W' => (e = .returned (.bool true) /\ PsQ R0 w0 ys A2 A3 A4 A5 D l (k + 1) W' /\ KeepB b1 b2 b3 W0 W') \/ (e = .returned (.bool false) /\ PsX R0 w0 ys A2 A3 D l W') := by
 obtain ⟨hy1, hbr, hend⟩ := ps_rec hR h.L x
 clear hR
 refine ⟨fn, _, cA, cB, hy1, roundIn_of_wpIn trivial ?_⟩
 have hl : l < W0.heap.size := (Array.getElem?_eq_some_iff.1 h.L).1
 obtain ⟨W2, hW2⟩ : ∃ W2, W0.putObj l (.loop (R0 .busy none)) = W2 := ⟨_, rfl⟩
 rw [hW2] at hbr
 obtain ⟨hlD, hx2, hx3, hx4, hx5⟩ := And.intro hB.dl (And.intro hB.x2 (And.intro hB.x3 (And.intro hB.x4 hB.x5)))
 have hoth : ∀ j, j ≠ l -> W2.heap[j]? = W0.heap[j]? := fun j hj => by rw [<- hW2]; exact World.putObj_heap_other hj
 have hsz : W2.heap.size = W0.heap.size := by rw [<- hW2]; simp [World.putObj]
 have k2 := h.b2.kept (hoth A2 (by omega))
 have k3 := h.b3.kept (hoth A3 (by omega))
 obtain ⟨v, k4', hv'⟩ := h.b4
 have k4 := k4'.kept (hoth A4 (by omega))
 have k5 := h.b5.kept (hoth A5 (by omega))
 have hv : OwnQ W2 D v ((ys.take k).map (·.1)) := by rw [<- hW2]; exact own_put hv' h.L _
 have hK2 : W2.heap[D]? = some (.deferred (some [])) := (hoth D (by omega)).trans h.K
 have hL2 : W2.heap[l]? = some (.loop (R0 .busy none)) := by rw [<- hW2]; exact World.putObj_heap_same hl
 have hb2 : Below w0.heap.size w0 W2 := by rw [<- hW2]; exact h.below.grown (grownBy_putObj_a _ _ _) h.below.size (fun k e => by cases e; omega)
 have HE2 := Lib.hid (hE.dn ⟨hb2⟩)
 have HG := Lib.hid h.g
 have HOTH := Lib.hid hoth
 have HEND := Lib.hid hend
 clear hW2 h hv' k4' hy1 hoth hend
 unfold PsIs at HP
 dsimp only at HP
 obtain ⟨eA, eB⟩ : cA = (psPick Tryz.f34.body).1 /\ cB = (psPick Tryz.f34.body).2 := by rw [hAB]; exact ⟨rfl, rfl⟩
 rw [eA, eB]
 dsimp only [psPick, rfOf?, Option.getD, Tryz.f34]
 clear hAB eA eB
 have HB2 := Lib.hid hb2
 have HK2 := Lib.hid k2
 have HK3 := Lib.hid k3
 have HK4 := Lib.hid k4
 have HK5 := Lib.hid k5
 have HV := Lib.hid hv
 have HL2 := Lib.hid hL2
 have HKD := Lib.hid hK2
 clear k2 k3 k4 k5 hv hL2 hK2 hb2
 gi_wp2_with gi_round_op_a
 refine ⟨W2, hbr, ?_⟩
 gi_wp2_with gi_round_op_a
 refine ⟨trivial, ?_⟩
 gi_at_call 77
 refine (CallsIn.inRound l (callsIn_wide.2 (HP.out _ HE2.out))).mono ?_
 rintro e w2 ⟨rfl, q2⟩
 have qa := q2.trans ((Dn.refl _).alloc (.cells #[.int .i8 xa, .int .i64 xb, .int .i8 xc, .int .i64 xd] 45))
 obtain ⟨fe, hfe⟩ : ∃ fe, fe = firstE (ys.take k) := ⟨_, rfl⟩
 rw [<- hfe] at HK5
 have HFE := Lib.hid hfe
 have d6 : (fe == 0) = false := by rw [hfe]; simpa using hf
 have d6' : decide (fe = 0) = false := by rw [hfe]; simpa using hf
 clear hfe
 have d5 : (r == 5) = false := by simpa using h5
 have d5' : decide (r = 5) = false := by simpa using h5
 have HF := Lib.hid hf
 have H5 := Lib.hid h5
 have HY := Lib.hid hy
 clear hf h5 hy
 have hw2 := q2.size
 have hA4 := HK4.out.lt
 have hA5 := HK5.out.lt
 have hne : w2.heap.size ≠ A5 := by omega
 have hDs : D < W2.heap.size := (Array.getElem?_eq_some_iff.1 HKD.out).1
 have hOwn0 : OwnQ (w2.alloc (.cells #[.int .i8 xa, .int .i64 xb, .int .i8 xc, .int .i64 xd] 45)) D v ((ys.take k).map (·.1)) := hv_dn HV.out qa
 have HM5 := Lib.hid (HK5.out.dn qa)
 have HM4 := Lib.hid (HK4.out.dn qa)
 have z5 := HM5.out.cell
 have y5 := HM5.out.fz
 have z4 := HM4.out.cell
 have y4 := HM4.out.fz
 have hrun : ∀ j u, (#[.int .i8 xa, .int .i64 xb, .int .i8 xc, .int .i64 xd] : Array Value)[j]? = some u -> (w2.alloc (.cells #[.int .i8 xa, .int .i64 xb, .int .i8 xc, .int .i64 xd] 45)).cell? ⟨w2.heap.size, j, none⟩ = some u := fun j u hj => run_new w2 _ _ j u hj
 have x0 := hrun 0 _ rfl
 have x1 := hrun 1 _ rfl
 have x2 := hrun 2 _ rfl
 have x3 := hrun 3 _ rfl
 clear hrun
 obtain ⟨i0, hi, hz0, hz1, hz2⟩ := info_parts infoRun
 have HOWN0 := Lib.hid hOwn0
 have hsx : D <= (w2.alloc (.cells #[.int .i8 xa, .int .i64 xb, .int .i8 xc, .int .i64 xd] 45)).heap.size := by simp; omega
 have esz : (w2.alloc (.cells #[.int .i8 xa, .int .i64 xb, .int .i8 xc, .int .i64 xd] 45)).heap.size = w2.heap.size + 1 := by simp
 have hcell : ∀ j u, (qc ⟨xa, xb, xc, xd⟩)[j]? = some u -> ((w2.alloc (.cells #[.int .i8 xa, .int .i64 xb, .int .i8 xc, .int .i64 xd] 45)).alloc (.cells #[.int .i8 xa, .int .i64 xb, .int .i8 xc, .int .i64 xd] 45)).cell? ((⟨w2.heap.size + 1, 0, none⟩ : Addr).add j) = some u := by
   intro j u hj; have h := run_new (w2.alloc (.cells #[.int .i8 xa, .int .i64 xb, .int .i8 xc, .int .i64 xd] 45)) #[.int .i8 xa, .int .i64 xb, .int .i8 xc, .int .i64 xd] 45 j u (by simpa [qc] using hj); rw [esz] at h
   have hadd : (⟨w2.heap.size + 1, 0, none⟩ : Addr).add j = ⟨w2.heap.size + 1, j, none⟩ := by unfold Addr.add; split <;> simp_all
   rw [hadd]; exact h
 have hone : ∀ u ∈ qc ⟨xa, xb, xc, xd⟩, u.oneCell' = true := by intro u hu; simp [qc] at hu; rcases hu with rfl | rfl | rfl | rfl <;> rfl
 have hlk : ((ys.take k).map (·.1)).length <= 100000 := by simp; omega
 have HC := Lib.hid hcell
 have HO := Lib.hid hone
 have H63 := Lib.hid (show ((ys.take k).map (·.1)).length + 1 <= maxLen by unfold maxLen; omega)
 have HBY := Lib.hid (show (((ys.take k).map (·.1)).length + 1) * 32 <= 140737488355328 by omega)
 have HBA := Lib.hid (show D <= ((w2.alloc (.cells #[.int .i8 xa, .int .i64 xb, .int .i8 xc, .int .i64 xd] 45)).alloc (.cells #[.int .i8 xa, .int .i64 xb, .int .i8 xc, .int .i64 xd] 45)).heap.size by simp; omega)
 have HLEN := Lib.hid hlen
 have HBB := Lib.hid hB
 have HQA := Lib.hid qa
 have HSX := Lib.hid hsx
 clear hcell hone hOwn0 hsx hlk hlen hB qa esz
 gi_wp2_with (first | (gi_at_builtin; go_loud (refine wpListIn_append_own _ rfl _ _ 22 rfl D 45 i0 _ 4 32 Tryz.underlying22 hi hz0 hz1 hz2 rfl (by decide) _ _ _ rfl (HOWN0.out.own.alloc _) ⟨w2.heap.size + 1, 0, none⟩ 1 1 (qc ⟨xa, xb, xc, xd⟩) rfl rfl HC.out HO.out H63.out HBY.out HBA.out ?_)) | gi_round_op_a)
 intro v' w3 hown' hg3 hnil3
 have hB := HBB.out
 have qa := HQA.out
 have hg4 : (w2.alloc (.cells #[.int .i8 xa, .int .i64 xb, .int .i8 xc, .int .i64 xd] 45)).grownBy w3 v.ownBlock := grown_trans (World.grownBy_alloc _ _ v.ownBlock) hg3
 have n4 := HM4.out.kept (W' := w3) (hg4.block A4 HM4.out.lt (fun e => row_ne HOWN0.out hx4 e.symm))
 have HN4 := Lib.hid n4
 have hown3 : OwnQ w3 D v' (((ys.take k).map (·.1)) ++ [⟨xa, xb, xc, xd⟩]) := ⟨by simpa using hown'⟩
 obtain ⟨g', nn, cap', rfl⟩ : ∃ g' nn cap', v' = .slice (some ⟨g', 0, none⟩) nn cap' := by
   rcases hown3.form with ⟨_, e⟩ | ⟨g, cap, e, _⟩
   · simp at e
   · exact ⟨_, _, _, e⟩
 have HOW3 := Lib.hid hown3
 have HG4 := Lib.hid hg4
 clear z4 y4 z5 y5 x0 x1 x2 x3 hnil3 hg3 hown' hown3 hg4
 have z4' := n4.cell
 have y4' := n4.fz
 clear n4
 gi_wp2_with gi_round_op_a
 clear z4' y4'
 have hXs : w2.heap.size <= (w2.alloc (.cells #[.int .i8 xa, .int .i64 xb, .int .i8 xc, .int .i64 xd] 45)).heap.size := by simp <;> omega
 have e4 : ∀ j, j < W2.heap.size -> j ≠ A5 -> j ≠ A4 -> v.ownBlock ≠ some j -> (w3.setCell ⟨A4, 0, none⟩ (.slice (some ⟨g', 0, none⟩) nn cap')).heap[j]? = W2.heap[j]? := fun j hj n5 n4 nv => (heap_far n4).trans ((HG4.out.block j (by omega) (fun e => nv e.symm)).trans (qa.below.block j hj))
 have hl3 := (e4 l (by omega) (by omega) (by omega) (own_not HV.out HL2.out (fun cur e => by cases e))).trans HL2.out
 have hD3 := (e4 D hDs (by omega) (by omega) (own_not HV.out HKD.out (fun cur e => by cases e))).trans HKD.out
 have hA2 := HK2.out.lt
 have hA3 := HK3.out.lt
 have p2 := HK2.out.kept (e4 A2 hA2 hB.n25 hB.n24 (row_ne HV.out hx2))
 have p3 := HK3.out.kept (e4 A3 hA3 hB.n35 hB.n34 (row_ne HV.out hx3))
 have p4 := HN4.out.put (.slice (some ⟨g', 0, none⟩) nn cap')
 have p5 := (HM5.out.kept (W' := w3) (HG4.out.block A5 (by omega) (fun e => row_ne HOWN0.out hx5 e.symm))).far (a := ⟨A4, 0, none⟩) (Ne.symm hB.n45) (.slice (some ⟨g', 0, none⟩) nn cap')
 have hown4 := own_box HOW3.out hx4 (.slice (some ⟨g', 0, none⟩) nn cap')
 have hbX : Below w0.heap.size w0 (w2.alloc (.cells #[.int .i8 xa, .int .i64 xb, .int .i8 xc, .int .i64 xd] 45)) := ((⟨HB2.out⟩ : Dn w0 W2).trans qa).below
 have hb3 : Below w0.heap.size w0 w3 := hbX.grown HG4.out hbX.size (fun j e => by have := (HOWN0.out.row j e).1; omega)
 have hb4 := below_set hb3 h4 (.slice (some ⟨g', 0, none⟩) nn cap')
 have hll : l < (w3.setCell ⟨A4, 0, none⟩ (.slice (some ⟨g', 0, none⟩) nn cap')).heap.size := (Array.getElem?_eq_some_iff.1 hl3).1
 have kb : ∀ b, b < D -> b ≠ A5 -> b ≠ A4 -> ((w3.setCell ⟨A4, 0, none⟩ (.slice (some ⟨g', 0, none⟩) nn cap')).putObj l (.loop (R0 .ready none))).heap[b]? = W0.heap[b]? := fun b hb n5 n4 => (World.putObj_heap_other (by omega)).trans ((e4 b (by omega) n5 n4 (row_ne HV.out hb)).trans (HOTH.out b (by omega)))
 refine ⟨_, _, HEND.out _ none hl3, .inl ⟨rfl, ?_, kb b1 hB.y1 hB.z15.1 hB.z14.1, kb b2 hB.y2 hB.z15.2.1 hB.z14.2.1, kb b3 hB.y3 hB.z15.2.2 hB.z14.2.2⟩⟩
 refine ⟨p2.kept (World.putObj_heap_other (by omega)), p3.kept (World.putObj_heap_other (by omega)), ⟨_, p4.kept (World.putObj_heap_other (by omega)), ?_⟩, ?_, World.putObj_heap_same hll, (World.putObj_heap_other (by omega)).trans hD3, hb4.grown (grownBy_putObj_a _ _ _) hb4.size (fun k e => by cases e; omega), gat_step HG.out HY.out H5.out⟩
 · rw [fst_at HY.out]; exact own_put hown4 hl3 _
 · rw [firstE_at HY.out, if_neg HF.out, <- HFE.out]; exact p5.kept (World.putObj_heap_other (by omega))
theorem slClip (p : Option Addr) (cap : Nat) (M : List Rq) (w : World) (hcap : M.length <= cap) (hmx : cap <= 9223372036854775807) (hR : Row w p M) :
  Calls Tryz.prog 78 #[.slice p M.length cap] w fun ro w' => ro = .returned (.slice p M.length M.length) /\ Dn w w' := by
 have hcI : (M.length : Int) <= cap := by omega
 go_enter Tryz.func78, Tryz.ntmps78
 go_wp2_with fail
 go_ret
 exact ⟨rfl, Dn.refl _⟩
theorem own_row {W : World} {D n cap : Nat} {p : Option Addr} {L : List Rq} (h : OwnQ W D (.slice p n cap) L) : Row W p L := by
 obtain ⟨p', cap', e, _, hr⟩ := h.rowOf
 cases e; exact hr
theorem psq_box {R0 : LoopState -> Option Code -> Loop} {w0 : World} {ys : List (Rq × Int)} {A2 A3 A4 A5 D l k b : Nat} {W : World} (h : PsQ R0 w0 ys A2 A3 A4 A5 D l k W) (n2 : A2 ≠ b) (n3 : A3 ≠ b) (n4 : A4 ≠ b) (n5 : A5 ≠ b) (hb : b < D) (hl : D < l) (h0 : w0.heap.size <= b) (v : Value) :
  PsQ R0 w0 ys A2 A3 A4 A5 D l k (W.setCell ⟨b, 0, none⟩ v) := by
 obtain ⟨u, k4, hu⟩ := h.b4
 exact ⟨h.b2.far n2 v, h.b3.far n3 v, ⟨u, k4.far n4 v, own_box hu hb v⟩, h.b5.far n5 v, (heap_far (by omega)).trans h.L, (heap_far (by omega)).trans h.K, below_set h.below h0 v, h.g⟩
theorem own_putD {W : World} {D : Nat} {v : Value} {L : List Rq} (h : OwnQ W D v L) {l : Nat} {r : Option (List Deferred)} (hl : W.heap[l]? = some (.deferred r)) {o : Obj} : OwnQ (W.putObj l o) D v L :=
 ⟨h.own.kept (grownBy_putObj_a W l o) (ownsRow_ne_a h.own hl (fun cur e => by cases e))⟩
theorem dn_putD {w W : World} (h : Dn w W) {B : Nat} (hB : w.heap.size <= B) (o : Obj) : Dn w (W.putObj B o) := ⟨h.below.grown (grownBy_putObj_a _ _ _) h.size (fun k e => by cases e; exact hB)⟩
theorem bx_new (w : World) (v : Value) (t : TypeId) : Bx (w.alloc (.cells #[v] t)) w.heap.size v t := World.alloc_heap_new w _
theorem rsParse (s : ByteArray) (R : List Rq) (E : Int) (w : World) (hs : s.size <= 60000) (hsp : ∀ f ∈ spl s.data.toList, f.length <= 1000) (h : SP s R E) (hE : EnvR w) :
   Calls Tryz.prog 34 #[.string s] w fun ro w' => ∃ p', ro = .returned (.tuple #[.slice p' R.length R.length, .int .i64 E]) /\ Row w' p' R /\ Dn w w' := by
 rcases h with ⟨rfl, rfl, rfl⟩ | ⟨hne, ys, hy, rfl, rfl⟩
 · unfold noneS at *
   go_enter Tryz.func34, Tryz.ntmps34; go_wp2_with fail; exact bodyPost_ret (v := .tuple #[.slice none 0 0, .int .i64 0]) (by simp [results, Tryz.results34, go_sem]) rfl ⟨none, rfl, rownil _, ((Dn.refl _).alloc _).alloc _⟩
 have e0 : (s.toList == [110, 111, 110, 101]) = false := by
   rw [Bool.eq_false_iff]; intro e; apply hne; apply ByteArray.ext; apply Array.toList_inj.1; rw [<- Lib.toList_data]; exact eq_of_beq e
 have d0 : decide ((s.size : Int) > 1048576) = false := by simp; omega
 have d1 : decide (1048576 < s.size) = false := by simp; omega
 have d2 : decide (1048576 < (s.size : Int)) = false := by simp; omega
 have hlen := hy.len
 have hn1 : (spl s.data.toList).length <= s.size + 1 := by have := spl_len s.data.toList; rw [dl_len] at this; exact this
 have HL := Lib.hid hlen
 have HLY := Lib.hid (show ys.length <= 100000 by omega)
 have HI6 := Lib.hid (psL_i6 hy)
 have HY := Lib.hid hy
 have HSP := Lib.hid hsp
 have HS := Lib.hid hs
 clear hy hsp hne hs hlen hn1
 obtain ⟨cA, cB, hAB⟩ : ∃ cA cB, psPick Tryz.f34.body = (cA, cB) := ⟨_, _, rfl⟩
 refine (callsIn_wide (n := 3)).1 ?_
 have FG := Tryz.func34
 refine callsIn_of_wp_marks FG rfl trivial ?_ rfl
 simp only [Tryz.ntmps34, List.size_toArray, List.length_cons, List.length_nil, Nat.reduceAdd, Nat.reduceSub, Array.replicate_succ, Array.replicate_zero, List.push_toArray, List.append_toArray, List.nil_append, List.cons_append]
 gi_wp2_with (refine ⟨trivial, ?_⟩; gi_at_call 76; refine (callsIn_wide.2 (slSplitSeq _ _)).mono ?_; rintro e w' ⟨rfl, rfl⟩)
 refine wpIn_rangeFunc ?_
 intro fn hfn
 obtain ⟨W0, hW0⟩ : ∃ W0, ((((((w.alloc (.cells #[.slice none 0 0] 22)).alloc (.cells #[.int .i64 0] 24)).alloc (.cells #[.slice none 0 0] 22)).alloc (.cells #[.int .i64 0] 24)).alloc (.cells #[.string s] 9)).alloc (.cells #[.string ⟨#[44]⟩] 9)).alloc (.cells #[.int .i64 0] 3) = W0 := ⟨_, rfl⟩
 have hs0 : W0.heap.size = w.heap.size + 7 := by rw [<- hW0]; simp
 have z2 : Bx W0 w.heap.size (.slice none 0 0) 22 := by
   have h := (bx_new (w) (.slice none 0 0) 22).dn (W' := W0) (by rw [<- hW0]; exact ((((((Dn.refl _).alloc _).alloc _).alloc _).alloc _).alloc _).alloc _); exact h
 have z3 : Bx W0 (w.heap.size + 1) (.int .i64 0) 24 := by
   have h := (bx_new ((w).alloc (.cells #[.slice none 0 0] 22)) (.int .i64 0) 24).dn (W' := W0) (by rw [<- hW0]; exact (((((Dn.refl _).alloc _).alloc _).alloc _).alloc _).alloc _); rwa [World.size_alloc] at h
 have z4 : Bx W0 (w.heap.size + 1 + 1) (.slice none 0 0) 22 := by
   have h := (bx_new (((w).alloc (.cells #[.slice none 0 0] 22)).alloc (.cells #[.int .i64 0] 24)) (.slice none 0 0) 22).dn (W' := W0) (by rw [<- hW0]; exact ((((Dn.refl _).alloc _).alloc _).alloc _).alloc _); rwa [World.size_alloc, World.size_alloc] at h
 have z5 : Bx W0 (w.heap.size + 1 + 1 + 1) (.int .i64 0) 24 := by
   have h := (bx_new ((((w).alloc (.cells #[.slice none 0 0] 22)).alloc (.cells #[.int .i64 0] 24)).alloc (.cells #[.slice none 0 0] 22)) (.int .i64 0) 24).dn (W' := W0) (by rw [<- hW0]; exact (((Dn.refl _).alloc _).alloc _).alloc _); rwa [World.size_alloc, World.size_alloc, World.size_alloc] at h
 have y2 : Bx W0 (w.heap.size + 1 + 1 + 1 + 1) (.string s) 9 := by
   have h := (bx_new (((((w).alloc (.cells #[.slice none 0 0] 22)).alloc (.cells #[.int .i64 0] 24)).alloc (.cells #[.slice none 0 0] 22)).alloc (.cells #[.int .i64 0] 24)) (.string s) 9).dn (W' := W0) (by rw [<- hW0]; exact ((Dn.refl _).alloc _).alloc _); rwa [World.size_alloc, World.size_alloc, World.size_alloc, World.size_alloc] at h
 have y1 : Bx W0 (w.heap.size + 1 + 1 + 1 + 1 + 1) (.string ⟨#[44]⟩) 9 := by
   have h := (bx_new ((((((w).alloc (.cells #[.slice none 0 0] 22)).alloc (.cells #[.int .i64 0] 24)).alloc (.cells #[.slice none 0 0] 22)).alloc (.cells #[.int .i64 0] 24)).alloc (.cells #[.string s] 9)) (.string ⟨#[44]⟩) 9).dn (W' := W0) (by rw [<- hW0]; exact (Dn.refl _).alloc _); rwa [World.size_alloc, World.size_alloc, World.size_alloc, World.size_alloc, World.size_alloc] at h
 have y3 : Bx W0 (w.heap.size + 1 + 1 + 1 + 1 + 2) (.int .i64 0) 3 := by
   have h := (bx_new (((((((w).alloc (.cells #[.slice none 0 0] 22)).alloc (.cells #[.int .i64 0] 24)).alloc (.cells #[.slice none 0 0] 22)).alloc (.cells #[.int .i64 0] 24)).alloc (.cells #[.string s] 9)).alloc (.cells #[.string ⟨#[44]⟩] 9)) (.int .i64 0) 3).dn (W' := W0) (by rw [<- hW0]; exact Dn.refl _); rwa [World.size_alloc, World.size_alloc, World.size_alloc, World.size_alloc, World.size_alloc, World.size_alloc] at h
 have dn0 : Dn w W0 := by rw [<- hW0]; exact ((((((((Dn.refl _).alloc _).alloc _).alloc _).alloc _).alloc _).alloc _).alloc _)
 rw [hW0]
 clear hW0
 obtain ⟨R0, hR⟩ : ∃ R0, R0 = psRec cA cB fn s (.func (.func 140) #[] #[.pointer (some ⟨w.heap.size + 1 + 1 + 1 + 1 + 1, 0, none⟩), .pointer (some ⟨w.heap.size + 1 + 1 + 1 + 1, 0, none⟩), .pointer (some ⟨w.heap.size + 1 + 1 + 1 + 1 + 2, 0, none⟩)]) w.heap.size (w.heap.size + 1) (w.heap.size + 1 + 1) (w.heap.size + 1 + 1 + 1) W0.heap.size := ⟨_, rfl⟩
 obtain ⟨W1, hW1⟩ : ∃ W1, (W0.alloc (.deferred (some []))).alloc (.loop (R0 .ready none)) = W1 := ⟨_, rfl⟩
 have q1 : Dn W0 W1 := by rw [<- hW1]; exact ((Dn.refl _).alloc _).alloc _
 have hL1 : W1.heap[W0.heap.size + 1]? = some (.loop (R0 .ready none)) := by rw [<- hW1]; have := World.alloc_heap_new (W0.alloc (.deferred (some []))) (.loop (R0 .ready none)); rwa [World.size_alloc] at this
 have hK1 : W1.heap[W0.heap.size]? = some (.deferred (some [])) := by rw [<- hW1]; exact (Below.heap_alloc _ _ _ (by simp)).trans (World.alloc_heap_new W0 _)
 have hB : PsB w.heap.size (w.heap.size + 1) (w.heap.size + 1 + 1) (w.heap.size + 1 + 1 + 1) (w.heap.size + 1 + 1 + 1 + 1 + 1) (w.heap.size + 1 + 1 + 1 + 1) (w.heap.size + 1 + 1 + 1 + 1 + 2) W0.heap.size (W0.heap.size + 1) := by constructor <;> omega
 have hM : PsQ R0 w ys w.heap.size (w.heap.size + 1) (w.heap.size + 1 + 1) (w.heap.size + 1 + 1 + 1) W0.heap.size (W0.heap.size + 1) 0 W1 :=
   ⟨z2.dn q1, z3.dn q1, ⟨_, z4.dn q1, by simpa using OwnQ.nil W1 _⟩, z5.dn q1, hL1, hK1, (dn0.trans q1).below, fun y hy => by simp at hy⟩
 have hit : ItB W1 (w.heap.size + 1 + 1 + 1 + 1 + 1) (w.heap.size + 1 + 1 + 1 + 1) (w.heap.size + 1 + 1 + 1 + 1 + 2) s := ⟨y1.dn q1, y2.dn q1, y3.dn q1⟩
 have hseq := spl_seq 2 (by decide) _ _ _ (by omega) (by omega) s W1 (by have := HS.out; omega) hit
 refine ⟨W0.heap.size + 1, [{ target := .collected W0.heap.size, args := #[] }], W1, { target := .fn (.func 140) #[.pointer (some ⟨w.heap.size + 1 + 1 + 1 + 1 + 1, 0, none⟩), .pointer (some ⟨w.heap.size + 1 + 1 + 1 + 1, 0, none⟩), .pointer (some ⟨w.heap.size + 1 + 1 + 1 + 1 + 2, 0, none⟩)], args := #[.func (.yield (W0.heap.size + 1)) #[] #[]] }, W1, 140,
   #[.func (.yield (W0.heap.size + 1)) #[] #[], .pointer (some ⟨w.heap.size + 1 + 1 + 1 + 1 + 1, 0, none⟩), .pointer (some ⟨w.heap.size + 1 + 1 + 1 + 1, 0, none⟩), .pointer (some ⟨w.heap.size + 1 + 1 + 1 + 1 + 2, 0, none⟩)], W1, ?_, ?_, ?_, ?_, fun _ => by decide, ?_⟩
 · have hA : cA = (psPick Tryz.f34.body).1 := by rw [hAB]
   have hBB : cB = (psPick Tryz.f34.body).2 := by rw [hAB]
   rw [<- hW1, hR, hA, hBB]; exact run_enterLoop_outer _ _ _ _ _
 · simp [resolve, go_sem]
 · intro f' hf'; trivial
 · simp [invoke, go_sem]
 · refine (hseq (W0.heap.size + 1) (fun k W => PsQ R0 w ys w.heap.size (w.heap.size + 1) (w.heap.size + 1 + 1) (w.heap.size + 1 + 1 + 1) W0.heap.size (W0.heap.size + 1) k W) (fun W => PsX R0 w ys w.heap.size (w.heap.size + 1) W0.heap.size (W0.heap.size + 1) W) W1 ⟨rfl, rfl, rfl⟩
     (fun k A v hJ => psq_box hJ (by omega) (by omega) (by omega) (by omega) (by omega) (by omega) (by omega) v) ?_ hM).mono ?_
   · intro k f A hf hJ
     have hkl : k < ys.length := (by have := (List.getElem?_eq_some_iff.1 hf).1; have := HL.out; omega); obtain ⟨⟨⟨xa, xb, xc, xd⟩, r⟩, hyk⟩ : ∃ y, ys[k]? = some y := ⟨ys[k], by simp [hkl]⟩; have hrp : RP ⟨f.toArray⟩ xa xb xc xd r := HY.out.at_ k f _ hf hyk; have hsz : (⟨f.toArray⟩ : ByteArray).size <= 1000 := (by have := HSP.out f (List.mem_of_getElem? hf); rw [Lib.size_eq]; simpa using this); have HP : Hid (PsIs ⟨f.toArray⟩ (⟨xa, xb, xc, xd⟩, r)) := Lib.hid (fun W hW => rnParse ⟨f.toArray⟩ xa xb xc xd r W hsz hrp hW)
     by_cases h5 : r = 5
     · exact psq_five cA cB hAB w hE fn s _ _ _ _ _ _ _ _ _ _ hB (by omega) (by omega) (by omega) (by omega) (by omega) R0 hR ys HLY.out k _ xa xb xc xd r hyk HP h5 A hJ
     · by_cases hf0 : firstE (ys.take k) = 0
       · exact psq_zero cA cB hAB w hE fn s _ _ _ _ _ _ _ _ _ _ hB (by omega) (by omega) (by omega) (by omega) (by omega) R0 hR ys HLY.out k _ xa xb xc xd r hyk HP h5 hf0 A hJ
       · exact psq_nz cA cB hAB w hE fn s _ _ _ _ _ _ _ _ _ _ hB (by omega) (by omega) (by omega) (by omega) (by omega) R0 hR ys HLY.out k _ xa xb xc xd r hyk HP h5 hf0 A hJ
   · rintro e W2 ⟨⟨v0, rfl⟩, h2 | h2⟩
     · rw [<- HL.out] at h2
       have hg : NoF ys := (by have := h2.g; unfold Gat at this; rwa [List.take_length] at this); obtain ⟨v, h4, hv⟩ := h2.b4; have h5 := h2.b5; rw [List.take_length] at hv h5; have hend := run_endLoop (P := Tryz.prog) h2.L (by rw [hR]; simp [psRec]); have hpe : (R0 .ready none).pending = none := (by rw [hR]; rfl); obtain ⟨W3, hW3⟩ : ∃ W3, W2.putObj (W0.heap.size + 1) (.loop { R0 .ready none with state := .exhausted }) = W3 := ⟨_, rfl⟩
       have oth : ∀ j, j ≠ W0.heap.size + 1 -> W3.heap[j]? = W2.heap[j]? := fun j hj => by rw [<- hW3]; exact World.putObj_heap_other hj
       have a2 := h2.b2.kept (oth w.heap.size (by omega)); have a3 := h2.b3.kept (oth (w.heap.size + 1) (by omega)); have a4 := h4.kept (oth (w.heap.size + 1 + 1) (by omega)); have a5 := h5.kept (oth (w.heap.size + 1 + 1 + 1) (by omega)); have av : OwnQ W3 W0.heap.size v (ys.map (·.1)) := (by rw [<- hW3]; exact own_put hv h2.L _); have hD3 : W3.heap[W0.heap.size]? = some (.deferred (some [])) := (oth _ (by omega)).trans h2.K; have hb3 : Below w.heap.size w W3 := (by rw [<- hW3]; exact h2.below.grown (grownBy_putObj_a _ _ _) h2.below.size (fun k e => by cases e; omega)); rw [hW3] at hend; have hend' : (Instr.endLoop (W0.heap.size + 1)).run Tryz.prog W2 = .ok none W3 := (by rw [<- hpe]; exact hend); rw [hs0] at hD3; refine ⟨none, W3, hend', ?_⟩; clear hend hend' hW3 oth h2 h4 hv h5 hpe hM hL1 hK1 hit hseq z2 z3 z4 z5 y1 y2 y3; obtain ⟨fe, hfe⟩ : ∃ fe, fe = firstE ys := ⟨_, rfl⟩; rw [<- hfe] at a5; have HA2 := Lib.hid a2; have HA3 := Lib.hid a3; have HA4 := Lib.hid a4; have HA5 := Lib.hid a5; have c2 := a2.cell; have c3 := a3.cell; have c5 := a5.cell; have f2 := a2.fz; have f3 := a3.fz; have f5 := a5.fz; clear a2 a3 a4 a5
       by_cases hf0 : fe = 0
       · have he := prsE_chk hg (by rw [<- hfe]; exact hf0)
         have hr0 : prsE ys = 0 -> prsR ys = ys.map (·.1) := fun h => by unfold prsR; rw [if_pos h]
         have hI6 := HI6.out; have hml : (ys.map (·.1)).length <= 1000000 := (by have := HLY.out; simp; omega); subst hf0; generalize ys.map (·.1) = M at av he hr0 hI6 hml
         obtain ⟨p', cap', rfl, hcp, hmx, hrow⟩ : ∃ p' cap', v = .slice p' M.length cap' /\ M.length <= cap' /\ cap' <= 9223372036854775807 /\ Row W3 p' M := by
           rcases av.form with ⟨rfl, rfl⟩ | ⟨g, cap, rfl, _, h1, h2, hc⟩
           · exact ⟨_, _, rfl, Nat.le_refl _, by omega, Row.nil _ _⟩
           · exact ⟨_, _, rfl, h1, by unfold maxLen at h2; omega, hc.row⟩
         have HB := Lib.hid (fun W (q : Dn W3 W) => rsCheck p' cap' M W hml hI6 (hrow.dn q)); have HCL := Lib.hid (fun W (q : Row W p' M) => slClip p' cap' M W hcp hmx q); have HAV := Lib.hid av; obtain ⟨c, hc⟩ : ∃ c, c = chkL M := ⟨_, rfl⟩; rw [<- hc] at he HB; have HRW := Lib.hid hrow; have HR0 := Lib.hid hr0; have HEE := Lib.hid he; have c4 := HA4.out.cell; clear av hcp hmx hrow hI6 hml hr0 he hc hfe hg
         by_cases hc0 : c = 0
         · subst hc0
           gi_wp2; refine ⟨trivial, ?_⟩; gi_at_call 14; refine (callsIn_wide.2 (HB.out _ (Dn.refl _))).mono ?_; rintro e w4 ⟨rfl, q4⟩; have HP5 := Lib.hid (HA5.out.dn q4); have HP4 := Lib.hid (((HA4.out.dn q4).far (a := ⟨w.heap.size + 1 + 1 + 1, 0, none⟩) (by show w.heap.size + 1 + 1 ≠ w.heap.size + 1 + 1 + 1; omega) (.int .i64 0))); have HQ2 := Lib.hid (((HA2.out.dn q4).far (a := ⟨w.heap.size + 1 + 1 + 1, 0, none⟩) (by show w.heap.size ≠ w.heap.size + 1 + 1 + 1; omega) (.int .i64 0))); have HQ3 := Lib.hid (((HA3.out.dn q4).far (a := ⟨w.heap.size + 1 + 1 + 1, 0, none⟩) (by show w.heap.size + 1 ≠ w.heap.size + 1 + 1 + 1; omega) (.int .i64 0))); clear c2 c3 c4 c5 f2 f3 f5; have c5 := HP5.out.cell; have f5 := HP5.out.fz; have c4 := HP4.out.cell; gi_wp2; refine ⟨trivial, ?_⟩; gi_at_call 78; have HV5 := Lib.hid (own_box (B := w.heap.size + 1 + 1 + 1) (HAV.out.dn q4) (by omega) (.int .i64 0)); refine (callsIn_wide.2 (HCL.out _ (own_row HV5.out))).mono ?_; rintro e w6 ⟨rfl, q6⟩; clear c5 f5 c4; have HN2 := Lib.hid (HQ2.out.dn q6); have HN3 := Lib.hid ((HQ3.out.dn q6).far (a := ⟨w.heap.size, 0, none⟩) (by show w.heap.size + 1 ≠ w.heap.size; omega) (.slice p' M.length M.length)); have c2 := HN2.out.cell; have c3 := HN3.out.cell; have f2 := HN2.out.fz; have f3 := HN3.out.fz; gi_wp2; clear c2 c3 f2 f3; have hDs : w.heap.size + 7 < W3.heap.size := (Array.getElem?_eq_some_iff.1 hD3).1; have p2 := ((HN2.out.put (.slice p' M.length M.length)).far (a := ⟨w.heap.size + 1, 0, none⟩) (by show w.heap.size ≠ w.heap.size + 1; omega) (.int .i64 0)); have p3 := HN3.out.put (.int .i64 0); have hs6 := q6.size; have hs4 := q4.size
           have hK : ((w6.setCell ⟨w.heap.size, 0, none⟩ (.slice p' M.length M.length)).setCell ⟨w.heap.size + 1, 0, none⟩ (.int .i64 0)).heap[w.heap.size + 7]? = some (.deferred (some [])) :=
             (heap_far (by omega)).trans ((heap_far (by omega)).trans ((q6.below.block _ (by simp; omega)).trans ((heap_far (by omega)).trans ((q4.below.block _ (by omega)).trans hD3))))
           have hb4 := ((⟨hb3⟩ : Dn w W3).trans q4).below; have hb5 := below_set hb4 (B := w.heap.size + 1 + 1 + 1) (by omega) (.int .i64 0); have hb6 := ((⟨hb5⟩ : Dn w _).trans q6).below; have hbb := below_set (below_set hb6 (Nat.le_refl _) (.slice p' M.length M.length)) (Nat.le_succ w.heap.size) (.int .i64 0); have hvv := own_box (B := w.heap.size + 1) (own_box (B := w.heap.size) (HV5.out.dn q6) (by omega) (.slice p' M.length M.length)) (by omega) (.int .i64 0); refine ⟨by simp, .inl ⟨_, _, rfl, run_takeDeferred hK, ?_⟩⟩; have r2 := (Bx.kept (W' := ((w6.setCell ⟨w.heap.size, 0, none⟩ (.slice p' M.length M.length)).setCell ⟨w.heap.size + 1, 0, none⟩ (.int .i64 0)).putObj (w.heap.size + 7) (.deferred none)) p2 (World.putObj_heap_other (by omega))).cell; have r3 := (Bx.kept (W' := ((w6.setCell ⟨w.heap.size, 0, none⟩ (.slice p' M.length M.length)).setCell ⟨w.heap.size + 1, 0, none⟩ (.int .i64 0)).putObj (w.heap.size + 7) (.deferred none)) p3 (World.putObj_heap_other (by omega))).cell; have hrow := own_row (own_putD (o := .deferred none) hvv hK); refine ⟨.tuple #[.slice p' M.length M.length, .int .i64 0], ?_, p', ?_, ?_, ?_⟩
           · simp [results, Tryz.results34, go_sem, r2, r3]
           · rw [HEE.out, HR0.out HEE.out]
           · rw [HR0.out HEE.out]; exact hrow
           · exact dn_putD ⟨hbb⟩ (by omega) _
         · have d6 : (c != 0) = true := by simpa using hc0
           have HR := Lib.hid (prsR_bad (ys := ys) (by rw [HEE.out]; exact hc0)); clear hc0; gi_wp2; refine ⟨trivial, ?_⟩; gi_at_call 14; refine (callsIn_wide.2 (HB.out _ (Dn.refl _))).mono ?_; rintro e w4 ⟨rfl, q4⟩; have HP5 := Lib.hid (HA5.out.dn q4); have HQ2 := Lib.hid (((HA2.out.dn q4).far (a := ⟨w.heap.size + 1 + 1 + 1, 0, none⟩) (by show w.heap.size ≠ w.heap.size + 1 + 1 + 1; omega) (.int .i64 c))); have HQ3 := Lib.hid (((HA3.out.dn q4).far (a := ⟨w.heap.size + 1 + 1 + 1, 0, none⟩) (by show w.heap.size + 1 ≠ w.heap.size + 1 + 1 + 1; omega) (.int .i64 c))); have HP6 := Lib.hid (HP5.out.put (.int .i64 c)); clear c2 c3 c4 c5 f2 f3 f5; have c5 := HP5.out.cell; have f5 := HP5.out.fz; gi_wp2; clear c5 f5; have c2 := HQ2.out.cell; have c3 := HQ3.out.cell; have f2 := HQ2.out.fz; have f3 := HQ3.out.fz; have c5 := HP6.out.cell; gi_region; clear c2 c3 f2 f3 c5; gi_wp2; have hDs : w.heap.size + 7 < W3.heap.size := (Array.getElem?_eq_some_iff.1 hD3).1; have hs4 := q4.size; have p2 := ((HQ2.out.put (.slice none 0 0)).far (a := ⟨w.heap.size + 1, 0, none⟩) (by show w.heap.size ≠ w.heap.size + 1; omega) (.int .i64 c)); have p3 := ((HQ3.out.far (a := ⟨w.heap.size, 0, none⟩) (by show w.heap.size + 1 ≠ w.heap.size; omega) (.slice none 0 0)).put (.int .i64 c))
           have hK : ((((w4.setCell ⟨w.heap.size + 1 + 1 + 1, 0, none⟩ (.int .i64 c)).setCell ⟨w.heap.size, 0, none⟩ (.slice none 0 0)).setCell ⟨w.heap.size + 1, 0, none⟩ (.int .i64 c)).drew).heap[w.heap.size + 7]? = some (.deferred (some [])) :=
             (heap_far (by omega)).trans ((heap_far (by omega)).trans ((heap_far (by omega)).trans ((q4.below.block _ (by omega)).trans hD3)))
           have hb4 := ((⟨hb3⟩ : Dn w W3).trans q4).below; have hb5 := below_set hb4 (B := w.heap.size + 1 + 1 + 1) (by omega) (.int .i64 c); have hbb := below_set (below_set hb5 (Nat.le_refl _) (.slice none 0 0)) (Nat.le_succ w.heap.size) (.int .i64 c); refine ⟨by simp, .inl ⟨_, _, rfl, run_takeDeferred hK, ?_⟩⟩; have r2 := (Bx.kept (W' := ((((w4.setCell ⟨w.heap.size + 1 + 1 + 1, 0, none⟩ (.int .i64 c)).setCell ⟨w.heap.size, 0, none⟩ (.slice none 0 0)).setCell ⟨w.heap.size + 1, 0, none⟩ (.int .i64 c)).drew).putObj (w.heap.size + 7) (.deferred none)) p2 (World.putObj_heap_other (by omega))).cell; have r3 := (Bx.kept (W' := ((((w4.setCell ⟨w.heap.size + 1 + 1 + 1, 0, none⟩ (.int .i64 c)).setCell ⟨w.heap.size, 0, none⟩ (.slice none 0 0)).setCell ⟨w.heap.size + 1, 0, none⟩ (.int .i64 c)).drew).putObj (w.heap.size + 7) (.deferred none)) p3 (World.putObj_heap_other (by omega))).cell; refine ⟨.tuple #[.slice none 0 0, .int .i64 c], ?_, none, ?_, ?_, ?_⟩
           · simp [results, Tryz.results34, go_sem, r2, r3]
           · rw [HEE.out, HR.out]; rfl
           · rw [HR.out]; exact rownil _
           · exact dn_putD (Dn.drew ⟨hbb⟩) (by omega) _
       · have he := prsE_first hg (by rw [<- hfe]; exact hf0)
         rw [<- hfe] at he; have HEE := Lib.hid he; have HRR := Lib.hid (prsR_bad (ys := ys) (by rw [he]; exact hf0)); have d6 : (fe == 0) = false := (by simpa using hf0); have d7 : (fe != 0) = true := (by simpa using hf0); clear he hf0 hfe hg; gi_wp2; gi_region; gi_wp2; clear c2 c3 c5 f2 f3 f5; have p2 := ((HA2.out.put (.slice none 0 0)).far (a := ⟨w.heap.size + 1, 0, none⟩) (by show w.heap.size ≠ w.heap.size + 1; omega) (.int .i64 fe)); have p3 := (HA3.out.far (a := ⟨w.heap.size, 0, none⟩) (by show w.heap.size + 1 ≠ w.heap.size; omega) (.slice none 0 0)).put (.int .i64 fe); have hK : (((W3.setCell ⟨w.heap.size, 0, none⟩ (.slice none 0 0)).setCell ⟨w.heap.size + 1, 0, none⟩ (.int .i64 fe)).drew).heap[w.heap.size + 7]? = some (.deferred (some [])) := (heap_far (by omega)).trans ((heap_far (by omega)).trans hD3); have hbb := below_set (below_set hb3 (Nat.le_refl _) (.slice none 0 0)) (Nat.le_succ w.heap.size) (.int .i64 fe); refine ⟨by simp, .inl ⟨_, _, rfl, run_takeDeferred hK, ?_⟩⟩; have r2 := (Bx.kept (W' := (((W3.setCell ⟨w.heap.size, 0, none⟩ (.slice none 0 0)).setCell ⟨w.heap.size + 1, 0, none⟩ (.int .i64 fe)).drew).putObj (w.heap.size + 7) (.deferred none)) p2 (World.putObj_heap_other (by omega))).cell; have r3 := (Bx.kept (W' := (((W3.setCell ⟨w.heap.size, 0, none⟩ (.slice none 0 0)).setCell ⟨w.heap.size + 1, 0, none⟩ (.int .i64 fe)).drew).putObj (w.heap.size + 7) (.deferred none)) p3 (World.putObj_heap_other (by omega))).cell; refine ⟨.tuple #[.slice none 0 0, .int .i64 fe], ?_, none, ?_, ?_, ?_⟩
         · simp [results, Tryz.results34, go_sem, r2, r3]
         · rw [HEE.out, HRR.out]; rfl
         · rw [HRR.out]; exact rownil _
         · exact dn_putD (Dn.drew ⟨hbb⟩) (by omega) _
     · have hend := run_endLoop (P := Tryz.prog) h2.L (by rw [hR]; simp [psRec])
       have hpe : (R0 .done (some .ret)).pending = some .ret := (by rw [hR]; rfl); obtain ⟨W3, hW3⟩ : ∃ W3, W2.putObj (W0.heap.size + 1) (.loop { R0 .done (some .ret) with state := .exhausted }) = W3 := ⟨_, rfl⟩
       have oth : ∀ j, j ≠ W0.heap.size + 1 -> W3.heap[j]? = W2.heap[j]? := fun j hj => by rw [<- hW3]; exact World.putObj_heap_other hj
       have a2 := h2.b2.kept (oth w.heap.size (by omega)); have a3 := h2.b3.kept (oth (w.heap.size + 1) (by omega)); have hD3 : W3.heap[W0.heap.size]? = some (.deferred (some [])) := (oth _ (by omega)).trans h2.K; have hb3 : Below w.heap.size w W3 := (by rw [<- hW3]; exact h2.below.grown (grownBy_putObj_a _ _ _) h2.below.size (fun k e => by cases e; omega)); rw [hW3] at hend; have hend' : (Instr.endLoop (W0.heap.size + 1)).run Tryz.prog W2 = .ok (some .ret) W3 := (by rw [<- hpe]; exact hend); have hee := h2.e; rw [hs0] at hD3; refine ⟨some .ret, W3, hend', ?_⟩; clear hend hend' hW3 oth h2 hpe hM hL1 hK1 hit hseq z2 z3 z4 z5 y1 y2 y3; have HA2 := Lib.hid a2; have HA3 := Lib.hid a3; clear a2 a3; gi_wp2; refine ⟨by simp, .inl ⟨_, _, rfl, run_takeDeferred hD3, ?_⟩⟩; have r2 := (Bx.kept (W' := W3.putObj (w.heap.size + 7) (.deferred none)) HA2.out (World.putObj_heap_other (by omega))).cell; have r3 := (Bx.kept (W' := W3.putObj (w.heap.size + 7) (.deferred none)) HA3.out (World.putObj_heap_other (by omega))).cell; refine ⟨.tuple #[.slice none 0 0, .int .i64 5], ?_, none, ?_, ?_, ?_⟩
       · simp [results, Tryz.results34, go_sem, r2, r3]
       · rw [hee.1, hee.2]; rfl
       · rw [hee.2]; exact rownil _
       · exact dn_putD ⟨hb3⟩ (by omega) _
end Go.Proofs.YtoghoddjkdoohaaGreatDoor
