/- Walks and laws that the claim's theorem leans on: part 11. -/
import Derived.Test.YteodjglbpfmikaaGreatDoorZUn1
import Derived.Test.YteodjglbpfmikaaGreatDoorZUn10
namespace Go.Proofs.YteodjglbpfmikaaGreatDoor
open Go.RowKit Go.Maps Go.Sort Go.Shelf Go.Proofs
set_option linter.unusedVariables false
set_option linter.unusedSimpArgs false
theorem or3 {a b c : Prop} : ((a ∨ b) ∨ c) = ((a ∨ c) ∨ b) := propext ⟨fun x => x.elim (fun y => y.elim (fun z => .inl (.inl z)) .inr) (fun z => .inl (.inr z)), fun x => x.elim (fun y => y.elim (fun z => .inl (.inl z)) .inr) (fun z => .inl (.inr z))⟩
theorem or4 {a b c d : Prop} : (((a ∨ b) ∨ c) ∨ d) = (a ∨ ((b ∨ c) ∨ d)) := by simp only [or_assoc]
theorem heap_setCell_c {W : World} {B : Nat} {c : Array Value} {t : TypeId} (j : Nat) (v : Value) (h : W.heap[B]? = some (.cells c t (0, 0))) : (W.setCell ⟨B, j, none⟩ v).heap[B]? = some (.cells (c.setIfInBounds j v) t (0, 0)) := by
 obtain ⟨hlt, hk⟩ := Array.getElem?_eq_some_iff.1 h
 show (W.heap.modify B _)[B]? = _
 rw [Array.getElem?_eq_getElem (by rw [Array.size_modify]; exact hlt), Array.getElem_modify_self, hk]
 rfl
theorem heap_lt {W : World} {B : Nat} {o : Obj} (h : W.heap[B]? = some o) : B < W.heap.size := (Array.getElem?_eq_some_iff.1 h).1
theorem heap_dn {W W' : World} {B : Nat} {o : Obj} (h : W.heap[B]? = some o) (q : Dn W W') : W'.heap[B]? = some o := (q.below.block B (heap_lt h)).trans h
theorem heap_mv {T : Nat → Prop} {W W' : World} {B : Nat} {o : Obj} (h : W.heap[B]? = some o) (q : Moves T W W') (hn : ¬ T B) : W'.heap[B]? = some o := (q.block B (heap_lt h) hn).trans h
theorem heap_put {W : World} {B l : Nat} {o o' : Obj} (h : W.heap[B]? = some o) (hn : B ≠ l) : (W.putObj l o').heap[B]? = some o := (World.putObj_heap_other hn).trans h
theorem heap_set {W : World} {B b j : Nat} {o : Obj} {v : Value} (h : W.heap[B]? = some o) (hn : B ≠ b) : (W.setCell ⟨b, j, none⟩ v).heap[B]? = some o := (Below.heap_setCell W ⟨b, j, none⟩ v B hn).trans h
def Q4 (W : World) (B : Nat) (x : Rq) : Prop := W.heap[B]? = some (.cells #[.int .i8 x.a, .int .i64 x.b, .int .i8 x.c, .int .i64 x.d] 30 (0, 0))
theorem Q4.cells {W : World} {B : Nat} {x : Rq} (h : Q4 W B x) : W.cell? ⟨B, 0, none⟩ = some (.int .i8 x.a) ∧ W.cell? ⟨B, 1, none⟩ = some (.int .i64 x.b) ∧ W.cell? ⟨B, 2, none⟩ = some (.int .i8 x.c) ∧ W.cell? ⟨B, 3, none⟩ = some (.int .i64 x.d) := by
 unfold Q4 at h
 refine ⟨?_, ?_, ?_, ?_⟩ <;> simp [World.cell?, h]
theorem Q4.fz {W : World} {B : Nat} {x : Rq} (h : Q4 W B x) (j : Nat) : W.frozen? ⟨B, j, none⟩ = false := by
 unfold Q4 at h
 simp [World.frozen?, h]
def set4 (W : World) (B : Nat) (y : Rq) : World := (((W.setCell ⟨B, 0, none⟩ (.int .i8 y.a)).setCell ⟨B, 1, none⟩ (.int .i64 y.b)).setCell ⟨B, 2, none⟩ (.int .i8 y.c)).setCell ⟨B, 3, none⟩ (.int .i64 y.d)
theorem Q4.put {W : World} {B : Nat} {x : Rq} (h : Q4 W B x) (y : Rq) : Q4 (set4 W B y) B y := by
 have := heap_setCell_c 3 (.int .i64 y.d) (heap_setCell_c 2 (.int .i8 y.c) (heap_setCell_c 1 (.int .i64 y.b) (heap_setCell_c 0 (.int .i8 y.a) h)))
 exact this
theorem heap_set4 {W : World} {B b : Nat} {o : Obj} {y : Rq} (h : W.heap[B]? = some o) (hn : B ≠ b) : (set4 W b y).heap[B]? = some o := heap_set (heap_set (heap_set (heap_set h hn) hn) hn) hn
theorem Moves.set4 {T : Nat → Prop} {b : Nat} (h : T b) (A : World) (y : Rq) : Moves T A (set4 A b y) :=
 (((Moves.set (p := ⟨b, 0, none⟩) h A _).trans (Moves.set (p := ⟨b, 1, none⟩) h _ _)).trans (Moves.set (p := ⟨b, 2, none⟩) h _ _)).trans (Moves.set (p := ⟨b, 3, none⟩) h _ _)
def stOf? : Code → Option (Code × Code)
 | .rangeFunc _ _ x y => some (x, y)
 | .seq a b => match stOf? a with
   | some r => some r
   | none => stOf? b
 | .block _ c => stOf? c
 | _ => none
def stPick (b : Option Code) : Code × Code := match b with
 | some c => (stOf? c).getD (.skip, .skip)
 | none => (.skip, .skip)
def jnRec (cA cB : Code) (fn : FuncId) (yv sv : Value) (b1 b2 b3 b4 D : Nat) (st : LoopState) (pend : Option Code) : Loop :=
 { state := st, pending := pend, fn, tmps := #[yv, .pointer (some ⟨b1, 0, none⟩), .pointer (some ⟨b2, 0, none⟩), .pointer (some ⟨b3, 0, none⟩), .pointer (some ⟨b4, 0, none⟩), undef, undef, undef, sv, sv, undef, undef, undef, undef, undef, undef, undef, undef, undef, undef, undef, undef, undef, undef, undef, undef, undef, undef, undef, undef, undef, undef, undef, undef], params := #[10], assign := cA, body := cB, defers := D }
theorem jn_rec {R0 : LoopState → Option Code → Loop} {cA cB : Code} {fn : FuncId} {yv sv : Value} {b1 b2 b3 b4 D l : Nat} (hR : R0 = jnRec cA cB fn yv sv b1 b2 b3 b4 D) {W0 : World} (hL : W0.heap[l]? = some (.loop (R0 .ready none))) (x : Value) :
  (Instr.yield l #[x]).run Tryz.prog W0 = .ok (.round l fn #[yv, .pointer (some ⟨b1, 0, none⟩), .pointer (some ⟨b2, 0, none⟩), .pointer (some ⟨b3, 0, none⟩), .pointer (some ⟨b4, 0, none⟩), undef, undef, undef, sv, sv, x, undef, undef, undef, undef, undef, undef, undef, undef, undef, undef, undef, undef, undef, undef, undef, undef, undef, undef, undef, undef, undef, undef, undef] cA cB) W0 ∧
  (∀ W1 : World, W1.heap[l]? = some (.loop (R0 .ready none)) → (Instr.beginRound l).run Tryz.prog W1 = .ok () (W1.putObj l (.loop (R0 .busy none)))) ∧
  (∀ (W3 : World) (jump : Option Code), W3.heap[l]? = some (.loop (R0 .busy none)) → (Instr.endRound l jump).run Tryz.prog W3 = .ok (.bool jump.isNone) (W3.putObj l (.loop (R0 (if jump.isNone then .ready else .done) jump)))) := by
 subst hR
 exact ⟨by simpa [jnRec] using run_yield (P := Tryz.prog) (args := #[x]) hL rfl, fun W1 h => run_beginRound (P := Tryz.prog) h rfl, fun W3 jump h => run_endRound (P := Tryz.prog) jump h⟩
structure JnB (b2 b3 b4 D l2 : Nat) : Prop where
 n23 : b2 ≠ b3
 n24 : b2 ≠ b4
 n34 : b3 ≠ b4
 n2D : b2 ≠ D
 n3D : b3 ≠ D
 n4D : b4 ≠ D
 n2l : b2 ≠ l2
 n3l : b3 ≠ l2
 n4l : b4 ≠ l2
 nDl : D ≠ l2
structure JnS (J : Nat → (Nat → Prop) → World → Prop) (R0 : LoopState → Option Code → Loop) (yv : Value) (b2 b3 b4 D l2 : Nat) (L : List Rq) (k : Nat) (T : Nat → Prop) (A : World) (M : Nat → Prop) (m : Nat) (any : Bool) (now : Rq) : Prop where
 j : J m (fun b => T b ∨ M b) A
 dis : ∀ b, M b → ¬ T b
 m2 : M b2
 m3 : M b3
 m4 : M b4
 mD : M D
 ml : M l2
 c2 : A.heap[b2]? = some (.cells #[yv] 137 (0, 0))
 c3 : Q4 A b3 now
 c4 : A.heap[b4]? = some (.cells #[.bool any] 4 (0, 0))
 L2 : A.heap[l2]? = some (.loop (R0 .ready none))
 K : A.heap[D]? = some (.deferred (some []))
 i6 : I64 now.b ∧ I64 now.d
 st : (any = false ∧ k = 0 ∧ m = 0) ∨ (any = true ∧ ∃ N : List Rq, N.length = m ∧ joinedL L = N ++ jn now (L.drop k))
def JnI (J : Nat → (Nat → Prop) → World → Prop) (R0 : LoopState → Option Code → Loop) (yv : Value) (b2 b3 b4 D l2 : Nat) (L : List Rq) (k : Nat) (T : Nat → Prop) (A : World) : Prop :=
 ∃ M m any now, JnS J R0 yv b2 b3 b4 D l2 L k T A M m any now
def JnX (Jx : (Nat → Prop) → World → Prop) (R0 : LoopState → Option Code → Loop) (D l2 : Nat) (T : Nat → Prop) (A : World) : Prop :=
 ∃ M : Nat → Prop, Jx (fun b => T b ∨ M b) A ∧ (∀ b, M b → ¬ T b) ∧ M D ∧ M l2 ∧ A.heap[l2]? = some (.loop (R0 .done (some .ret))) ∧ A.heap[D]? = some (.deferred (some []))
section
variable {J : Nat → (Nat → Prop) → World → Prop} {Jx : (Nat → Prop) → World → Prop} {R0 : LoopState → Option Code → Loop} {yv : Value} {b2 b3 b4 D l2 : Nat} {L : List Rq} {w : World}
theorem JnS.mv {k m : Nat} {T M : Nat → Prop} {A A' : World} {any : Bool} {now : Rq} (hJ : Jok w J Jx) (h : JnS J R0 yv b2 b3 b4 D l2 L k T A M m any now) (q : Moves T A A') : JnS J R0 yv b2 b3 b4 D l2 L k T A' M m any now :=
 ⟨hJ.mv _ _ _ _ h.j (q.more fun b x => .inl x), h.dis, h.m2, h.m3, h.m4, h.mD, h.ml, heap_mv h.c2 q (h.dis _ h.m2), heap_mv h.c3 q (h.dis _ h.m3), heap_mv h.c4 q (h.dis _ h.m4), heap_mv h.L2 q (h.dis _ h.ml), heap_mv h.K q (h.dis _ h.mD), h.i6, h.st⟩
theorem jn_ok (hJ : Jok w J Jx) : Jok w (JnI J R0 yv b2 b3 b4 D l2 L) (JnX Jx R0 D l2) := by
 refine ⟨?_, ?_, ?_, ?_, ?_⟩
 · rintro k T A ⟨M, m, any, now, h⟩; exact hJ.dn _ _ _ h.j
 · rintro k T A b ⟨M, m, any, now, h⟩ hT; exact hJ.lt _ _ _ _ h.j (.inl hT)
 · rintro k T A A' ⟨M, m, any, now, h⟩ q; exact ⟨M, m, any, now, h.mv hJ q⟩
 · rintro T A A' ⟨M, h, hd, hD, hl, h2, h3⟩ q
   exact ⟨M, hJ.mx _ _ _ h (q.more fun b x => .inl x), hd, hD, hl, heap_mv h2 q (hd _ hl), heap_mv h3 q (hd _ hD)⟩
 · rintro k T A o ⟨M, m, any, now, h⟩
   have hk := hJ.nw _ _ _ o h.j
   have e : (fun b => (T b ∨ M b) ∨ b = A.heap.size) = fun b => (T b ∨ b = A.heap.size) ∨ M b := funext fun b => or3
   rw [e] at hk
   have q : Dn A (A.alloc o) := (Dn.refl _).alloc o
   refine ⟨M, m, any, now, hk, ?_, h.m2, h.m3, h.m4, h.mD, h.ml, heap_dn h.c2 q, heap_dn h.c3 q, heap_dn h.c4 q, heap_dn h.L2 q, heap_dn h.K q, h.i6, h.st⟩
   rintro b hb (x | x)
   · exact h.dis b hb x
   · have := hJ.lt _ _ _ _ h.j (.inr hb); omega
structure JnM (J : Nat → (Nat → Prop) → World → Prop) (R0 : LoopState → Option Code → Loop) (yv : Value) (b2 b3 b4 D l2 : Nat) (m r s : Nat) (any : Bool) (now x both : Rq) (T M : Nat → Prop) (A B : World) : Prop where
 j : J m (fun b => T b ∨ M b) B
 dis : ∀ b, M b → ¬ T b
 lt : ∀ b, T b → b < A.heap.size
 q : Moves M A B
 m2 : M b2
 m3 : M b3
 m4 : M b4
 mD : M D
 ml : M l2
 c2 : B.heap[b2]? = some (.cells #[yv] 137 (0, 0))
 c3 : Q4 B b3 now
 c4 : B.heap[b4]? = some (.cells #[.bool any] 4 (0, 0))
 L2 : B.heap[l2]? = some (.loop (R0 .busy none))
 K : B.heap[D]? = some (.deferred (some []))
 cr : Q4 B r x
 cs : Q4 B s both
 mr : M r
 ms : M s
 nr : r ≠ b3 ∧ r ≠ b4 ∧ r ≠ l2
 ns : s ≠ b3 ∧ s ≠ b4 ∧ s ≠ l2
theorem jn_mid {k m : Nat} {T M : Nat → Prop} {A w3 : World} {any : Bool} {now x both : Rq} (hJ : Jok w J Jx) (hB : JnB b2 b3 b4 D l2) (h : JnS J R0 yv b2 b3 b4 D l2 L k T A M m any now)
   (q3 : Dn ((A.alloc (.cells #[.int .i8 x.a, .int .i64 x.b, .int .i8 x.c, .int .i64 x.d] 30)).putObj l2 (.loop (R0 .busy none))) w3) :
   JnM J R0 yv b2 b3 b4 D l2 m A.heap.size w3.heap.size any now x both T (fun b => (M b ∨ b = A.heap.size) ∨ b = w3.heap.size) A (w3.alloc (.cells #[.int .i8 both.a, .int .i64 both.b, .int .i8 both.c, .int .i64 both.d] 30)) := by
 obtain ⟨A1, hA1⟩ : ∃ A1, A1 = A.alloc (.cells #[.int .i8 x.a, .int .i64 x.b, .int .i8 x.c, .int .i64 x.d] 30) := ⟨_, rfl⟩
 have p1 : Dn A A1 := by rw [hA1]; exact (Dn.refl _).alloc _
 have s1 : A1.heap.size = A.heap.size + 1 := by rw [hA1]; simp
 have r1 : Q4 A1 A.heap.size x := by rw [hA1]; exact World.alloc_heap_new _ _
 have hk1 : J m (fun b => (T b ∨ M b) ∨ b = A.heap.size) A1 := by rw [hA1]; exact hJ.nw _ _ _ _ h.j
 rw [← hA1] at q3
 obtain ⟨A2, hA2⟩ : ∃ A2, A2 = A1.putObj l2 (.loop (R0 .busy none)) := ⟨_, rfl⟩
 have s2 : A2.heap.size = A1.heap.size := by rw [hA2]; simp [World.putObj]
 have g2 := heap_dn h.c2 p1
 have g3 := heap_dn h.c3 p1
 have g4 := heap_dn h.c4 p1
 have gl := heap_dn h.L2 p1
 have gK := heap_dn h.K p1
 have hll := heap_lt h.L2
 have ltM : ∀ b, M b → b < A.heap.size := fun b hb => hJ.lt _ _ _ _ h.j (.inr hb)
 have l3 := ltM _ h.m3
 have l4 := ltM _ h.m4
 have hk2 : J m (fun b => (T b ∨ M b) ∨ b = A.heap.size) A2 := hJ.mv _ _ _ _ hk1 (by rw [hA2]; exact Moves.put (.inl (.inr h.ml)) _ _)
 have r2 : Q4 A2 A.heap.size x := by rw [hA2]; exact heap_put r1 (by omega)
 have f2 := heap_put (o' := .loop (R0 .busy none)) g2 hB.n2l
 have f3 := heap_put (o' := .loop (R0 .busy none)) g3 hB.n3l
 have f4 := heap_put (o' := .loop (R0 .busy none)) g4 hB.n4l
 have fK := heap_put (o' := .loop (R0 .busy none)) gK hB.nDl
 have fl : A2.heap[l2]? = some (.loop (R0 .busy none)) := by rw [hA2]; exact World.putObj_heap_same (heap_lt gl)
 rw [← hA2] at q3 f2 f3 f4 fK
 have sz3 := q3.size
 have qb : Dn A2 (w3.alloc (.cells #[.int .i8 both.a, .int .i64 both.b, .int .i8 both.c, .int .i64 both.d] 30)) := q3.alloc _
 have hk4 := hJ.nw _ _ _ (.cells #[.int .i8 both.a, .int .i64 both.b, .int .i8 both.c, .int .i64 both.d] 30) (hJ.al hk2 q3)
 have e : (fun b => ((T b ∨ M b) ∨ b = A.heap.size) ∨ b = w3.heap.size) = fun b => T b ∨ ((M b ∨ b = A.heap.size) ∨ b = w3.heap.size) := funext fun b => or4
 rw [e] at hk4
 have hlt : ∀ b, T b → b < A.heap.size := fun b hb => hJ.lt _ _ _ _ h.j (.inl hb)
 refine ⟨hk4, ?_, hlt, ?_, .inl (.inl h.m2), .inl (.inl h.m3), .inl (.inl h.m4), .inl (.inl h.mD), .inl (.inl h.ml), heap_dn f2 qb, heap_dn f3 qb, heap_dn f4 qb, heap_dn fl qb, heap_dn fK qb, heap_dn r2 qb, World.alloc_heap_new _ _, .inl (.inr rfl), .inr rfl, ⟨by omega, by omega, by omega⟩, ⟨by omega, by omega, by omega⟩⟩
 · rintro b ((x | rfl) | rfl) y
   · exact h.dis b x y
   · have := hlt _ y; omega
   · have := hlt _ y; omega
 · exact (((Moves.of_dn p1).trans (by rw [hA2]; exact Moves.put (.inl (.inl h.ml)) _ _)).trans (.of_dn qb))
end
end Go.Proofs.YteodjglbpfmikaaGreatDoor
