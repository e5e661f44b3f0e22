/- Walks and laws that the claim's theorem leans on: part 19. -/
import Derived.Test.YtoghoddjkdoohaaGreatDoorZKn1
import Derived.Test.YtoghoddjkdoohaaGreatDoorZKn18
namespace Go.Proofs.YtoghoddjkdoohaaGreatDoor
open Go.RowKit
set_option linter.unusedVariables false
theorem list_runK {ops : Array Oper} {rest : List Oper} {o : Oper} {a : Act} {Q : Exit -> Act -> World -> Prop} (hgd : o.guard = none) (s x : Operand)
   (ho : o.op = .call { callee := .builtin .append, args := #[s, x], argTypes := #[22, 22] }) (w : World) (base : Nat) (v : Value) (L : List Rq) (a0 b0 c0 d0 : Int) (hs : a.eval s = v) (hown : OwnQ w base v L)
   (hx : a.eval x = .slice (some ⟨w.heap.size, 0, none⟩) 1 1) (hl : L.length <= 1000000) (hb : base <= w.heap.size)
   (h : ∀ v' w', OwnQ w' base v' (L ++ [⟨a0, b0, c0, d0⟩]) -> w.grownBy w' v.ownBlock -> wpList Tryz.prog ops Q rest (a.put o.dst v') w') :
   wpList Tryz.prog ops Q (o :: rest) a (w.alloc (.cells #[.int .i8 a0, .int .i64 b0, .int .i8 c0, .int .i64 d0] 45)) := by
 obtain ⟨i0, hi, hz0, hz1, hz2⟩ := info_parts infoRun
 refine wpList_append_own (w.alloc (.cells #[.int .i8 a0, .int .i64 b0, .int .i8 c0, .int .i64 d0] 45)) hgd s x 22 ho base 45 i0 _ 4 32 Tryz.underlying22 hi hz0 hz1 hz2 rfl (by decide) v _ _ hs (hown.own.alloc _) ⟨w.heap.size, 0, none⟩ 1 1 (qc ⟨a0, b0, c0, d0⟩) hx rfl ?_ ?_ ?_ ?_ ?_ ?_
 · intro j u hj
   match j, hj with
   | 0, hj => simp [qc] at hj; subst hj; simp [Addr.add]
   | 1, hj => simp [qc] at hj; subst hj; simp [Addr.add]
   | 2, hj => simp [qc] at hj; subst hj; simp [Addr.add]
   | 3, hj => simp [qc] at hj; subst hj; simp [Addr.add]
   | n + 4, hj => simp [qc] at hj
 · intro u hu; simp [qc] at hu; rcases hu with rfl | rfl | rfl | rfl <;> rfl
 · unfold maxLen; omega
 · omega
 · simp; omega
 · intro v' w' k1 k2 _
   refine h v' w' ⟨?_⟩ (grown_trans (World.grownBy_alloc w _ v.ownBlock) k2); simpa using k1
theorem list_clip {ops : Array Oper} {rest : List Oper} {o : Oper} {a : Act} {Q : Exit -> Act -> World -> Prop} (hgd : o.guard = none) (s x : Operand)
   (ho : o.op = .call { callee := .builtin .append, args := #[s, x], argTypes := #[22, 22] }) (w : World) (g q n : Nat) (L : List Rq) (a0 b0 c0 d0 : Int) (hs : a.eval s = .slice (some ⟨g, q, none⟩) n n) (hn : L.length = n) (hc : Cs w g q L)
   (hx : a.eval x = .slice (some ⟨w.heap.size, 0, none⟩) 1 1) (hl : n <= 1000000)
   (h : ∀ v' w', OwnQ w' w.heap.size v' (L ++ [⟨a0, b0, c0, d0⟩]) -> Dn w w' -> wpList Tryz.prog ops Q rest (a.put o.dst v') w') :
   wpList Tryz.prog ops Q (o :: rest) a (w.alloc (.cells #[.int .i8 a0, .int .i64 b0, .int .i8 c0, .int .i64 d0] 45)) := by
 obtain ⟨i0, hi, hz0, hz1, hz2⟩ := info_parts infoRun
 obtain ⟨W, hW⟩ : ∃ W, W = w.alloc (.cells #[.int .i8 a0, .int .i64 b0, .int .i8 c0, .int .i64 d0] 45) := ⟨_, rfl⟩
 have hd : Dn w W := by rw [hW]; exact (Dn.refl _).alloc _
 have hnews : ∀ j u, (qc ⟨a0, b0, c0, d0⟩)[j]? = some u -> W.cell? ((⟨w.heap.size, 0, none⟩ : Addr).add j) = some u := by
   intro j u hj; rw [hW]
   match j, hj with
   | 0, hj => simp [qc] at hj; subst hj; simp [Addr.add]
   | 1, hj => simp [qc] at hj; subst hj; simp [Addr.add]
   | 2, hj => simp [qc] at hj; subst hj; simp [Addr.add]
   | 3, hj => simp [qc] at hj; subst hj; simp [Addr.add]
   | n + 4, hj => simp [qc] at hj
 have holds : ∀ j u, (L.flatMap qc)[j]? = some u -> W.cell? ((⟨g, q, none⟩ : Addr).add j) = some u := by
   intro j u hj
   have hj2 : j < L.length * 4 := by
     obtain ⟨h1, _⟩ := List.getElem?_eq_some_iff.1 hj; rw [qc_len] at h1; exact h1
   obtain ⟨i, t, ht, rfl⟩ : ∃ i t, t < 4 /\ j = i * 4 + t := ⟨j / 4, j % 4, by omega, by omega⟩; obtain ⟨r, hr⟩ : ∃ r, L[i]? = some r := ⟨L[i]'(by omega), by simp [show i < L.length by omega]⟩; rw [qc_get L i t r hr ht] at hj; obtain ⟨e0, e1, e2, e3⟩ := (hc.dn hd).el i r hr
   have hadd : (⟨g, q, none⟩ : Addr).add (i * 4 + t) = ⟨g, q + i * 4 + t, none⟩ := by unfold Addr.add; split <;> simp_all <;> omega
   rw [hadd]
   match t, hj with
   | 0, hj => simp [qc] at hj; subst hj; exact e0
   | 1, hj => simp [qc] at hj; subst hj; exact e1
   | 2, hj => simp [qc] at hj; subst hj; exact e2
   | 3, hj => simp [qc] at hj; subst hj; exact e3
   | n + 4, hj => simp [qc] at hj
 rw [<- hW]
 have hr := run_append_grow (P := Tryz.prog) W 22 o.type 45 i0 _ Tryz.underlying22 hi hz0 ⟨g, q, none⟩ n n (L.flatMap qc) (by rw [qc_len, hn, hz1]) holds ⟨w.heap.size, 0, none⟩ 1 1 (qc ⟨a0, b0, c0, d0⟩) (by rw [hz1]; rfl) hnews (by omega) (by omega) (growslice_fits (by omega) (by rw [hz2]; omega))
 have hge := grownCap_ge W (n + 1) n 45
 have hcm : grownCap W (n + 1) n 45 <= maxLen := grownCap_le_maxLen W (n + 1) n 45 (by unfold maxLen; omega)
 have hlen : (L.flatMap qc ++ qc ⟨a0, b0, c0, d0⟩).length = (n + 1) * 4 := by rw [List.length_append, qc_len, hn]; simp [qc]; omega
 have hfl : (L ++ [(⟨a0, b0, c0, d0⟩ : Rq)]).flatMap qc = L.flatMap qc ++ qc ⟨a0, b0, c0, d0⟩ := by simp
 have hll : (L ++ [(⟨a0, b0, c0, d0⟩ : Rq)]).length = n + 1 := by simp [hn]
 refine wpList_plain hgd fun K hK => ?_
 unfold Oper.wp execOp
 simp only [ho, resolve, invoke, builtin, Sem.run_bind, Sem.run_pure, Result.andThen_ok, List.map_toArray, List.map_cons, List.map_nil, hs, hx, hr]
 refine hK _ _ (h _ _ ⟨?_⟩ ?_)
 · rw [hll, hfl]
   refine ⟨hlen, .inr ⟨W.heap.size, _, _, rfl, hd.size, heap_alloc_new W.drew _, hge, hcm, ?_, ?_⟩⟩
   · simp only [Array.size_append, List.size_toArray, size_zeroCells]
     have e4 : ((Tryz.prog.info? 45).map (fun i => (i.zero, i.size, i.bytes))) = some (some (.agg #[.int .i8 0, .int .i64 0, .int .i8 0, .int .i64 0]), 4, 32) := infoRun; rw [qc_len, hn]; simp [qc, Value.cells]; omega
   · simp only [Array.toList_append, List.append_assoc]
     rw [<- List.append_assoc, <- hlen]; exact List.take_left
 · exact (hd.drew).alloc _
theorem own_ne {w : World} {b1 b2 : Nat} {v u : Value} {L M : List Rq} {x y : Rq} (h : OwnQ w b1 v L) (k : OwnQ w b2 u M) (hx : L[0]? = some x) (hy : M[0]? = some y) (hn : x.b ≠ y.b) : v.ownBlock = none \/ v.ownBlock ≠ u.ownBlock := by
 rcases h.form with ⟨rfl, _⟩ | ⟨g, c, rfl, _, _, _, hc⟩
 · exact .inl rfl
 · right
   intro e; rcases k.form with ⟨rfl, _⟩ | ⟨g', c', rfl, _, _, _, hc'⟩
   · cases e
   · injection e with e
     have e' : g = g' := e; subst e'; have h1 := (hc.el 0 x hx).2.1; have h2 := (hc'.el 0 y hy).2.1; rw [h1] at h2; injection h2 with h2; injection h2 with _ h2; exact hn h2
theorem OwnQ.keptNe {w w' : World} {base : Nat} {v : Value} {L : List Rq} {row : Option Nat} (h : OwnQ w base v L) (hg : w.grownBy w' row) (hne : v.ownBlock = none \/ v.ownBlock ≠ row) : OwnQ w' base v L := ⟨h.own.kept hg hne⟩
theorem cs_drop {w : World} {g o : Nat} {L : List Rq} (h : Cs w g o L) (m : Nat) : Cs w g (o + m * 4) (L.drop m) := ⟨h.lt, fun k x hx => by
 rw [List.getElem?_drop] at hx
 have he := h.el (m + k) x hx
 unfold El at he ⊢
 have e : o + (m + k) * 4 = o + m * 4 + k * 4 := by omega
 rw [e] at he
 exact he⟩
theorem cs_take {w : World} {g o : Nat} {L : List Rq} (h : Cs w g o L) (m : Nat) : Cs w g o (L.take m) := ⟨h.lt, fun k x hx => by
 rw [List.getElem?_take] at hx
 split at hx
 · exact h.el k x hx
 · cases hx⟩
theorem infoSl : (Tryz.prog.info? 22).map (fun i => (i.zero, i.size, i.bytes)) = some (some (.slice none 0 0), 1, 24) := by kernel_rfl
def One (w : World) (u : Value) (r : Rq) : Prop := ∃ b, u = .slice (some ⟨b, 0, none⟩) 1 1 /\ Cs w b 0 [r]
theorem One.dn {w w' : World} {u : Value} {r : Rq} (h : One w u r) (q : Dn w w') : One w' u r := by obtain ⟨b, e, h⟩ := h; exact ⟨b, e, h.dn q⟩
structure OwnS (w : World) (base : Nat) (v : Value) (xs : List Value) (rs : List Rq) : Prop where
 own : w.ownsRow base 22 1 v rs.length xs
 el : ∀ (i : Nat) (r : Rq), rs[i]? = some r -> ∃ u, xs[i]? = some u /\ One w u r
 ok : I6 rs
theorem OwnS.nil (w : World) (base : Nat) : OwnS w base (.slice none 0 0) [] [] := ⟨World.ownsRow_nil _ _ _ _, fun i r h => by simp at h, fun x h => by cases h⟩
theorem OwnS.apart {w : World} {base : Nat} {v : Value} {xs : List Value} {rs : List Rq} (h : OwnS w base v xs rs) {i : Nat} {r : Rq} {b : Nat} (hr : rs[i]? = some r) (hc : Cs w b 0 [r]) : some b ≠ v.ownBlock := by
 intro e
 obtain ⟨r0, h0⟩ : ∃ r0, rs[0]? = some r0 := ⟨rs[0]'(by have := (List.getElem?_eq_some_iff.1 hr).1; omega), List.getElem?_eq_getElem _⟩
 obtain ⟨u, hu, b', rfl, _⟩ := h.el 0 r0 h0
 have h1 := h.own.cells (g := b) e.symm 0 _ hu
 have h2 := (hc.el 0 r rfl).1
 have ha : (⟨b, 0, none⟩ : Addr).add 0 = ⟨b, 0 + 0 * 4, none⟩ := by unfold Addr.add; split <;> simp_all
 rw [ha, h2] at h1
 injection h1 with h1
 cases h1
theorem cs_grown {w w' : World} {b : Nat} {L : List Rq} {row : Option Nat} (h : Cs w b 0 L) (hg : w.grownBy w' row) (hne : some b ≠ row) : Cs w' b 0 L := ⟨Nat.lt_of_lt_of_le h.lt hg.size, fun k x hx => by
 obtain ⟨e0, e1, e2, e3⟩ := h.el k x hx
 exact ⟨hg.cell e0 hne, hg.cell e1 hne, hg.cell e2 hne, hg.cell e3 hne⟩⟩
theorem step_row {ops : Array Oper} {o : Oper} {a : Act} {K : Act -> World -> Prop} {Q : Exit -> Act -> World -> Prop} {E : Prop} (hgd : o.guard = none) (s x : Operand)
   (ho : o.op = .call { callee := .builtin .append, args := #[s, x], argTypes := #[68, 68] }) (w : World) (base : Nat) (v : Value) (xs : List Value) (rs : List Rq) (a0 b0 c0 d0 : Int) (hs : a.eval s = v) (hown : OwnS w base v xs rs)
   (hx : a.eval x = .slice (some ⟨w.heap.size + 1, 0, none⟩) 1 1) (hl : rs.length <= 1000000) (hb : base <= w.heap.size) (h1 : I64 b0) (h2 : I64 d0)
   (h : ∀ v' w', (∃ xs', OwnS w' base v' xs' (rs ++ [⟨a0, b0, c0, d0⟩])) -> w.grownBy w' v.ownBlock -> K (a.put o.dst v') w') :
   if Region.wanted o (yielded ops a.tmps) = true then Oper.wp Tryz.prog o a (((w.alloc (.cells #[.int .i8 a0, .int .i64 b0, .int .i8 c0, .int .i64 d0] 45)).alloc (.cells #[.slice (some ⟨w.heap.size, 0, none⟩) 1 1] 22)).drew) K Q else E := by
 have hw : Region.wanted o (yielded ops a.tmps) = true := by simp [Region.wanted, hgd]
 rw [if_pos hw]
 obtain ⟨i0, hi, hz0, hz1, hz2⟩ := info_parts infoSl
 obtain ⟨W, hW⟩ : ∃ W, W = ((w.alloc (.cells #[.int .i8 a0, .int .i64 b0, .int .i8 c0, .int .i64 d0] 45)).alloc (.cells #[.slice (some ⟨w.heap.size, 0, none⟩) 1 1] 22)).drew := ⟨_, rfl⟩
 have hd : Dn w W := by rw [hW]; exact (((Dn.refl _).alloc _).alloc _).drew
 have g1 : w.grownBy W v.ownBlock := grown_dn hd _
 have hcs : Cs W w.heap.size 0 [⟨a0, b0, c0, d0⟩] := by
   rw [hW]; refine ⟨by simp; omega, fun k x hx => ?_⟩
   match k, hx with
   | 0, hx => simp at hx; subst hx; exact ⟨by simp [go_sem], by simp [go_sem], by simp [go_sem], by simp [go_sem]⟩
   | k + 1, hx => simp at hx
 have hown2 : W.ownsRow base 22 1 v rs.length xs := by
   rw [hW]; exact World.ownsRow.drew ((hown.own.alloc _).alloc _)
 have hn : W.cell? ((⟨w.heap.size + 1, 0, none⟩ : Addr).add 0) = some (.slice (some ⟨w.heap.size, 0, none⟩) 1 1) := by rw [hW]; simp [Addr.add, go_sem]
 have hbW : base <= W.heap.size := Nat.le_trans hb hd.size
 rw [<- hW]
 clear hW
 refine wp_append_own W s x 68 ho base 22 i0 _ 1 24 Tryz.underlying68 hi hz0 hz1 hz2 rfl (by decide) v _ _ hs hown2 ⟨w.heap.size + 1, 0, none⟩ 1 1 [.slice (some ⟨w.heap.size, 0, none⟩) 1 1] hx rfl ?_ ?_ ?_ ?_ hbW ?_
 · intro j u hj
   match j, hj with
   | 0, hj => simp at hj; subst hj; exact hn
   | n + 1, hj => simp at hj
 · intro u hu; simp at hu; subst hu; rfl
 · unfold maxLen; omega
 · omega
 · intro v' w' k1 k2 _
   have hlx : xs.length = rs.length := by have := hown.own.1; omega
   refine h v' w' ⟨_, ⟨by simpa using k1, fun i r hr => ?_, fun y hy => ?_⟩⟩ (grown_trans g1 k2)
   · by_cases hi2 : i < rs.length
     · rw [List.getElem?_append_left hi2] at hr
       obtain ⟨u, hu, b, rfl, hc⟩ := hown.el i r hr; refine ⟨_, by rw [List.getElem?_append_left (by omega)]; exact hu, b, rfl, cs_grown hc (grown_trans g1 k2) (hown.apart hr hc)⟩
     · have hi3 : i = rs.length := by
        have := (List.getElem?_eq_some_iff.1 hr).1; simp at this; omega
       subst hi3; rw [List.getElem?_append_right (by omega)] at hr; simp at hr; subst hr; refine ⟨_, by rw [List.getElem?_append_right (by omega), hlx]; simp, w.heap.size, rfl, cs_grown hcs k2 (fun e => ?_)⟩; have := (hown.own.lt _ e.symm).2; omega
   · rcases List.mem_append.1 hy with e | e
     · exact hown.ok y e
     · obtain rfl := List.mem_singleton.1 e
       exact ⟨h1, h2⟩
theorem OwnS.row {w : World} {base : Nat} {v : Value} {xs : List Value} {rs : List Rq} (h : OwnS w base v xs rs) : ∀ k, v.ownBlock = some k -> base <= k := fun k hk => (h.own.lt k hk).1
def SetsAt (w : World) (g : Nat) (rs : List Rq) : Prop := ∀ (i : Nat) (r : Rq), rs[i]? = some r -> ∃ b, w.cell? ⟨g, i, none⟩ = some (.slice (some ⟨b, 0, none⟩) 1 1) /\ Cs w b 0 [r]
theorem SetsAt.dn {w w' : World} {g : Nat} {rs : List Rq} (h : SetsAt w g rs) (q : Dn w w') : SetsAt w' g rs := fun i r hr => by
 obtain ⟨b, e, h⟩ := h i r hr
 exact ⟨b, q.cell e, h.dn q⟩
theorem OwnS.form {w : World} {base : Nat} {v : Value} {xs : List Value} {rs : List Rq} (h : OwnS w base v xs rs) (hn : rs ≠ []) : ∃ g cap, v = .slice (some ⟨g, 0, none⟩) rs.length cap /\ rs.length <= cap /\ SetsAt w g rs := by
 rcases h.own.2 with ⟨rfl, h0⟩ | ⟨g, cap, cur, rfl, hb, hg, h1, h2, h3, h4⟩
 · exact absurd (List.length_eq_zero_iff.1 h0) hn
 · refine ⟨g, cap, rfl, h1, fun i r hi => ?_⟩
   obtain ⟨u, hu, b, rfl, hc⟩ := h.el i r hi; have := h.own.cells (g := g) rfl i _ hu
   have hadd : (⟨g, 0, none⟩ : Addr).add i = ⟨g, i, none⟩ := by unfold Addr.add; split <;> simp_all
   rw [hadd] at this; exact ⟨b, this, hc⟩
set_option maxHeartbeats 4000000
set_option maxRecDepth 100000
set_option linter.unusedSimpArgs false
def Row0 (W : World) (k : Nat) (p : Option Addr) (n : Nat) (L : List Rq) : Prop := if k = 0 then n = L.length /\ Row W p L else n = 0
theorem row0_dn {W W' : World} {k : Nat} {p : Option Addr} {n : Nat} {L : List Rq} (h : Row0 W k p n L) (q : Dn W W') : Row0 W' k p n L := by
 unfold Row0 at *
 split
 · rename_i e; rw [if_pos e] at h; exact ⟨h.1, h.2.dn q⟩
 · rename_i e; rwa [if_neg e] at h
structure Ss (w : World) (g : Nat) (f : Nat -> ByteArray) : Prop where
 at_ : ∀ k, k < 4 -> w.cell? ⟨g, k, none⟩ = some (.string (f k))
theorem Ss.dn {w w' : World} {g : Nat} {f : Nat -> ByteArray} (h : Ss w g f) (q : Dn w w') : Ss w' g f := ⟨fun k hk => q.cell (h.at_ k hk)⟩
theorem ss_new (w : World) (f : Nat -> ByteArray) (arr : Array Value) (h : ∀ k, k < 4 -> arr[k]? = some (.string (f k))) : Ss (w.alloc (.cells arr 9)) w.heap.size f :=
 ⟨fun k hk => by simp [go_sem]; exact h k hk⟩
theorem nsI_new (w : World) (vs : List Int) (arr : Array Value) (h : arr = (vs.map (Value.int .i64 ·)).toArray) : Ns (w.alloc (.cells arr 3)) w.heap.size vs := by
 refine ⟨by simp, fun k v hv => ?_⟩
 subst h
 simp [go_sem, hv]
theorem preKn66x1 (w : World) : ∃ W1, W1 = (((w.alloc (.cells #[.int .i8 (-1), .int .i64 0] 41)).alloc (.cells #[.int .i8 1, .int .i64 0] 41)).alloc (.cells #[.int .i8 0, .int .i64 1, .int .i8 0, .int .i64 5, .int .i8 0, .int .i64 9, .int .i8 1, .int .i64 0] 45)).alloc (.cells #[.int .i64 4, .int .i64 10] 2) /\ (Dn w W1) /\ (W1.cell? ⟨w.heap.size, 0, none⟩ = some (.int .i8 (-1))) /\ (W1.cell? ⟨w.heap.size, 1, none⟩ = some (.int .i64 0)) /\ (w.heap.size < W1.heap.size) /\ (W1.cell? ⟨w.heap.size + 1, 0, none⟩ = some (.int .i8 1)) /\ (W1.cell? ⟨w.heap.size + 1, 1, none⟩ = some (.int .i64 0)) /\ (w.heap.size + 1 < W1.heap.size) := by
 obtain ⟨W1, hW1⟩ : ∃ W1, W1 = (((w.alloc (.cells #[.int .i8 (-1), .int .i64 0] 41)).alloc (.cells #[.int .i8 1, .int .i64 0] 41)).alloc (.cells #[.int .i8 0, .int .i64 1, .int .i8 0, .int .i64 5, .int .i8 0, .int .i64 9, .int .i8 1, .int .i64 0] 45)).alloc (.cells #[.int .i64 4, .int .i64 10] 2) := ⟨_, rfl⟩
 refine ⟨W1, hW1, (by rw [hW1]; exact ((((Dn.refl _).alloc _).alloc _).alloc _).alloc _), ?_, ?_, ?_, ?_, ?_, ?_⟩ <;> rw [hW1] <;> first | (simp [go_sem]; done) | (simp <;> omega)
theorem lives10_walk (strK : Nat -> ByteArray) (errK : Nat -> Int) (wantL : List Int) (wantF : Nat -> Int) (A1 A2 A3 A4 A5 R1 R2 R3 C1 C2 C3 D1 D2 D3 E1 E2 E3 D4 lC lD lE : List Rq) (SA1 : Hid (∀ g W, Ns W g [5, 9, 1, 2, 3, 3, 8, 12] -> Calls Tryz.prog 38 #[.slice (some ⟨g, 0, none⟩) 8 8] W fun ro w' => ∃ p' cap', ro = .returned (.slice p' A1.length cap') /\ Rl w' p' cap' A1 /\ Dn W w')) (SA2 : Hid (∀ g W, Ns W g [1, 2, 5, 6] -> Calls Tryz.prog 38 #[.slice (some ⟨g, 0, none⟩) 4 4] W fun ro w' => ∃ p' cap', ro = .returned (.slice p' A2.length cap') /\ Rl w' p' cap' A2 /\ Dn W w')) (SA3 : Hid (∀ g W, Ns W g [3, 3] -> Calls Tryz.prog 38 #[.slice (some ⟨g, 0, none⟩) 2 2] W fun ro w' => ∃ p' cap', ro = .returned (.slice p' A3.length cap') /\ Rl w' p' cap' A3 /\ Dn W w')) (SA4 : Hid (∀ g W, Ns W g [1, 9] -> Calls Tryz.prog 38 #[.slice (some ⟨g, 0, none⟩) 2 2] W fun ro w' => ∃ p' cap', ro = .returned (.slice p' A4.length cap') /\ Rl w' p' cap' A4 /\ Dn W w')) (SA5 : Hid (∀ g W, Ns W g [3, 4, 6, 6] -> Calls Tryz.prog 38 #[.slice (some ⟨g, 0, none⟩) 4 4] W fun ro w' => ∃ p' cap', ro = .returned (.slice p' A5.length cap') /\ Rl w' p' cap' A5 /\ Dn W w')) (SR1 : Hid (∀ g W, Ns W g [1, 3, 5, 12] -> Calls Tryz.prog 38 #[.slice (some ⟨g, 0, none⟩) 4 4] W fun ro w' => ∃ p' cap', ro = .returned (.slice p' R1.length cap') /\ Rl w' p' cap' R1 /\ Dn W w')) (SR2 : Hid (∀ g W, Ns W g [1, 3, 5, 6] -> Calls Tryz.prog 38 #[.slice (some ⟨g, 0, none⟩) 4 4] W fun ro w' => ∃ p' cap', ro = .returned (.slice p' R2.length cap') /\ Rl w' p' cap' R2 /\ Dn W w')) (SR3 : Hid (∀ g W, Ns W g [1, 2, 5, 5, 7, 9] -> Calls Tryz.prog 38 #[.slice (some ⟨g, 0, none⟩) 6 6] W fun ro w' => ∃ p' cap', ro = .returned (.slice p' R3.length cap') /\ Rl w' p' cap' R3 /\ Dn W w')) (SC1 : Hid (∀ g W, Ns W g [1, 2, 3, 4] -> Calls Tryz.prog 38 #[.slice (some ⟨g, 0, none⟩) 4 4] W fun ro w' => ∃ p' cap', ro = .returned (.slice p' C1.length cap') /\ Rl w' p' cap' C1 /\ Dn W w')) (SC2 : Hid (∀ g W, Ns W g [5, 6, 1, 2] -> Calls Tryz.prog 38 #[.slice (some ⟨g, 0, none⟩) 4 4] W fun ro w' => ∃ p' cap', ro = .returned (.slice p' C2.length cap') /\ Rl w' p' cap' C2 /\ Dn W w')) (SC3 : Hid (∀ g W, Ns W g [1, 2, 4, 4] -> Calls Tryz.prog 38 #[.slice (some ⟨g, 0, none⟩) 4 4] W fun ro w' => ∃ p' cap', ro = .returned (.slice p' C3.length cap') /\ Rl w' p' cap' C3 /\ Dn W w')) (SD1 : Hid (∀ g W, Ns W g [4, 10] -> Calls Tryz.prog 38 #[.slice (some ⟨g, 0, none⟩) 2 2] W fun ro w' => ∃ p' cap', ro = .returned (.slice p' D1.length cap') /\ Rl w' p' cap' D1 /\ Dn W w')) (SD2 : Hid (∀ g W, Ns W g [0, 9223372036854775807] -> Calls Tryz.prog 38 #[.slice (some ⟨g, 0, none⟩) 2 2] W fun ro w' => ∃ p' cap', ro = .returned (.slice p' D2.length cap') /\ Rl w' p' cap' D2 /\ Dn W w')) (SD3 : Hid (∀ g W, Ns W g [4, 5, 9, 10] -> Calls Tryz.prog 38 #[.slice (some ⟨g, 0, none⟩) 4 4] W fun ro w' => ∃ p' cap', ro = .returned (.slice p' D3.length cap') /\ Rl w' p' cap' D3 /\ Dn W w')) (SE1 : Hid (∀ g W, Ns W g [2, 3] -> Calls Tryz.prog 38 #[.slice (some ⟨g, 0, none⟩) 2 2] W fun ro w' => ∃ p' cap', ro = .returned (.slice p' E1.length cap') /\ Rl w' p' cap' E1 /\ Dn W w')) (SE2 : Hid (∀ g W, Ns W g [1, 5, 9, 9] -> Calls Tryz.prog 38 #[.slice (some ⟨g, 0, none⟩) 4 4] W fun ro w' => ∃ p' cap', ro = .returned (.slice p' E2.length cap') /\ Rl w' p' cap' E2 /\ Dn W w')) (SE3 : Hid (∀ g W, Ns W g [1, 3, 7, 7] -> Calls Tryz.prog 38 #[.slice (some ⟨g, 0, none⟩) 4 4] W fun ro w' => ∃ p' cap', ro = .returned (.slice p' E3.length cap') /\ Rl w' p' cap' E3 /\ Dn W w')) (SD4 : Hid (∀ g W, Ns W g [1, 3, 5, 5] -> Calls Tryz.prog 38 #[.slice (some ⟨g, 0, none⟩) 4 4] W fun ro w' => ∃ p' cap', ro = .returned (.slice p' D4.length cap') /\ Rl w' p' cap' D4 /\ Dn W w')) (HOf : Hid (∀ W p cap, Rl W p cap A1 -> Calls Tryz.prog 10 #[.slice p A1.length cap] W fun ro w' => ∃ p', ro = .returned (.tuple #[.slice p' R1.length R1.length, .int .i64 0]) /\ Row w' p' R1 /\ Dn W w')) (HUn : Hid (∀ W p cap q cap2, Rl W p cap A2 -> Rl W q cap2 A3 -> Calls Tryz.prog 24 #[.slice p A2.length cap, .slice q A3.length cap2] W fun ro w' => ∃ p', ro = .returned (.tuple #[.slice p' R2.length R2.length, .int .i64 0]) /\ Row w' p' R2 /\ Dn W w')) (HWo : Hid (∀ W p cap q cap2, Rl W p cap A4 -> Rl W q cap2 A5 -> Calls Tryz.prog 26 #[.slice p A4.length cap, .slice q A5.length cap2] W fun ro w' => ∃ p', ro = .returned (.tuple #[.slice p' R3.length R3.length, .int .i64 0]) /\ Row w' p' R3 /\ Dn W w')) (KC1 : Hid (∀ W p cap, Rl W p cap C1 -> Calls Tryz.prog 14 #[.slice p C1.length cap] W fun ro w' => ro = .returned (.int .i64 12) /\ Dn W w')) (KC2 : Hid (∀ W p cap, Rl W p cap C2 -> Calls Tryz.prog 14 #[.slice p C2.length cap] W fun ro w' => ro = .returned (.int .i64 12) /\ Dn W w')) (KC3 : Hid (∀ W p cap, Rl W p cap C3 -> Calls Tryz.prog 14 #[.slice p C3.length cap] W fun ro w' => ro = .returned (.int .i64 0) /\ Dn W w')) (HCo : Hid (∀ W p q cap2, Row W p ([⟨0, 1, 0, 5⟩, ⟨0, 9, 1, 0⟩] : List Rq) -> Rl W q cap2 D1 -> Calls Tryz.prog 25 #[.slice p 2 2, .slice q D1.length cap2] W fun ro w' => ∃ p', ro = .returned (.tuple #[.slice p' D3.length D3.length, .int .i64 0]) /\ Row w' p' D3 /\ Dn W w')) (HCb : Hid (∀ W p, Row W p ([⟨(-1), 0, 0, 0⟩, ⟨0, 5, 0, 6⟩] : List Rq) -> Calls Tryz.prog 17 #[.slice p 2 2] W fun ro w' => ∃ p', ro = .returned (.tuple #[.slice p' lC.length lC.length, .int .i64 0]) /\ Row w' p' lC /\ Dn W w')) (HCc : Hid (∀ W, Calls Tryz.prog 17 #[.slice none 0 0] W fun ro w' => ∃ p', ro = .returned (.tuple #[.slice p' lD.length lD.length, .int .i64 0]) /\ Row w' p' lD /\ Dn W w')) (HCd : Hid (∀ W p cap, Rl W p cap D2 -> Calls Tryz.prog 17 #[.slice p D2.length cap] W fun ro w' => ∃ p', ro = .returned (.tuple #[.slice p' lE.length lE.length, .int .i64 0]) /\ Row w' p' lE /\ Dn W w')) (HWi : Hid (∀ W p cap q cap2, Rl W p cap E1 -> Rl W q cap2 E2 -> Calls Tryz.prog 27 #[.slice p E1.length cap, .slice q E2.length cap2] W fun ro w' => ro = .returned (.tuple #[.bool true, .int .i64 0]) /\ Dn W w')) (HCt : Hid (∀ W p cap, Rl W p cap E3 -> Calls Tryz.prog 19 #[.slice p E3.length cap] W fun ro w' => ro = .returned (.tuple #[.int .i64 4, .int .i64 0]) /\ Dn W w')) (HMi : Hid (∀ W, Calls Tryz.prog 21 #[.slice none 0 0] W fun ro w' => ro = .returned (.tuple #[.agg #[.int .i8 0, .int .i64 0], .int .i64 17]) /\ Dn W w')) (HMx : Hid (∀ W p, Row W p ([⟨0, 1, 1, 0⟩] : List Rq) -> Calls Tryz.prog 22 #[.slice p 1 1] W fun ro w' => ro = .returned (.tuple #[.agg #[.int .i8 1, .int .i64 0], .int .i64 0]) /\ Dn W w')) (NR1 : Hid (R1.length <= 100000)) (NR2 : Hid (R2.length <= 100000)) (NR3 : Hid (R3.length <= 100000)) (ND3 : Hid (D3.length <= 100000)) (NlC : Hid (lC.length <= 100000)) (NlD : Hid (lD.length <= 100000)) (NlE : Hid (lE.length <= 100000)) (ND4 : Hid (D4.length <= 100000)) (GlC : Hid (∀ W p q, Row W p lC -> Row W q ([⟨0, 1, 0, 4⟩, ⟨0, 7, 1, 0⟩] : List Rq) -> Calls Tryz.prog 13 #[.slice p lC.length lC.length, .int .i64 0, .slice q 2 2, .int .i64 0] W fun ro w' => ro = .returned (.bool true) /\ Dn W w')) (GlD : Hid (∀ W p q, Row W p lD -> Row W q ([⟨(-1), 0, 1, 0⟩] : List Rq) -> Calls Tryz.prog 13 #[.slice p lD.length lD.length, .int .i64 0, .slice q 1 1, .int .i64 0] W fun ro w' => ro = .returned (.bool true) /\ Dn W w')) (GlE : Hid (∀ W p q, Row W p lE -> Row W q ([⟨(-1), 0, 0, (-1)⟩] : List Rq) -> Calls Tryz.prog 13 #[.slice p lE.length lE.length, .int .i64 0, .slice q 1 1, .int .i64 0] W fun ro w' => ro = .returned (.bool true) /\ Dn W w')) (HS4 : Hid (∀ k, k < 4 -> (#[.string ⟨#[49, 46, 46, 51, 44, 53, 46, 46, 53]⟩, .string ⟨#[]⟩, .string ⟨#[49, 46, 46, 51, 44]⟩, .string ⟨#[49, 46, 46, 51, 44, 52, 46, 46, 52]⟩] : Array Value)[k]? = some (.string (strK k)))) (HW4 : Hid ((#[.int .i64 0, .int .i64 5, .int .i64 5, .int .i64 12] : Array Value) = (wantL.map (Value.int .i64 ·)).toArray)) (HWk : Hid (∀ k, k < 4 -> wantL[k]? = some (wantF k))) (HGv : Hid (∀ k, k < 4 -> ∀ W p n q c, Row0 W k p n D4 -> Row W q D4 -> Calls Tryz.prog 13 #[.slice p n n, .int .i64 (errK k), .slice q D4.length c, .int .i64 (wantF k)] W fun ro w' => ro = .returned (.bool true) /\ Dn W w')) (HPa : Hid (∀ k, k < 4 -> ∀ W, EnvR W -> Calls Tryz.prog 34 #[.string (strK k)] W fun ro w' => ∃ p' n', ro = .returned (.tuple #[.slice p' n' n', .int .i64 (errK k)]) /\ Row0 w' k p' n' D4 /\ Dn W w')) (w : World) (hE : EnvR w) :
  Calls Tryz.prog 9 #[] w fun ro w' => ro = .returned (.bool true) /\ Dn w w' := by
 go_enter Tryz.func9, Tryz.ntmps9
 go_wp2_with fail
 obtain ⟨W1, hW1⟩ : ∃ W1, W1 = w.alloc (.cells #[.int .i64 5, .int .i64 9, .int .i64 1, .int .i64 2, .int .i64 3, .int .i64 3, .int .i64 8, .int .i64 12] 2) := ⟨_, rfl⟩
 have uW1 : Dn w W1 := by rw [hW1]; exact (Dn.refl _).alloc _
 have nA1 : Ns W1 w.heap.size [5, 9, 1, 2, 3, 3, 8, 12] := by rw [hW1]; exact ns_new _ _ _ rfl
 rw [<- hW1]
 clear hW1
 go_wp2_with fail
 refine (SA1.out _ _ nA1).mono ?_
 rintro e w1 ⟨pA1, cA1, rfl, rA1, qw1⟩
 replace nA1 := nA1.dn qw1
 have uw1 := uW1.trans qw1
 clear qw1 uW1
 clear nA1
 go_wp2_with fail
 refine (HOf.out _ _ _ rA1).mono ?_
 rintro e w2 ⟨pa, rfl, ra, qw2⟩
 replace rA1 := rA1.dn qw2
 have uw2 := uw1.trans qw2
 clear qw2 uw1
 clear rA1
 go_wp2_with fail
 obtain ⟨W2, hW2⟩ : ∃ W2, W2 = w2.alloc (.cells #[.int .i64 1, .int .i64 2, .int .i64 5, .int .i64 6] 2) := ⟨_, rfl⟩
 have uW2 : Dn w2 W2 := by rw [hW2]; exact (Dn.refl _).alloc _
 replace ra := ra.dn uW2
 have nA2 : Ns W2 w2.heap.size [1, 2, 5, 6] := by rw [hW2]; exact ns_new _ _ _ rfl
 rw [<- hW2]
 clear hW2
 have vW2 := uw2.trans uW2
 clear uW2 uw2
 go_wp2_with fail
 refine (SA2.out _ _ nA2).mono ?_
 rintro e w3 ⟨pA2, cA2, rfl, rA2, qw3⟩
 replace ra := ra.dn qw3
 replace nA2 := nA2.dn qw3
 have uw3 := vW2.trans qw3
 clear qw3 vW2
 clear nA2
 go_wp2_with fail
 obtain ⟨W3, hW3⟩ : ∃ W3, W3 = w3.alloc (.cells #[.int .i64 3, .int .i64 3] 2) := ⟨_, rfl⟩
 have uW3 : Dn w3 W3 := by rw [hW3]; exact (Dn.refl _).alloc _
 replace ra := ra.dn uW3
 replace rA2 := rA2.dn uW3
 have nA3 : Ns W3 w3.heap.size [3, 3] := by rw [hW3]; exact ns_new _ _ _ rfl
 rw [<- hW3]
 clear hW3
 have vW3 := uw3.trans uW3
 clear uW3 uw3
 go_wp2_with fail
 refine (SA3.out _ _ nA3).mono ?_
 rintro e w4 ⟨pA3, cA3, rfl, rA3, qw4⟩
 replace ra := ra.dn qw4
 replace rA2 := rA2.dn qw4
 replace nA3 := nA3.dn qw4
 have uw4 := vW3.trans qw4
 clear qw4 vW3
 clear nA3
 go_wp2_with fail
 refine (HUn.out _ _ _ _ _ rA2 rA3).mono ?_
 rintro e w5 ⟨pb, rfl, rb, qw5⟩
 replace ra := ra.dn qw5
 replace rA2 := rA2.dn qw5
 replace rA3 := rA3.dn qw5
 have uw5 := uw4.trans qw5
 clear qw5 uw4
 clear rA2 rA3
 go_wp2_with fail
 obtain ⟨W4, hW4⟩ : ∃ W4, W4 = w5.alloc (.cells #[.int .i64 1, .int .i64 9] 2) := ⟨_, rfl⟩
 have uW4 : Dn w5 W4 := by rw [hW4]; exact (Dn.refl _).alloc _
 replace ra := ra.dn uW4
 replace rb := rb.dn uW4
 have nA4 : Ns W4 w5.heap.size [1, 9] := by rw [hW4]; exact ns_new _ _ _ rfl
 rw [<- hW4]
 clear hW4
 have vW4 := uw5.trans uW4
 clear uW4 uw5
 go_wp2_with fail
 refine (SA4.out _ _ nA4).mono ?_
 rintro e w6 ⟨pA4, cA4, rfl, rA4, qw6⟩
 replace ra := ra.dn qw6
 replace rb := rb.dn qw6
 replace nA4 := nA4.dn qw6
 have uw6 := vW4.trans qw6
 clear qw6 vW4
 clear nA4
 go_wp2_with fail
 obtain ⟨W5, hW5⟩ : ∃ W5, W5 = w6.alloc (.cells #[.int .i64 3, .int .i64 4, .int .i64 6, .int .i64 6] 2) := ⟨_, rfl⟩
 have uW5 : Dn w6 W5 := by rw [hW5]; exact (Dn.refl _).alloc _
 replace ra := ra.dn uW5
 replace rb := rb.dn uW5
 replace rA4 := rA4.dn uW5
 have nA5 : Ns W5 w6.heap.size [3, 4, 6, 6] := by rw [hW5]; exact ns_new _ _ _ rfl
 rw [<- hW5]
 clear hW5
 have vW5 := uw6.trans uW5
 clear uW5 uw6
 go_wp2_with fail
 refine (SA5.out _ _ nA5).mono ?_
 rintro e w7 ⟨pA5, cA5, rfl, rA5, qw7⟩
 replace ra := ra.dn qw7
 replace rb := rb.dn qw7
 replace rA4 := rA4.dn qw7
 replace nA5 := nA5.dn qw7
 have uw7 := vW5.trans qw7
 clear qw7 vW5
 clear nA5
 go_wp2_with fail
 refine (HWo.out _ _ _ _ _ rA4 rA5).mono ?_
 rintro e w8 ⟨pc, rfl, rc, qw8⟩
 replace ra := ra.dn qw8
 replace rb := rb.dn qw8
 replace rA4 := rA4.dn qw8
 replace rA5 := rA5.dn qw8
 have uw8 := uw7.trans qw8
 clear qw8 uw7
 clear rA4 rA5
 go_wp2_with fail
 obtain ⟨W6, hW6⟩ : ∃ W6, W6 = w8.alloc (.cells #[.int .i64 1, .int .i64 3, .int .i64 5, .int .i64 12] 2) := ⟨_, rfl⟩
 have uW6 : Dn w8 W6 := by rw [hW6]; exact (Dn.refl _).alloc _
 replace ra := ra.dn uW6
 replace rb := rb.dn uW6
 replace rc := rc.dn uW6
 have nR1 : Ns W6 w8.heap.size [1, 3, 5, 12] := by rw [hW6]; exact ns_new _ _ _ rfl
 rw [<- hW6]
 clear hW6
 have vW6 := uw8.trans uW6
 clear uW6 uw8
 go_wp2_with fail
 refine (SR1.out _ _ nR1).mono ?_
 rintro e w9 ⟨pR1, cR1, rfl, rR1, qw9⟩
 replace ra := ra.dn qw9
 replace rb := rb.dn qw9
 replace rc := rc.dn qw9
 replace nR1 := nR1.dn qw9
 have uw9 := vW6.trans qw9
 clear qw9 vW6
 clear nR1
 go_wp2_with fail
 refine (gv10 _ _ R1 0 _ _ R1 0 _ (Or.inl ⟨rfl, rfl, rfl, rfl⟩) NR1.out ra (fun _ => rR1.row)).mono ?_
 rintro e w10 ⟨rfl, qw10⟩
 replace ra := ra.dn qw10
 replace rb := rb.dn qw10
 replace rc := rc.dn qw10
 replace rR1 := rR1.dn qw10
 have uw10 := uw9.trans qw10
 clear qw10 uw9
 clear ra rR1
 go_wp2_with fail
 obtain ⟨W7, hW7⟩ : ∃ W7, W7 = w10.alloc (.cells #[.int .i64 1, .int .i64 3, .int .i64 5, .int .i64 6] 2) := ⟨_, rfl⟩
 have uW7 : Dn w10 W7 := by rw [hW7]; exact (Dn.refl _).alloc _
 replace rb := rb.dn uW7
 replace rc := rc.dn uW7
 have nR2 : Ns W7 w10.heap.size [1, 3, 5, 6] := by rw [hW7]; exact ns_new _ _ _ rfl
 rw [<- hW7]
 clear hW7
 have vW7 := uw10.trans uW7
 clear uW7 uw10
 go_wp2_with fail
 refine (SR2.out _ _ nR2).mono ?_
 rintro e w11 ⟨pR2, cR2, rfl, rR2, qw11⟩
 replace rb := rb.dn qw11
 replace rc := rc.dn qw11
 replace nR2 := nR2.dn qw11
 have uw11 := vW7.trans qw11
 clear qw11 vW7
 clear nR2
 go_wp2_with fail
 refine (gv10 _ _ R2 0 _ _ R2 0 _ (Or.inl ⟨rfl, rfl, rfl, rfl⟩) NR2.out rb (fun _ => rR2.row)).mono ?_
 rintro e w12 ⟨rfl, qw12⟩
 replace rb := rb.dn qw12
 replace rc := rc.dn qw12
 replace rR2 := rR2.dn qw12
 have uw12 := uw11.trans qw12
 clear qw12 uw11
 clear rb rR2
 go_wp2_with fail
 obtain ⟨W8, hW8⟩ : ∃ W8, W8 = w12.alloc (.cells #[.int .i64 1, .int .i64 2, .int .i64 5, .int .i64 5, .int .i64 7, .int .i64 9] 2) := ⟨_, rfl⟩
 have uW8 : Dn w12 W8 := by rw [hW8]; exact (Dn.refl _).alloc _
 replace rc := rc.dn uW8
 have nR3 : Ns W8 w12.heap.size [1, 2, 5, 5, 7, 9] := by rw [hW8]; exact ns_new _ _ _ rfl
 rw [<- hW8]
 clear hW8
 have vW8 := uw12.trans uW8
 clear uW8 uw12
 go_wp2_with fail
 refine (SR3.out _ _ nR3).mono ?_
 rintro e w13 ⟨pR3, cR3, rfl, rR3, qw13⟩
 replace rc := rc.dn qw13
 replace nR3 := nR3.dn qw13
 have uw13 := vW8.trans qw13
 clear qw13 vW8
 clear nR3
 go_wp2_with fail
 refine (gv10 _ _ R3 0 _ _ R3 0 _ (Or.inl ⟨rfl, rfl, rfl, rfl⟩) NR3.out rc (fun _ => rR3.row)).mono ?_
 rintro e w14 ⟨rfl, qw14⟩
 replace rc := rc.dn qw14
 replace rR3 := rR3.dn qw14
 have uw14 := uw13.trans qw14
 clear qw14 uw13
 clear rc rR3
 go_wp2_with fail
 obtain ⟨W9, hW9⟩ : ∃ W9, W9 = w14.alloc (.cells #[.int .i64 1, .int .i64 2, .int .i64 3, .int .i64 4] 2) := ⟨_, rfl⟩
 have uW9 : Dn w14 W9 := by rw [hW9]; exact (Dn.refl _).alloc _
 have nC1 : Ns W9 w14.heap.size [1, 2, 3, 4] := by rw [hW9]; exact ns_new _ _ _ rfl
 rw [<- hW9]
 clear hW9
 have vW9 := uw14.trans uW9
 clear uW9 uw14
 go_wp2_with fail
 refine (SC1.out _ _ nC1).mono ?_
 rintro e w15 ⟨pC1, cC1, rfl, rC1, qw15⟩
 replace nC1 := nC1.dn qw15
 have uw15 := vW9.trans qw15
 clear qw15 vW9
 clear nC1
 go_wp2_with fail
 refine (KC1.out _ _ _ rC1).mono ?_
 rintro e w16 ⟨rfl, qw16⟩
 replace rC1 := rC1.dn qw16
 have uw16 := uw15.trans qw16
 clear qw16 uw15
 clear rC1
 go_wp2_with fail
 obtain ⟨W10, hW10⟩ : ∃ W10, W10 = w16.alloc (.cells #[.int .i64 5, .int .i64 6, .int .i64 1, .int .i64 2] 2) := ⟨_, rfl⟩
 have uW10 : Dn w16 W10 := by rw [hW10]; exact (Dn.refl _).alloc _
 have nC2 : Ns W10 w16.heap.size [5, 6, 1, 2] := by rw [hW10]; exact ns_new _ _ _ rfl
 rw [<- hW10]
 clear hW10
 have vW10 := uw16.trans uW10
 clear uW10 uw16
 go_wp2_with fail
 refine (SC2.out _ _ nC2).mono ?_
 rintro e w17 ⟨pC2, cC2, rfl, rC2, qw17⟩
 replace nC2 := nC2.dn qw17
 have uw17 := vW10.trans qw17
 clear qw17 vW10
 clear nC2
 go_wp2_with fail
 refine (KC2.out _ _ _ rC2).mono ?_
 rintro e w18 ⟨rfl, qw18⟩
 replace rC2 := rC2.dn qw18
 have uw18 := uw17.trans qw18
 clear qw18 uw17
 clear rC2
 go_wp2_with fail
 obtain ⟨W11, hW11⟩ : ∃ W11, W11 = w18.alloc (.cells #[.int .i64 1, .int .i64 2, .int .i64 4, .int .i64 4] 2) := ⟨_, rfl⟩
 have uW11 : Dn w18 W11 := by rw [hW11]; exact (Dn.refl _).alloc _
 have nC3 : Ns W11 w18.heap.size [1, 2, 4, 4] := by rw [hW11]; exact ns_new _ _ _ rfl
 rw [<- hW11]
 clear hW11
 have vW11 := uw18.trans uW11
 clear uW11 uw18
 go_wp2_with fail
 refine (SC3.out _ _ nC3).mono ?_
 rintro e w19 ⟨pC3, cC3, rfl, rC3, qw19⟩
 replace nC3 := nC3.dn qw19
 have uw19 := vW11.trans qw19
 clear qw19 vW11
 clear nC3
 go_wp2_with fail
 refine (KC3.out _ _ _ rC3).mono ?_
 rintro e w20 ⟨rfl, qw20⟩
 replace rC3 := rC3.dn qw20
 have uw20 := uw19.trans qw20
 clear qw20 uw19
 clear rC3
 go_wp2_with fail
 obtain ⟨W12, hW12, uW12, a0, a1, a2, a3, a4, a5⟩ := preKn66x1 w20 
 have rlA : Row W12 (some ⟨w20.heap.size + 1 + 1, 0, none⟩) ([⟨0, 1, 0, 5⟩, ⟨0, 9, 1, 0⟩] : List Rq) := by
  rw [hW12]; have h := (rq_new (((w20.alloc (.cells #[.int .i8 (-1), .int .i64 0] 41)).alloc (.cells #[.int .i8 1, .int .i64 0] 41))) ([⟨0, 1, 0, 5⟩, ⟨0, 9, 1, 0⟩] : List Rq) #[.int .i8 0, .int .i64 1, .int .i8 0, .int .i64 5, .int .i8 0, .int .i64 9, .int .i8 1, .int .i64 0] rfl).dn ((Dn.refl _).alloc (.cells #[.int .i64 4, .int .i64 10] 2)); simpa using h
 have nD1 : Ns W12 (w20.heap.size + 1 + 1 + 1) [4, 10] := by
  rw [hW12]; have h := (ns_new ((((w20.alloc (.cells #[.int .i8 (-1), .int .i64 0] 41)).alloc (.cells #[.int .i8 1, .int .i64 0] 41)).alloc (.cells #[.int .i8 0, .int .i64 1, .int .i8 0, .int .i64 5, .int .i8 0, .int .i64 9, .int .i8 1, .int .i64 0] 45))) [4, 10] #[.int .i64 4, .int .i64 10] rfl).dn (Dn.refl _); simpa using h
 rw [<- hW12]
 clear hW12
 have vW12 := uw20.trans uW12
 clear uW12 uw20
 go_wp2_with fail
 refine (SD1.out _ _ nD1).mono ?_
 rintro e w21 ⟨pD1, cD1, rfl, rD1, qw21⟩
 replace rlA := rlA.dn qw21
 replace nD1 := nD1.dn qw21
 obtain ⟨a6, a9⟩ := nl2 qw21.size a2 a5
 obtain ⟨a7, a8, aA, aB⟩ := mv4 qw21.cell a0 a1 a3 a4
 clear a2 a0 a1 a5 a3 a4
 have uw21 := vW12.trans qw21
 clear qw21 vW12
 clear nD1
 go_wp2_with fail
 refine (HCo.out _ _ _ _ rlA rD1).mono ?_
 rintro e w22 ⟨pa, rfl, ra, qw22⟩
 replace rlA := rlA.dn qw22
 replace rD1 := rD1.dn qw22
 obtain ⟨aC, aF⟩ := nl2 qw22.size a6 a9
 obtain ⟨aD, aE, aG, aH⟩ := mv4 qw22.cell a7 a8 aA aB
 clear a6 a7 a8 a9 aA aB
 have uw22 := uw21.trans qw22
 clear qw22 uw21
 clear rlA rD1
 go_wp2_with fail
 obtain ⟨W31, hW31⟩ : ∃ W31, W31 = w22.alloc (.cells #[.int .i8 (-1), .int .i64 0, .int .i8 0, .int .i64 0, .int .i8 0, .int .i64 5, .int .i8 0, .int .i64 6] 45) := ⟨_, rfl⟩
 have uW31 : Dn w22 W31 := by rw [hW31]; exact (Dn.refl _).alloc _
 replace ra := ra.dn uW31
 obtain ⟨aI, aL⟩ := nl2 uW31.size aC aF
 obtain ⟨aJ, aK, aM, aN⟩ := mv4 uW31.cell aD aE aG aH
 clear aC aD aE aF aG aH
 have rlB : Row W31 (some ⟨w22.heap.size, 0, none⟩) ([⟨(-1), 0, 0, 0⟩, ⟨0, 5, 0, 6⟩] : List Rq) := by
  rw [hW31]; have h := (rq_new (w22) ([⟨(-1), 0, 0, 0⟩, ⟨0, 5, 0, 6⟩] : List Rq) #[.int .i8 (-1), .int .i64 0, .int .i8 0, .int .i64 0, .int .i8 0, .int .i64 5, .int .i8 0, .int .i64 6] rfl).dn (Dn.refl _); simpa using h
 rw [<- hW31]
 clear hW31
 have vW31 := uw22.trans uW31
 clear uW31 uw22
 go_wp2_with fail
 refine (HCb.out _ _ rlB).mono ?_
 rintro e w23 ⟨pb, rfl, rb, qw23⟩
 replace ra := ra.dn qw23
 replace rlB := rlB.dn qw23
 obtain ⟨aO, aR⟩ := nl2 qw23.size aI aL
 obtain ⟨aP, aQ, aS, aT⟩ := mv4 qw23.cell aJ aK aM aN
 clear aI aJ aK aL aM aN
 have uw23 := vW31.trans qw23
 clear qw23 vW31
 clear rlB
 go_wp2_with fail
 refine (HCc.out _).mono ?_
 rintro e w24 ⟨pc, rfl, rc, qw24⟩
 replace ra := ra.dn qw24
 replace rb := rb.dn qw24
 obtain ⟨aU, aX⟩ := nl2 qw24.size aO aR
 obtain ⟨aV, aW, aY, aZ⟩ := mv4 qw24.cell aP aQ aS aT
 clear aO aP aQ aR aS aT
 have uw24 := uw23.trans qw24
 clear qw24 uw23
 go_wp2_with fail
 obtain ⟨W50, hW50⟩ : ∃ W50, W50 = w24.alloc (.cells #[.int .i64 0, .int .i64 9223372036854775807] 2) := ⟨_, rfl⟩
 have uW50 : Dn w24 W50 := by rw [hW50]; exact (Dn.refl _).alloc _
 replace ra := ra.dn uW50
 replace rb := rb.dn uW50
 replace rc := rc.dn uW50
 obtain ⟨bA, bD⟩ := nl2 uW50.size aU aX
 obtain ⟨bB, bC, bE, bF⟩ := mv4 uW50.cell aV aW aY aZ
 clear aU aV aW aX aY aZ
 have nD2 : Ns W50 w24.heap.size [0, 9223372036854775807] := by rw [hW50]; exact ns_new _ _ _ rfl
 rw [<- hW50]
 clear hW50
 have vW50 := uw24.trans uW50
 clear uW50 uw24
 go_wp2_with fail
 refine (SD2.out _ _ nD2).mono ?_
 rintro e w25 ⟨pD2, cD2, rfl, rD2, qw25⟩
 replace ra := ra.dn qw25
 replace rb := rb.dn qw25
 replace rc := rc.dn qw25
 replace nD2 := nD2.dn qw25
 obtain ⟨bG, bJ⟩ := nl2 qw25.size bA bD
 obtain ⟨bH, bI, bK, bL⟩ := mv4 qw25.cell bB bC bE bF
 clear bA bB bC bD bE bF
 have uw25 := vW50.trans qw25
 clear qw25 vW50
 clear nD2
 go_wp2_with fail
 refine (HCd.out _ _ _ rD2).mono ?_
 rintro e w26 ⟨pd, rfl, rd, qw26⟩
 replace ra := ra.dn qw26
 replace rb := rb.dn qw26
 replace rc := rc.dn qw26
 replace rD2 := rD2.dn qw26
 obtain ⟨bM, bP⟩ := nl2 qw26.size bG bJ
 obtain ⟨bN, bO, bQ, bR⟩ := mv4 qw26.cell bH bI bK bL
 clear bG bH bI bJ bK bL
 have uw26 := uw25.trans qw26
 clear qw26 uw25
 clear rD2
 go_wp2_with fail
 obtain ⟨W69, hW69⟩ : ∃ W69, W69 = w26.alloc (.cells #[.int .i64 4, .int .i64 5, .int .i64 9, .int .i64 10] 2) := ⟨_, rfl⟩
 have uW69 : Dn w26 W69 := by rw [hW69]; exact (Dn.refl _).alloc _
 replace ra := ra.dn uW69
 replace rb := rb.dn uW69
 replace rc := rc.dn uW69
 replace rd := rd.dn uW69
 obtain ⟨bS, bV⟩ := nl2 uW69.size bM bP
 obtain ⟨bT, bU, bW, bX⟩ := mv4 uW69.cell bN bO bQ bR
 clear bM bN bO bP bQ bR
 have nD3 : Ns W69 w26.heap.size [4, 5, 9, 10] := by rw [hW69]; exact ns_new _ _ _ rfl
 rw [<- hW69]
 clear hW69
 have vW69 := uw26.trans uW69
 clear uW69 uw26
 go_wp2_with fail
 refine (SD3.out _ _ nD3).mono ?_
 rintro e w27 ⟨pD3, cD3, rfl, rD3, qw27⟩
 replace ra := ra.dn qw27
 replace rb := rb.dn qw27
 replace rc := rc.dn qw27
 replace rd := rd.dn qw27
 replace nD3 := nD3.dn qw27
 obtain ⟨bY, c1⟩ := nl2 qw27.size bS bV
 obtain ⟨bZ, c0, c2, c4⟩ := mv4 qw27.cell bT bU bW bX
 clear bS bT bU bV bW bX
 have uw27 := vW69.trans qw27
 clear qw27 vW69
 clear nD3
 go_wp2_with fail
 refine (gv10 _ _ D3 0 _ _ D3 0 _ (Or.inl ⟨rfl, rfl, rfl, rfl⟩) ND3.out ra (fun _ => rD3.row)).mono ?_
 rintro e w28 ⟨rfl, qw28⟩
 replace ra := ra.dn qw28
 replace rb := rb.dn qw28
 replace rc := rc.dn qw28
 replace rd := rd.dn qw28
 replace rD3 := rD3.dn qw28
 obtain ⟨c5, c8⟩ := nl2 qw28.size bY c1
 obtain ⟨c6, c7, c9, cA⟩ := mv4 qw28.cell bZ c0 c2 c4
 clear bY bZ c0 c1 c2 c4
 have uw28 := uw27.trans qw28
 clear qw28 uw27
 clear ra rD3
 go_wp2_with fail
 obtain ⟨W88, hW88⟩ : ∃ W88, W88 = w28.alloc (.cells #[.int .i8 0, .int .i64 1, .int .i8 0, .int .i64 4, .int .i8 0, .int .i64 7, .int .i8 1, .int .i64 0] 45) := ⟨_, rfl⟩
 have uW88 : Dn w28 W88 := by rw [hW88]; exact (Dn.refl _).alloc _
 replace rb := rb.dn uW88
 replace rc := rc.dn uW88
 replace rd := rd.dn uW88
 obtain ⟨cB, cF⟩ := nl2 uW88.size c5 c8
 obtain ⟨cC, cE, cG, cH⟩ := mv4 uW88.cell c6 c7 c9 cA
 clear c5 c6 c7 c8 c9 cA
 have rlC : Row W88 (some ⟨w28.heap.size, 0, none⟩) ([⟨0, 1, 0, 4⟩, ⟨0, 7, 1, 0⟩] : List Rq) := by
  rw [hW88]; have h := (rq_new (w28) ([⟨0, 1, 0, 4⟩, ⟨0, 7, 1, 0⟩] : List Rq) #[.int .i8 0, .int .i64 1, .int .i8 0, .int .i64 4, .int .i8 0, .int .i64 7, .int .i8 1, .int .i64 0] rfl).dn (Dn.refl _); simpa using h
 rw [<- hW88]
 clear hW88
 have vW88 := uw28.trans uW88
 clear uW88 uw28
 go_wp2_with fail
 refine (GlC.out _ _ _ rb rlC).mono ?_
 rintro e w29 ⟨rfl, qw29⟩
 replace rb := rb.dn qw29
 replace rc := rc.dn qw29
 replace rd := rd.dn qw29
 replace rlC := rlC.dn qw29
 obtain ⟨cI, cL⟩ := nl2 qw29.size cB cF
 obtain ⟨cJ, cK, cM, cN⟩ := mv4 qw29.cell cC cE cG cH
 clear cB cC cE cF cG cH
 have uw29 := vW88.trans qw29
 clear qw29 vW88
 clear rb rlC
 go_wp2_with fail
 obtain ⟨W101, hW101⟩ : ∃ W101, W101 = w29.alloc (.cells #[.int .i8 (-1), .int .i64 0, .int .i8 1, .int .i64 0] 45) := ⟨_, rfl⟩
 have uW101 : Dn w29 W101 := by rw [hW101]; exact (Dn.refl _).alloc _
 replace rc := rc.dn uW101
 replace rd := rd.dn uW101
 obtain ⟨cO, cR⟩ := nl2 uW101.size cI cL
 obtain ⟨cP, cQ, cS, cT⟩ := mv4 uW101.cell cJ cK cM cN
 clear cI cJ cK cL cM cN
 have rlD : Row W101 (some ⟨w29.heap.size, 0, none⟩) ([⟨(-1), 0, 1, 0⟩] : List Rq) := by
  rw [hW101]; have h := (rq_new (w29) ([⟨(-1), 0, 1, 0⟩] : List Rq) #[.int .i8 (-1), .int .i64 0, .int .i8 1, .int .i64 0] rfl).dn (Dn.refl _); simpa using h
 rw [<- hW101]
 clear hW101
 have vW101 := uw29.trans uW101
 clear uW101 uw29
 go_wp2_with fail
 refine (GlD.out _ _ _ rc rlD).mono ?_
 rintro e w30 ⟨rfl, qw30⟩
 replace rc := rc.dn qw30
 replace rd := rd.dn qw30
 replace rlD := rlD.dn qw30
 obtain ⟨cU, cX⟩ := nl2 qw30.size cO cR
 obtain ⟨cV, cW, cY, cZ⟩ := mv4 qw30.cell cP cQ cS cT
 clear cO cP cQ cR cS cT
 have uw30 := vW101.trans qw30
 clear qw30 vW101
 clear rc rlD
 go_wp2_with fail
 obtain ⟨W114, hW114⟩ : ∃ W114, W114 = w30.alloc (.cells #[.int .i8 (-1), .int .i64 0, .int .i8 0, .int .i64 (-1)] 45) := ⟨_, rfl⟩
 have uW114 : Dn w30 W114 := by rw [hW114]; exact (Dn.refl _).alloc _
 replace rd := rd.dn uW114
 obtain ⟨d0, d5⟩ := nl2 uW114.size cU cX
 obtain ⟨d3, d4, d6, d7⟩ := mv4 uW114.cell cV cW cY cZ
 clear cU cV cW cX cY cZ
 have rlE : Row W114 (some ⟨w30.heap.size, 0, none⟩) ([⟨(-1), 0, 0, (-1)⟩] : List Rq) := by
  rw [hW114]; have h := (rq_new (w30) ([⟨(-1), 0, 0, (-1)⟩] : List Rq) #[.int .i8 (-1), .int .i64 0, .int .i8 0, .int .i64 (-1)] rfl).dn (Dn.refl _); simpa using h
 rw [<- hW114]
 clear hW114
 have vW114 := uw30.trans uW114
 clear uW114 uw30
 go_wp2_with fail
 refine (GlE.out _ _ _ rd rlE).mono ?_
 rintro e w31 ⟨rfl, qw31⟩
 replace rd := rd.dn qw31
 replace rlE := rlE.dn qw31
 obtain ⟨d8, dB⟩ := nl2 qw31.size d0 d5
 obtain ⟨d9, dA, dC, dD⟩ := mv4 qw31.cell d3 d4 d6 d7
 clear d0 d3 d4 d5 d6 d7
 have uw31 := vW114.trans qw31
 clear qw31 vW114
 clear rd rlE
 go_wp2_with fail
 obtain ⟨W127, hW127⟩ : ∃ W127, W127 = w31.alloc (.cells #[.int .i64 2, .int .i64 3] 2) := ⟨_, rfl⟩
 have uW127 : Dn w31 W127 := by rw [hW127]; exact (Dn.refl _).alloc _
 obtain ⟨dE, dH⟩ := nl2 uW127.size d8 dB
 obtain ⟨dF, dG, dI, dJ⟩ := mv4 uW127.cell d9 dA dC dD
 clear d8 d9 dA dB dC dD
 have nE1 : Ns W127 w31.heap.size [2, 3] := by rw [hW127]; exact ns_new _ _ _ rfl
 rw [<- hW127]
 clear hW127
 have vW127 := uw31.trans uW127
 clear uW127 uw31
 go_wp2_with fail
 refine (SE1.out _ _ nE1).mono ?_
 rintro e w32 ⟨pE1, cE1, rfl, rE1, qw32⟩
 replace nE1 := nE1.dn qw32
 obtain ⟨dK, dN⟩ := nl2 qw32.size dE dH
 obtain ⟨dL, dM, dO, dP⟩ := mv4 qw32.cell dF dG dI dJ
 clear dE dF dG dH dI dJ
 have uw32 := vW127.trans qw32
 clear qw32 vW127
 clear nE1
 go_wp2_with fail
 obtain ⟨W140, hW140⟩ : ∃ W140, W140 = w32.alloc (.cells #[.int .i64 1, .int .i64 5, .int .i64 9, .int .i64 9] 2) := ⟨_, rfl⟩
 have uW140 : Dn w32 W140 := by rw [hW140]; exact (Dn.refl _).alloc _
 replace rE1 := rE1.dn uW140
 obtain ⟨dQ, dT⟩ := nl2 uW140.size dK dN
 obtain ⟨dR, dS, dU, dV⟩ := mv4 uW140.cell dL dM dO dP
 clear dK dL dM dN dO dP
 have nE2 : Ns W140 w32.heap.size [1, 5, 9, 9] := by rw [hW140]; exact ns_new _ _ _ rfl
 rw [<- hW140]
 clear hW140
 have vW140 := uw32.trans uW140
 clear uW140 uw32
 go_wp2_with fail
 refine (SE2.out _ _ nE2).mono ?_
 rintro e w33 ⟨pE2, cE2, rfl, rE2, qw33⟩
 replace rE1 := rE1.dn qw33
 replace nE2 := nE2.dn qw33
 obtain ⟨dW, dZ⟩ := nl2 qw33.size dQ dT
 obtain ⟨dX, dY, e9, eD⟩ := mv4 qw33.cell dR dS dU dV
 clear dQ dR dS dT dU dV
 have uw33 := vW140.trans qw33
 clear qw33 vW140
 clear nE2
 go_wp2_with fail
 refine (HWi.out _ _ _ _ _ rE1 rE2).mono ?_
 rintro e w34 ⟨rfl, qw34⟩
 replace rE1 := rE1.dn qw34
 replace rE2 := rE2.dn qw34
 obtain ⟨eE, eH⟩ := nl2 qw34.size dW dZ
 obtain ⟨eF, eG, eI, eJ⟩ := mv4 qw34.cell dX dY e9 eD
 clear dW dX dY dZ e9 eD
 have uw34 := uw33.trans qw34
 clear qw34 uw33
 clear rE1 rE2
 go_wp2_with fail
 obtain ⟨W159, hW159⟩ : ∃ W159, W159 = w34.alloc (.cells #[.int .i64 1, .int .i64 3, .int .i64 7, .int .i64 7] 2) := ⟨_, rfl⟩
 have uW159 : Dn w34 W159 := by rw [hW159]; exact (Dn.refl _).alloc _
 obtain ⟨eK, eN⟩ := nl2 uW159.size eE eH
 obtain ⟨eL, eM, eO, eP⟩ := mv4 uW159.cell eF eG eI eJ
 clear eE eF eG eH eI eJ
 have nE3 : Ns W159 w34.heap.size [1, 3, 7, 7] := by rw [hW159]; exact ns_new _ _ _ rfl
 rw [<- hW159]
 clear hW159
 have vW159 := uw34.trans uW159
 clear uW159 uw34
 go_wp2_with fail
 refine (SE3.out _ _ nE3).mono ?_
 rintro e w35 ⟨pE3, cE3, rfl, rE3, qw35⟩
 replace nE3 := nE3.dn qw35
 obtain ⟨eQ, eT⟩ := nl2 qw35.size eK eN
 obtain ⟨eR, eS, eU, eV⟩ := mv4 qw35.cell eL eM eO eP
 clear eK eL eM eN eO eP
 have uw35 := vW159.trans qw35
 clear qw35 vW159
 clear nE3
 go_wp2_with fail
 refine (HCt.out _ _ _ rE3).mono ?_
 rintro e w36 ⟨rfl, qw36⟩
 replace rE3 := rE3.dn qw36
 obtain ⟨eW, eZ⟩ := nl2 qw36.size eQ eT
 obtain ⟨eX, eY, fA, fB⟩ := mv4 qw36.cell eR eS eU eV
 clear eQ eR eS eT eU eV
 have uw36 := uw35.trans qw36
 clear qw36 uw35
 clear rE3
 go_wp2_with fail
 refine (HMi.out _).mono ?_
 rintro e w37 ⟨rfl, qw37⟩
 obtain ⟨fC, fF⟩ := nl2 qw37.size eW eZ
 obtain ⟨fD, fE, fG, fH⟩ := mv4 qw37.cell eX eY fA fB
 clear eW eX eY eZ fA fB
 have uw37 := uw36.trans qw37
 clear qw37 uw36
 go_wp2_with fail
 obtain ⟨W184, hW184⟩ : ∃ W184, W184 = w37.alloc (.cells #[.int .i8 0, .int .i64 1, .int .i8 1, .int .i64 0] 45) := ⟨_, rfl⟩
 have uW184 : Dn w37 W184 := by rw [hW184]; exact (Dn.refl _).alloc _
 obtain ⟨fI, fL⟩ := nl2 uW184.size fC fF
 obtain ⟨fJ, fK, fM, fN⟩ := mv4 uW184.cell fD fE fG fH
 clear fC fD fE fF fG fH
 have rlF : Row W184 (some ⟨w37.heap.size, 0, none⟩) ([⟨0, 1, 1, 0⟩] : List Rq) := by
  rw [hW184]; have h := (rq_new (w37) ([⟨0, 1, 1, 0⟩] : List Rq) #[.int .i8 0, .int .i64 1, .int .i8 1, .int .i64 0] rfl).dn (Dn.refl _); simpa using h
 rw [<- hW184]
 clear hW184
 have vW184 := uw37.trans uW184
 clear uW184 uw37
 go_wp2_with fail
 refine (HMx.out _ _ rlF).mono ?_
 rintro e w38 ⟨rfl, qw38⟩
 replace rlF := rlF.dn qw38
 obtain ⟨fO, fR⟩ := nl2 qw38.size fI fL
 obtain ⟨fP, fQ, fS, fT⟩ := mv4 qw38.cell fJ fK fM fN
 clear fI fJ fK fL fM fN
 have uw38 := vW184.trans qw38
 clear qw38 vW184
 clear rlF
 go_wp2_with fail
 obtain ⟨W197, hW197⟩ : ∃ W197, W197 = ((w38.alloc (.cells #[.int .i8 1, .int .i64 0] 41)).alloc (.cells #[.string ⟨#[49, 46, 46, 51, 44, 53, 46, 46, 53]⟩, .string ⟨#[]⟩, .string ⟨#[49, 46, 46, 51, 44]⟩, .string ⟨#[49, 46, 46, 51, 44, 52, 46, 46, 52]⟩] 9)).alloc (.cells #[.int .i64 0, .int .i64 5, .int .i64 5, .int .i64 12] 3) := ⟨_, rfl⟩
 have uW197 : Dn w38 W197 := by rw [hW197]; exact (((Dn.refl _).alloc _).alloc _).alloc _
 obtain ⟨fU, fX⟩ := nl2 uW197.size fO fR
 obtain ⟨fV, fW, fY, fZ⟩ := mv4 uW197.cell fP fQ fS fT
 clear fO fP fQ fR fS fT
 have g0 : W197.cell? ⟨w38.heap.size, 0, none⟩ = some (.int .i8 1) := by rw [hW197]; simp [go_sem]
 have g1 : W197.cell? ⟨w38.heap.size, 1, none⟩ = some (.int .i64 0) := by rw [hW197]; simp [go_sem]
 have g3 : w38.heap.size < W197.heap.size := by rw [hW197]; simp <;> omega
 have hst : Ss W197 (w38.heap.size + 1) strK := by
  rw [hW197]; have h := (ss_new ((w38.alloc (.cells #[.int .i8 1, .int .i64 0] 41))) strK _ HS4.out).dn ((Dn.refl _).alloc (.cells #[.int .i64 0, .int .i64 5, .int .i64 5, .int .i64 12] 3)); simpa using h
 have hwt : Ns W197 (w38.heap.size + 1 + 1) wantL := by
  rw [hW197]; have h := (nsI_new (((w38.alloc (.cells #[.int .i8 1, .int .i64 0] 41)).alloc (.cells #[.string ⟨#[49, 46, 46, 51, 44, 53, 46, 46, 53]⟩, .string ⟨#[]⟩, .string ⟨#[49, 46, 46, 51, 44]⟩, .string ⟨#[49, 46, 46, 51, 44, 52, 46, 46, 52]⟩] 9))) wantL _ HW4.out).dn (Dn.refl _); simpa using h
 rw [<- hW197]
 clear hW197
 have vW197 := uw38.trans uW197
 clear uW197 uw38
 clear fV fW fU
 clear fY fZ fX
 clear g0 g1 g3
 have HST := Lib.hid hst
 have HWT := Lib.hid hwt
 have HUW := Lib.hid vW197
 generalize w38.heap.size = B at *
 clear hst hwt vW197
 go_loopw [0, 17] (fun r0 iv wr => r0 = .bool false /\ ∃ k : Nat, k <= 4 /\ iv = .int .i64 k /\ Dn W197 wr) (fun _ iv _ => 4 - (intOf iv).toNat)
 case atStart => exact ⟨rfl, 0, by decide, rfl, Dn.refl _⟩
 case round =>
  obtain ⟨rfl, k, hk, rfl, hu⟩ := hrel
  by_cases hlt : k < 4
  · have d1 : decide ((k : Int) < 4) = true := by simp; omega
    have d2 : (k : Int) < 4 := (by omega); have HLT := Lib.hid hlt; have cst := (HST.out.dn hu).at_ k hlt; have cw := (HWT.out.dn hu).at_ k _ (HWk.out k hlt); have HG := Lib.hid (HGv.out k hlt); have HP := Lib.hid (HPa.out k hlt); have HE := Lib.hid (hE.dn (HUW.out.trans hu)); go_wp2_with fail; clear cst; refine (HP.out _ HE.out).mono ?_; rintro e y1 ⟨pk, nk, rfl, hk1, q0⟩; replace cw := q0.cell cw; go_wp2_with fail; go_wp2_with fail; refine region_inv (fun A l a' w' => ∃ (b0 b1 b2 b3 b4 b5 b6 b7 b8 b9 : Bool) (x216 x217 x218 x219 x220 x221 x222 x223 x224 x225 : Value), l = #[b0, b1, b2, b3, b4, b5, b6, b7, b8, b9] /\ a' = ((((((((((A.put (some 216) x216).put (some 217) x217).put (some 218) x218).put (some 219) x219).put (some 220) x220).put (some 221) x221).put (some 222) x222).put (some 223) x223).put (some 224) x224).put (some 225) x225) /\ Dn y1 w' /\ (b0 = true -> x216 = .slice pk nk nk) /\ (b1 = true -> x217 = .int .i64 (errK k)) /\ (b2 = true -> SlN w' x218 4 [1, 3, 5, 5]) /\ (b3 = true -> SlR w' x219 D4) /\ (b4 = true -> x220 = .slice (some ⟨B + 1 + 1, 0, none⟩) 4 4) /\ (b5 = true -> x221 = .int .i64 k) /\ (b6 = true -> x222 = .pointer (some ⟨B + 1 + 1, k, none⟩)) /\ (b7 = true -> x223 = .int .i64 (wantF k)) /\ (b8 = true -> x224 = .bool true) /\ (b9 = true -> x225 = .bool false)) (by kernel_rfl) ?_ ?_ ?_
    · exact ⟨false, false, false, false, false, false, false, false, false, false, u216, u217, u218, u219, u220, u221, u222, u223, u224, u225, rfl, by simp only [Act.put, pL], (Dn.refl _).drew, (fun h => by cases h), (fun h => by cases h), (fun h => by cases h), (fun h => by cases h), (fun h => by cases h), (fun h => by cases h), (fun h => by cases h), (fun h => by cases h), (fun h => by cases h), (fun h => by cases h)⟩
    · rintro l a' w' i ⟨b0, b1, b2, b3, b4, b5, b6, b7, b8, b9, x216, x217, x218, x219, x220, x221, x222, x223, x224, x225, rfl, rfl, q, hv0, hv1, hv2, hv3, hv4, hv5, hv6, hv7, hv8, hv9⟩ hun hdep hi
      simp only [Act.put, pL]; have hi' : i < 10 := hi; rcases (show i = 0 \/ i = 1 \/ i = 2 \/ i = 3 \/ i = 4 \/ i = 5 \/ i = 6 \/ i = 7 \/ i = 8 \/ i = 9 by omega) with rfl | rfl | rfl | rfl | rfl | rfl | rfl | rfl | rfl | rfl
      ·
       have f0 : b0 = false := (by simpa using hun); subst f0; refine wpOp_step rfl (fun K hK => ?_); replace hK := Lib.hid hK; go_simp; exact hK.out _ _ ⟨true, b1, b2, b3, b4, b5, b6, b7, b8, b9, .slice pk nk nk, x217, x218, x219, x220, x221, x222, x223, x224, x225, rfl, by first | (simp only [Act.put, pL]; done) | rfl, q, fun _ => rfl, hv1, hv2, hv3, hv4, hv5, hv6, hv7, hv8, hv9⟩
      ·
       have f1 : b1 = false := (by simpa using hun); subst f1; refine wpOp_step rfl (fun K hK => ?_); replace hK := Lib.hid hK; go_simp; exact hK.out _ _ ⟨b0, true, b2, b3, b4, b5, b6, b7, b8, b9, x216, .int .i64 (errK k), x218, x219, x220, x221, x222, x223, x224, x225, rfl, by first | (simp only [Act.put, pL]; done) | rfl, q, hv0, fun _ => rfl, hv2, hv3, hv4, hv5, hv6, hv7, hv8, hv9⟩
      ·
       have f2 : b2 = false := (by simpa using hun); subst f2; refine wpOp_step rfl (fun K hK => ?_); replace hK := Lib.hid hK; go_simp; exact hK.out _ _ ⟨b0, b1, true, b3, b4, b5, b6, b7, b8, b9, x216, x217, .slice (some ⟨w'.heap.size, 0, none⟩) 4 4, x219, x220, x221, x222, x223, x224, x225, rfl, by first | (simp only [Act.put, pL]; done) | rfl, q.alloc _, hv0, hv1, fun _ => ⟨_, rfl, ns_new _ _ _ rfl⟩, fun h => (hv3 h).dn ((Dn.refl _).alloc _), hv4, hv5, hv6, hv7, hv8, hv9⟩
      ·
       have e2 : b2 = true := hdep _ rfl ⟨2, .data⟩ (by simp) rfl; have f3 : b3 = false := (by simpa using hun); subst f3 e2; have k2 := hv2 rfl; obtain ⟨g2, rfl, n2⟩ := k2; refine wpOp_step rfl (fun K hK => ?_); replace hK := Lib.hid hK; go_simp; go_at_call 38; refine (SD4.out _ _ n2).mono ?_; rintro e wa ⟨p3, c3, rfl, r3, qa⟩
       try go_wp2_with fail
       exact hK.out _ _ ⟨b0, b1, true, true, b4, b5, b6, b7, b8, b9, x216, x217, .slice (some ⟨g2, 0, none⟩) 4 4, .slice p3 D4.length c3, x220, x221, x222, x223, x224, x225, rfl, by first | (simp only [Act.put, pL]; done) | rfl, q.trans qa, hv0, hv1, fun _ => (show SlN w' (.slice (some ⟨g2, 0, none⟩) 4 4) 4 [1, 3, 5, 5] from ⟨g2, rfl, n2⟩).dn (qa), fun _ => ⟨_, _, rfl, r3⟩, hv4, hv5, hv6, hv7, hv8, hv9⟩
      ·
       have f4 : b4 = false := (by simpa using hun); subst f4; refine wpOp_step rfl (fun K hK => ?_); replace hK := Lib.hid hK; go_simp; exact hK.out _ _ ⟨b0, b1, b2, b3, true, b5, b6, b7, b8, b9, x216, x217, x218, x219, .slice (some ⟨B + 1 + 1, 0, none⟩) 4 4, x221, x222, x223, x224, x225, rfl, by first | (simp only [Act.put, pL]; done) | rfl, q, hv0, hv1, hv2, hv3, fun _ => rfl, hv5, hv6, hv7, hv8, hv9⟩
      ·
       have f5 : b5 = false := (by simpa using hun); subst f5; refine wpOp_step rfl (fun K hK => ?_); replace hK := Lib.hid hK; go_simp; exact hK.out _ _ ⟨b0, b1, b2, b3, b4, true, b6, b7, b8, b9, x216, x217, x218, x219, x220, .int .i64 k, x222, x223, x224, x225, rfl, by first | (simp only [Act.put, pL]; done) | rfl, q, hv0, hv1, hv2, hv3, hv4, fun _ => rfl, hv6, hv7, hv8, hv9⟩
      ·
       have e4 : b4 = true := hdep _ rfl ⟨4, .data⟩ (by simp) rfl; have e5 : b5 = true := hdep _ rfl ⟨5, .data⟩ (by simp) rfl; have f6 : b6 = false := (by simpa using hun); subst f6 e4 e5; obtain rfl := hv4 rfl; obtain rfl := hv5 rfl; refine wpOp_step rfl (fun K hK => ?_); replace hK := Lib.hid hK; go_simp; exact hK.out _ _ ⟨b0, b1, b2, b3, true, true, true, b7, b8, b9, x216, x217, x218, x219, .slice (some ⟨B + 1 + 1, 0, none⟩) 4 4, .int .i64 k, .pointer (some ⟨B + 1 + 1, k, none⟩), x223, x224, x225, rfl, by first | (simp only [Act.put, pL]; done) | rfl, q, hv0, hv1, hv2, hv3, fun _ => rfl, fun _ => rfl, fun _ => rfl, hv7, hv8, hv9⟩
      ·
       have e6 : b6 = true := hdep _ rfl ⟨6, .data⟩ (by simp) rfl; have f7 : b7 = false := (by simpa using hun); subst f7 e6; obtain rfl := hv6 rfl; have g301 := q.cell cw; refine wpOp_step rfl (fun K hK => ?_); replace hK := Lib.hid hK; go_simp; exact hK.out _ _ ⟨b0, b1, b2, b3, b4, b5, true, true, b8, b9, x216, x217, x218, x219, x220, x221, .pointer (some ⟨B + 1 + 1, k, none⟩), .int .i64 (wantF k), x224, x225, rfl, by first | (simp only [Act.put, pL]; done) | rfl, q, hv0, hv1, hv2, hv3, hv4, hv5, fun _ => rfl, fun _ => rfl, hv8, hv9⟩
      ·
       have e0 : b0 = true := hdep _ rfl ⟨0, .data⟩ (by simp) rfl; have e1 : b1 = true := hdep _ rfl ⟨1, .data⟩ (by simp) rfl; have e3 : b3 = true := hdep _ rfl ⟨3, .data⟩ (by simp) rfl; have e7 : b7 = true := hdep _ rfl ⟨7, .data⟩ (by simp) rfl; have f8 : b8 = false := (by simpa using hun); subst f8 e0 e1 e3 e7; obtain rfl := hv0 rfl; obtain rfl := hv1 rfl; have k3 := hv3 rfl; obtain ⟨p3, c3, rfl, r3⟩ := k3; obtain rfl := hv7 rfl; refine wpOp_step rfl (fun K hK => ?_); replace hK := Lib.hid hK; go_simp; go_at_call 13; refine (HG.out _ _ _ _ _ (row0_dn hk1 q) r3.row).mono ?_; rintro e wa ⟨rfl, qa⟩
       try go_wp2_with fail
       exact hK.out _ _ ⟨true, true, b2, true, b4, b5, b6, true, true, b9, .slice pk nk nk, .int .i64 (errK k), x218, .slice p3 D4.length c3, x220, x221, x222, .int .i64 (wantF k), .bool true, x225, rfl, by first | (simp only [Act.put, pL]; done) | rfl, q.trans qa, fun _ => rfl, fun _ => rfl, fun h => (hv2 h).dn qa, fun _ => (show SlR w' (.slice p3 D4.length c3) D4 from ⟨p3, c3, rfl, r3⟩).dn (qa), hv4, hv5, hv6, fun _ => rfl, fun _ => rfl, hv9⟩
      ·
       have e8 : b8 = true := hdep _ rfl ⟨8, .data⟩ (by simp) rfl; have f9 : b9 = false := (by simpa using hun); subst f9 e8; obtain rfl := hv8 rfl; refine wpOp_step rfl (fun K hK => ?_); replace hK := Lib.hid hK; go_simp; exact hK.out _ _ ⟨b0, b1, b2, b3, b4, b5, b6, b7, true, true, x216, x217, x218, x219, x220, x221, x222, x223, .bool true, .bool false, rfl, by first | (simp only [Act.put, pL]; done) | rfl, q, hv0, hv1, hv2, hv3, hv4, hv5, hv6, hv7, fun _ => rfl, fun _ => rfl⟩
    · rintro l a' W302 ⟨b0, b1, b2, b3, b4, b5, b6, b7, b8, b9, x216, x217, x218, x219, x220, x221, x222, x223, x224, x225, rfl, rfl, qW302, hv0, hv1, hv2, hv3, hv4, hv5, hv6, hv7, hv8, hv9⟩ hall
      obtain rfl : b0 = true := (by cases b0 with | true => rfl | false => exact nB (hall 0 _ rfl rfl)); obtain rfl : b1 = true := (by cases b1 with | true => rfl | false => exact nB (hall 1 _ rfl rfl)); obtain rfl : b2 = true := (by cases b2 with | true => rfl | false => exact nB (hall 2 _ rfl rfl)); obtain rfl : b3 = true := (by cases b3 with | true => rfl | false => exact nB (hall 3 _ rfl rfl)); obtain rfl : b4 = true := (by cases b4 with | true => rfl | false => exact nB (hall 4 _ rfl rfl)); obtain rfl : b5 = true := (by cases b5 with | true => rfl | false => exact nB (hall 5 _ rfl rfl)); obtain rfl : b6 = true := (by cases b6 with | true => rfl | false => exact nB (hall 6 _ rfl rfl)); obtain rfl : b7 = true := (by cases b7 with | true => rfl | false => exact nB (hall 7 _ rfl rfl)); obtain rfl : b8 = true := (by cases b8 with | true => rfl | false => exact nB (hall 8 _ rfl rfl)); obtain rfl : b9 = true := (by cases b9 with | true => rfl | false => exact nB (hall 9 _ rfl rfl)); obtain rfl := hv0 rfl; obtain rfl := hv1 rfl; clear hv2; clear hv3; obtain rfl := hv4 rfl; obtain rfl := hv5 rfl; obtain rfl := hv6 rfl; obtain rfl := hv7 rfl; obtain rfl := hv8 rfl; obtain rfl := hv9 rfl; clear hall; simp only [Act.put, pL]; go_wp2_with fail; go_roundw
      case rel => exact ⟨rfl, k + 1, HLT.out, by simp, hu.trans (q0.trans qW302)⟩
      case measure => simp [intOf]; have := HLT.out; omega
  · obtain rfl : k = 4 := by omega
    have d1 : decide (((4 : Nat) : Int) < 4) = false := (by decide); go_wp2_with fail; go_ret; exact ⟨rfl, HUW.out.trans hu⟩
end Go.Proofs.YtoghoddjkdoohaaGreatDoor
