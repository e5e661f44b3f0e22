/- Walks and laws that the claim's theorem leans on: part 13. -/
import Derived.Test.YtoghoddjkdoohaaGreatDoorZKn1
import Derived.Test.YtoghoddjkdoohaaGreatDoorZKn9
import Derived.Test.YtoghoddjkdoohaaGreatDoorZKn12
namespace Go.Proofs.YtoghoddjkdoohaaGreatDoor
set_option maxHeartbeats 4000000
set_option maxRecDepth 100000
open Go.RowKit
set_option linter.unusedVariables false
set_option linter.unusedSimpArgs false
theorem lastT_snoc {r x : Rq} : ∀ (l : List Rq), lastT r (l ++ [x]) = if TchR x r then some l.length else lastT r l
 | [] => by simp [lastT]
 | y :: t => by
   rw [List.cons_append, lastT, lastT_snoc t]
   by_cases h : TchR x r
   · simp [h]
   · rw [if_neg h, if_neg h, lastT]
def atV : Option Nat -> Int
 | none => -1
 | some i => (i : Int)
theorem take_at {l : List Rq} {k : Nat} {x : Rq} (h : l[k]? = some x) : l.take (k + 1) = l.take k ++ [x] := by
 rw [List.take_add_one, h]; rfl
theorem last_yes {l : List Rq} {k : Nat} {x r : Rq} (h : l[k]? = some x) (ht : TchR x r) : lastT r (l.take (k + 1)) = some k := by
 obtain ⟨hl, _⟩ := List.getElem?_eq_some_iff.1 h
 rw [take_at h, lastT_snoc, if_pos ht, List.length_take]; congr 1; omega
theorem last_no {l : List Rq} {k : Nat} {x r : Rq} (h : l[k]? = some x) (ht : ¬ TchR x r) : lastT r (l.take (k + 1)) = lastT r (l.take k) := by
 rw [take_at h, lastT_snoc, if_neg ht]
theorem erase_at {l : List Rq} {k i : Nat} {x : Rq} (h : l[k]? = some x) (hk : k = i) : (l.take (k + 1)).eraseIdx i = (l.take k).eraseIdx i := by
 obtain ⟨hl, _⟩ := List.getElem?_eq_some_iff.1 h
 subst hk
 rw [take_at h, List.eraseIdx_append_of_length_le (by simp; omega)]
 have e : k - (l.take k).length = 0 := by simp; omega
 rw [e, List.eraseIdx_of_length_le (l := l.take k) (by simp; omega)]
 simp
theorem erase_ne {l : List Rq} {k i : Nat} {x : Rq} (h : l[k]? = some x) (hk : k ≠ i) : (l.take (k + 1)).eraseIdx i = (l.take k).eraseIdx i ++ [x] := by
 obtain ⟨hl, _⟩ := List.getElem?_eq_some_iff.1 h
 have e : (l.take k).length = k := by simp; omega
 rw [take_at h]
 rcases Nat.lt_or_ge i k with hi | hi
 · rw [List.eraseIdx_append_of_lt_length (by omega)]
 · rw [List.eraseIdx_append_of_length_le (by omega), List.eraseIdx_of_length_le (l := l.take k) (by omega), List.eraseIdx_of_length_le (by simp; omega)]
theorem insR_all {r : Rq} : ∀ {l : List Rq}, (∀ x ∈ l, ¬ ltR r x) -> insR r l = l ++ [r]
 | [], _ => rfl
 | y :: t, h => by
   rw [insR, if_neg (h y List.mem_cons_self), insR_all (fun z hz => h z (List.mem_cons_of_mem _ hz))]; rfl
theorem insR_here {r x : Rq} (hx : ltR r x) : ∀ {l : List Rq}, (∀ x ∈ l, ¬ ltR r x) -> insR r (l ++ [x]) = l ++ [r] ++ [x]
 | [], _ => by simp [insR, hx]
 | y :: t, h => by
   rw [List.cons_append, insR, if_neg (h y List.mem_cons_self), insR_here hx (fun z hz => h z (List.mem_cons_of_mem _ hz))]; rfl
theorem insR_past {r x : Rq} : ∀ {l : List Rq}, (∃ y ∈ l, ltR r y) -> insR r (l ++ [x]) = insR r l ++ [x]
 | [], h => by obtain ⟨y, hy, _⟩ := h; cases hy
 | y :: t, h => by
   rw [List.cons_append, insR, insR]
   by_cases hy : ltR r y
   · rw [if_pos hy, if_pos hy]; rfl
   · rw [if_neg hy, if_neg hy, insR_past (l := t)]
     · rfl
     · obtain ⟨z, hz, hl⟩ := h
       rcases List.mem_cons.1 hz with rfl | hz
       · exact absurd hl hy
       · exact ⟨z, hz, hl⟩
def InsAt (l : List Rq) (r : Rq) (k : Nat) (O : List Rq) (d : Bool) : Prop :=
 O.length <= k + 1 /\ ((d = false /\ O = l.take k /\ ∀ x ∈ l.take k, ¬ ltR r x) \/ (d = true /\ O = insR r (l.take k) /\ ∃ x ∈ l.take k, ltR r x))
theorem ins_start (l : List Rq) (r : Rq) : InsAt l r 0 [] false := ⟨by simp, .inl ⟨rfl, by simp, by simp⟩⟩
theorem ins_in {l O : List Rq} {r x : Rq} {k : Nat} (h : InsAt l r k O false) (hx : l[k]? = some x) (hl : ltR r x) : InsAt l r (k + 1) (O ++ [r] ++ [x]) true := by
 obtain ⟨h1, ⟨_, rfl, h2⟩ | ⟨h2, _⟩⟩ := h
 · refine ⟨by simp; omega, .inr ⟨rfl, by rw [take_at hx, insR_here hl h2], x, by rw [take_at hx]; simp, hl⟩⟩
 · cases h2
theorem ins_no {l O : List Rq} {r x : Rq} {k : Nat} (h : InsAt l r k O false) (hx : l[k]? = some x) (hl : ¬ ltR r x) : InsAt l r (k + 1) (O ++ [x]) false := by
 obtain ⟨h1, ⟨_, rfl, h2⟩ | ⟨h2, _⟩⟩ := h
 · refine ⟨by simp; omega, .inl ⟨rfl, (take_at hx).symm, fun z hz => ?_⟩⟩
   rw [take_at hx] at hz; rcases List.mem_append.1 hz with hz | hz
   · exact h2 z hz
   · simp at hz; subst hz; exact hl
 · cases h2
theorem ins_past {l O : List Rq} {r x : Rq} {k : Nat} (h : InsAt l r k O true) (hx : l[k]? = some x) : InsAt l r (k + 1) (O ++ [x]) true := by
 obtain ⟨h1, ⟨h2, _⟩ | ⟨_, rfl, h2⟩⟩ := h
 · cases h2
 · refine ⟨by simp; omega, .inr ⟨rfl, by rw [take_at hx, insR_past h2], ?_⟩⟩
   obtain ⟨z, hz, hl⟩ := h2; exact ⟨z, by rw [take_at hx]; simp [hz], hl⟩
theorem ins_end {l O : List Rq} {r : Rq} {k : Nat} {d : Bool} (h : InsAt l r k O d) (hk : k = l.length) : insR r l = if d = true then O else O ++ [r] := by
 subst hk
 obtain ⟨h1, ⟨rfl, rfl, h2⟩ | ⟨rfl, rfl, h2⟩⟩ := h
 · rw [List.take_length] at *; simp [insR_all h2]
 · simp
theorem cmp_ltR' {x p : Rq} (hx : I64 x.b /\ I64 x.d) (hp : I64 p.b /\ I64 p.d) : or2 (eC p.a p.b x.a x.b) (eC p.c p.d x.c x.d) < 0 ↔ ltR p x := by
 have h1 := eC_lt (i := p.a) (j := x.a) hp.1 hx.1
 have h2 := eC_lt (i := p.c) (j := x.c) hp.2 hx.2
 have h3 := eC_gt (i := p.a) (j := x.a) hp.1 hx.1
 unfold or2 ltR Rq.lo Rq.hi
 split <;> omega
theorem te_len (l : List Rq) (k i : Nat) : ((l.take k).eraseIdx i).length <= l.length := by
 have h1 := List.length_eraseIdx_le (l.take k) i
 have h2 : (l.take k).length <= l.length := by simp; omega
 omega
theorem Cs.far4 {w : World} {g o B : Nat} {L : List Rq} (h : Cs w g o L) (hn : g ≠ B) (v0 v1 v2 v3 : Value) :
  Cs ((((w.setCell ⟨B, 0, none⟩ v0).setCell ⟨B, 1, none⟩ v1).setCell ⟨B, 2, none⟩ v2).setCell ⟨B, 3, none⟩ v3) g o L :=
 ⟨by simpa using h.lt, fun k x hx => by
  obtain ⟨h0, h1, h2, h3⟩ := h.el k x hx
  exact ⟨cell_far4 hn h0, cell_far4 hn h1, cell_far4 hn h2, cell_far4 hn h3⟩⟩
theorem OwnQ.rowB {w : World} {base : Nat} {v : Value} {L : List Rq} (h : OwnQ w base v L) : ∃ p cap, v = .slice p L.length cap /\ L.length <= cap /\ Row w p L /\ ∀ g o, p = some ⟨g, o, none⟩ -> base <= g := by
 rcases h.form with ⟨rfl, rfl⟩ | ⟨g, cap, rfl, hb, h1, _, hc⟩
 · exact ⟨_, _, rfl, Nat.le_refl _, Row.nil _ _, fun g o e => by cases e⟩
 · exact ⟨_, _, rfl, h1, hc.row, fun g' o e => by cases e; exact hb⟩
def lenOf : Value -> Nat
 | .slice _ n _ => n
 | _ => 0
theorem lastT_ge {l : List Rq} {r : Rq} {i : Nat} (h : lastT r l = some i) : ∃ y, l[i]? = some y /\ TchR y r /\ i < l.length := by
 obtain ⟨h1, h2⟩ := lastT_some h
 refine ⟨l[i], by simp [h1], ?_, h1⟩
 simpa [List.getD, h1] using h2
theorem putF_some {l : List Rq} {r y : Rq} {i : Nat} (h : lastT r l = some i) (hy : l[i]? = some y) : putF l.length l r = putF (l.eraseIdx i).length (l.eraseIdx i) (jnR y r) := by
 obtain ⟨h1, h2⟩ := List.getElem?_eq_some_iff.1 hy
 have e : (l.eraseIdx i).length = l.length - 1 := by rw [List.length_eraseIdx, if_pos h1]
 obtain ⟨n, hn⟩ : ∃ n, l.length = n + 1 := ⟨l.length - 1, by omega⟩
 rw [e, hn, putF, h]
 simp [List.getD, h1, h2]
theorem putF_none {l : List Rq} {r : Rq} (h : lastT r l = none) : putF l.length l r = insR r l := by
 cases l with
 | nil => rfl
 | cons x t => rw [List.length_cons, putF, h]
theorem c4_cells {w : World} {B : Nat} {v0 v1 v2 v3 : Value} (h : C4 w B v0 v1 v2 v3) : w.cell? ⟨B, 0, none⟩ = some v0 /\ w.cell? ⟨B, 1, none⟩ = some v1 /\ w.cell? ⟨B, 2, none⟩ = some v2 /\ w.cell? ⟨B, 3, none⟩ = some v3 := ⟨h.c0, h.c1, h.c2, h.c3⟩
theorem rfPut (p0 : Option Addr) (cap0 : Nat) (L0 : List Rq) (q : Rq) (w : World) (hl : L0.length <= 900000) (hok : ∀ x ∈ L0, x.ok) (hq : q.ok) (hR : Row w p0 L0) :
  Calls Tryz.prog 69 #[.slice p0 L0.length cap0, .agg #[.int .i8 q.a, .int .i64 q.b, .int .i8 q.c, .int .i64 q.d]] w fun ro w' => ∃ p' cap', ro = .returned (.slice p' (putL L0 q).length cap') /\ Row w' p' (putL L0 q) /\ Dn w w' := by
 go_enter Tryz.func69, Tryz.ntmps69
 go_wp2_with fail
 obtain ⟨W1, hW1⟩ : ∃ W1, W1 = w.alloc (.cells #[.int .i8 q.a, .int .i64 q.b, .int .i8 q.c, .int .i64 q.d] 45) := ⟨_, rfl⟩
 have uW1 : Dn w W1 := by rw [hW1]; exact (Dn.refl _).alloc _
 have hC1 : C4 W1 w.heap.size (.int .i8 q.a) (.int .i64 q.b) (.int .i8 q.c) (.int .i64 q.d) := by rw [hW1]; exact C4.new _ _ _ _ _ _
 have hR1 := hR.dn uW1
 have HNE : 0 < L0.length -> ∀ g o, p0 = some ⟨g, o, none⟩ -> g ≠ w.heap.size := fun h g o e => by
  obtain ⟨g', o', e', h1, _⟩ := hR.at h; rw [e'] at e; cases e; omega
 rw [<- hW1]
 clear hW1 hR
 go_loopw [0] (fun lv wr => ∃ (l : List Rq) (r : Rq) (p : Option Addr) (cap : Nat), lv = .slice p l.length cap /\ Row wr p l /\ (∀ x ∈ l, x.ok) /\ r.ok /\ putF l.length l r = putL L0 q /\ C4 wr w.heap.size (.int .i8 r.a) (.int .i64 r.b) (.int .i8 r.c) (.int .i64 r.d) /\ l.length <= L0.length /\ (0 < l.length -> ∀ g o, p = some ⟨g, o, none⟩ -> g ≠ w.heap.size) /\ Dn w wr) (fun lv _ => lenOf lv)
 case atStart => exact ⟨L0, q, p0, cap0, rfl, hR1, hok, hq, rfl, hC1, Nat.le_refl _, HNE, uW1⟩
 case round =>
  obtain ⟨l, r, p, cap, rfl, hr, hok, hq, hput, hC, hlen, hne, hu⟩ := hrel; obtain ⟨wo, rfl⟩ : ∃ wo : World, wo = wr := ⟨_, rfl⟩; have HOK := Lib.hid hok; have HQ := Lib.hid hq; have HPUT := Lib.hid hput; have HR := Lib.hid hr; have HC := Lib.hid hC; have HN := Lib.hid hne; clear hne hok hq hput hr hC hC1 hR1 uW1; go_wp2_with fail; go_loopw [5, 6] (fun av iv wx => ∃ k : Nat, k <= l.length /\ iv = .int .i64 k /\ av = .int .i64 (atV (lastT r (l.take k))) /\ Dn wo wx) (fun _ iv _ => l.length - (intOf iv).toNat)
  case atStart => exact ⟨0, by omega, rfl, rfl, Dn.refl _⟩
  case round =>
   obtain ⟨k, hk, rfl, rfl, hx⟩ := hrel
   by_cases hlt : k < l.length
   · have d1 : decide ((k : Int) < l.length) = true := by simp; omega
     obtain ⟨x, hx0⟩ : ∃ x, l[k]? = some x := ⟨l[k], by simp [hlt]⟩; have HX := Lib.hid hx0; have hxo := HOK.out x (List.mem_of_getElem? hx0); have hto := tch_iff (p := x) (x := r) ⟨hxo.1, hxo.2.1⟩ ⟨HQ.out.1, HQ.out.2.1⟩; have hT := Lib.hid (fun W => rfTouch x.a x.b x.c x.d r.a r.b r.c r.d W hxo.1 hxo.2.1 HQ.out.1 HQ.out.2.1 hxo.2.2 HQ.out.2.2); clear hx0 hxo
     have hat := fun h : TchR x r => last_yes HX.out h
     have han := fun h : ¬ TchR x r => last_no HX.out h
     obtain ⟨av, hav⟩ : ∃ av, av = atV (lastT r (l.take k)) := ⟨_, rfl⟩; rw [<- hav]; have HAV := Lib.hid hav; clear hav; have hc1 := HC.out.dn hx; obtain ⟨g, o, rfl, hc⟩ := HR.out.cs (by omega); replace hc := hc.dn hx; go_wp2_with fail; obtain ⟨a0, a1, a2, a3⟩ := hc.el _ _ HX.out; have al := hc.lt; obtain ⟨r0c, r1c, r2c, r3c⟩ := c4_cells hc1; have rl := hc1.lt; clear hc hc1
     by_cases ht : TchR x r
     ·
       have HTT := Lib.hid ht; rw [decide_eq_true (hto.2 ht)] at hT; clear ht hto; have hS51 := kd_8 (W := wr) (Dn.refl _) ⟨Dn.refl _, a0, a1, a2, a3, r0c, r1c, r2c, r3c⟩; have HShS51 := Lib.hid hS51; clear a0 a1 a2 a3 r0c r1c r2c r3c; refine wp_region_held_drew (S := fun w' => Dn wr w' /\ w'.cell? ⟨g, o + k * 4, none⟩ = some (.int .i8 x.a) /\ w'.cell? ⟨g, o + k * 4 + 1, none⟩ = some (.int .i64 x.b) /\ w'.cell? ⟨g, o + k * 4 + 2, none⟩ = some (.int .i8 x.c) /\ w'.cell? ⟨g, o + k * 4 + 3, none⟩ = some (.int .i64 x.d) /\ w'.cell? ⟨w.heap.size, 0, none⟩ = some (.int .i8 r.a) /\ w'.cell? ⟨w.heap.size, 1, none⟩ = some (.int .i64 r.b) /\ w'.cell? ⟨w.heap.size, 2, none⟩ = some (.int .i8 r.c) /\ w'.cell? ⟨w.heap.size, 3, none⟩ = some (.int .i64 r.d)) (by kernel_rfl) ?_ (fun hHeld => ?_)
       · (try dsimp only); (exact ke kd_8)
       refine tS 0 rfl ?_; refine tS 1 rfl ?_; refine tS 2 rfl ?_; refine tS 3 rfl ?_; refine tS 4 rfl ?_; refine rD 5 rfl (fun K hK => ?_); go_simp
       (go_at_call 49; refine (hT.out _).mono ?_; rintro e wa ⟨rfl, qa⟩)
       try go_wp2_with fail
       refine hK.out _ _ ?_ (fun hHeld => ?_)
       · (try dsimp only); (exact ke kd_8)
       clear hK K
       try simp only [Act.put, pL]
       refine wpAnyH_done (by kernel_rfl) ?_ _
       all_goals skip
       all_goals
         clear hS51; obtain ⟨uf60, a4, a5, a6, a7, a8, a9, aA, aB⟩ := (‹Dn wr _ /\ _› : _ /\ _); obtain ⟨w61, rfl⟩ : ∃ w61 : World, w61 = wa := ⟨_, rfl⟩; have aC := nlt al uf60.size; clear al; have aD := nlt rl uf60.size; clear rl; have vuf60 := hx.trans uf60; clear uf60 hx HShS51; clear a4 a5 a6 a7 aC; clear a8 a9 aA aB aD; go_wp2_with fail; go_roundw
         case rel => exact ⟨k + 1, by omega, by simp, by rw [hat HTT.out]; simp [atV], vuf60⟩
         case measure => simp [intOf]; omega
     ·
       have HTT := Lib.hid ht; rw [decide_eq_false (fun h => ht (hto.1 h))] at hT; clear ht hto; have hS51 := kd_8 (W := wr) (Dn.refl _) ⟨Dn.refl _, a0, a1, a2, a3, r0c, r1c, r2c, r3c⟩; have HShS51 := Lib.hid hS51; clear a0 a1 a2 a3 r0c r1c r2c r3c; refine wp_region_held_drew (S := fun w' => Dn wr w' /\ w'.cell? ⟨g, o + k * 4, none⟩ = some (.int .i8 x.a) /\ w'.cell? ⟨g, o + k * 4 + 1, none⟩ = some (.int .i64 x.b) /\ w'.cell? ⟨g, o + k * 4 + 2, none⟩ = some (.int .i8 x.c) /\ w'.cell? ⟨g, o + k * 4 + 3, none⟩ = some (.int .i64 x.d) /\ w'.cell? ⟨w.heap.size, 0, none⟩ = some (.int .i8 r.a) /\ w'.cell? ⟨w.heap.size, 1, none⟩ = some (.int .i64 r.b) /\ w'.cell? ⟨w.heap.size, 2, none⟩ = some (.int .i8 r.c) /\ w'.cell? ⟨w.heap.size, 3, none⟩ = some (.int .i64 r.d)) (by kernel_rfl) ?_ (fun hHeld => ?_)
       · (try dsimp only); (exact ke kd_8)
       refine tS 0 rfl ?_; refine tS 1 rfl ?_; refine tS 2 rfl ?_; refine tS 3 rfl ?_; refine tS 4 rfl ?_; refine rD 5 rfl (fun K hK => ?_); go_simp
       (go_at_call 49; refine (hT.out _).mono ?_; rintro e wa ⟨rfl, qa⟩)
       try go_wp2_with fail
       refine hK.out _ _ ?_ (fun hHeld => ?_)
       · (try dsimp only); (exact ke kd_8)
       clear hK K
       try simp only [Act.put, pL]
       refine wpAnyH_done (by kernel_rfl) ?_ _
       all_goals skip
       all_goals
         clear hS51; obtain ⟨uf60, a4, a5, a6, a7, a8, a9, aA, aB⟩ := (‹Dn wr _ /\ _› : _ /\ _); obtain ⟨w61, rfl⟩ : ∃ w61 : World, w61 = wa := ⟨_, rfl⟩; have aC := nlt al uf60.size; clear al; have aD := nlt rl uf60.size; clear rl; have vuf60 := hx.trans uf60; clear uf60 hx HShS51; clear a4 a5 a6 a7 aC; clear a8 a9 aA aB aD; go_wp2_with fail; go_roundw
         case rel => exact ⟨k + 1, by omega, by simp, by rw [han HTT.out, <- HAV.out], vuf60⟩
         case measure => simp [intOf]; omega
   · obtain ⟨wx, rfl⟩ : ∃ wx : World, wx = wr := ⟨_, rfl⟩
     obtain rfl : k = l.length := by omega
     have d1 : decide ((l.length : Int) < l.length) = false := (by simp); rw [List.take_length]; have HCX := Lib.hid (HC.out.dn hx); have HRX := Lib.hid (HR.out.dn hx); have HU := Lib.hid (hu.trans hx); clear hx hu HC HR; rcases hlast : lastT r l with _ | i
     · have HE := Lib.hid (HPUT.out.symm.trans (putF_none hlast))
       clear hlast; simp only [atV]; go_wp2_with fail; go_loopw [9, 10, 11] (fun ov dv iv wz => ∃ (k : Nat) (d : Bool) (O : List Rq), k <= l.length /\ iv = .int .i64 k /\ dv = .bool d /\ InsAt l r k O d /\ OwnQ wz wx.heap.size ov O /\ Dn wx wz) (fun _ _ iv _ => l.length - (intOf iv).toNat)
       case atStart => exact ⟨0, false, [], by omega, rfl, rfl, ins_start _ _, OwnQ.nil _ _, Dn.refl _⟩
       case round =>
         obtain ⟨k, d, O, hk, rfl, rfl, hin, hown, hz⟩ := hrel
         by_cases hlt : k < l.length
         · have d1 : decide ((k : Int) < l.length) = true := by simp; omega
           obtain ⟨x, hx0⟩ : ∃ x, l[k]? = some x := ⟨l[k], by simp [hlt]⟩; have HX := Lib.hid hx0; obtain ⟨g, o, rfl, hc⟩ := HRX.out.cs (by omega); replace hc := hc.dn hz; have hxo := HOK.out x (List.mem_of_getElem? hx0); have hCm := Lib.hid (fun W => rfCmp r.a r.b r.c r.d x.a x.b x.c x.d W); have hlt' := cmp_ltR' (x := x) (p := r) ⟨hxo.1, hxo.2.1⟩ ⟨HQ.out.1, HQ.out.2.1⟩; have hOl := hin.1; have HIN := Lib.hid hin; have hc1 := HCX.out.dn hz; clear hx0 hxo hin
           cases d
           · by_cases hcmp : or2 (eC r.a r.b x.a x.b) (eC r.c r.d x.c x.d) < 0
             ·
               have d3 : decide (or2 (eC r.a r.b x.a x.b) (eC r.c r.d x.c x.d) < 0) = true := (by simpa using hcmp); have HLT := Lib.hid (hlt'.1 hcmp); clear hcmp hlt'; generalize or2 (eC r.a r.b x.a x.b) (eC r.c r.d x.c x.d) = n at *; go_wp2_with fail; obtain ⟨a0, a1, a2, a3⟩ := hc.el _ _ HX.out; have al := hc.lt; obtain ⟨r0c, r1c, r2c, r3c⟩ := c4_cells hc1; have rl := hc1.lt; clear hc1; have hS1 := kd_8 (W := wr) (Dn.refl _) ⟨Dn.refl _, a0, a1, a2, a3, r0c, r1c, r2c, r3c⟩; have HShS1 := Lib.hid hS1; clear a0 a1 a2 a3 r0c r1c r2c r3c; refine wp_region_held_drew (S := fun w' => Dn wr w' /\ w'.cell? ⟨g, o + k * 4, none⟩ = some (.int .i8 x.a) /\ w'.cell? ⟨g, o + k * 4 + 1, none⟩ = some (.int .i64 x.b) /\ w'.cell? ⟨g, o + k * 4 + 2, none⟩ = some (.int .i8 x.c) /\ w'.cell? ⟨g, o + k * 4 + 3, none⟩ = some (.int .i64 x.d) /\ w'.cell? ⟨w.heap.size, 0, none⟩ = some (.int .i8 r.a) /\ w'.cell? ⟨w.heap.size, 1, none⟩ = some (.int .i64 r.b) /\ w'.cell? ⟨w.heap.size, 2, none⟩ = some (.int .i8 r.c) /\ w'.cell? ⟨w.heap.size, 3, none⟩ = some (.int .i64 r.d)) (by kernel_rfl) ?_ (fun hHeld => ?_)
               · (try dsimp only); (exact ke kd_8)
               refine tS 0 rfl ?_; refine tS 1 rfl ?_; refine tS 2 rfl ?_; refine tS 3 rfl ?_; refine tS 4 rfl ?_; refine tS 5 rfl ?_; refine tS 6 rfl ?_; refine tS 7 rfl ?_; refine rD 8 rfl (fun K hK => ?_); go_simp
               (go_at_call 109; refine (hCm.out _).mono ?_; rintro e wa ⟨rfl, qa⟩)
               try go_wp2_with fail
               refine hK.out _ _ ?_ (fun hHeld => ?_)
               · (try dsimp only); (exact ke kd_8)
               clear hK K
               try simp only [Act.put, pL]
               refine tS 9 rfl ?_; refine tS 10 rfl ?_; refine wpAnyH_done (by kernel_rfl) ?_ _
               all_goals skip
               all_goals
                 clear hS1; obtain ⟨uf10, c2, c3, c4, c5, c6, c7, c8, c9⟩ := (‹Dn wr _ /\ _› : _ /\ _); obtain ⟨w11, rfl⟩ : ∃ w11 : World, w11 = wa := ⟨_, rfl⟩; have aE := nlt al uf10.size; clear al; have aF := nlt rl uf10.size; clear rl; replace hown := hown.dn uf10; have vuf10 := hz.trans uf10; clear uf10 hz HShS1; clear hc; go_wp2_with (at_builtin; refine list_run rfl _ _ rfl w11 wx.heap.size u9 O r.a r.b r.c r.d rfl hown rfl (by omega) vuf10.size ?_); intro v' w' hown' hold hdn; replace hdn := hdn wx vuf10 rfl; clear hold vuf10 hown; have hown := hown'; have hzr := hdn; clear hown' hdn; obtain ⟨g', o', e', hcc⟩ := (HRX.out.dn hzr).cs (by omega)
                 cases e'
                 obtain ⟨b0, b1, b2, b3⟩ := hcc.el _ _ HX.out; clear hcc; have hl2 : (O ++ [⟨r.a, r.b, r.c, r.d⟩] : List Rq).length <= 1000000 := (by simp; omega); go_wp2_with (at_builtin; refine list_run rfl _ _ rfl w' wx.heap.size v' _ x.a x.b x.c x.d rfl hown rfl hl2 hzr.size ?_); intro v2 w2 hown2 hold hdn; replace hdn := hdn wx hzr rfl; clear hold hzr hown b0 b1 b2 b3; have hown := hown2; clear hown2; go_wp2_with fail; go_roundw
                 case rel => exact ⟨k + 1, true, _, by omega, by simp, rfl, ins_in HIN.out HX.out HLT.out, (by rw [List.append_assoc]; exact hown), hdn⟩
                 case measure => simp [intOf]; omega
             ·
               have d3 : decide (or2 (eC r.a r.b x.a x.b) (eC r.c r.d x.c x.d) < 0) = false := (by simpa using hcmp); have HLT := Lib.hid (fun h => hcmp (hlt'.2 h)); clear hcmp hlt'; generalize or2 (eC r.a r.b x.a x.b) (eC r.c r.d x.c x.d) = n at *; go_wp2_with fail; obtain ⟨a0, a1, a2, a3⟩ := hc.el _ _ HX.out; have al := hc.lt; obtain ⟨r0c, r1c, r2c, r3c⟩ := c4_cells hc1; have rl := hc1.lt; clear hc1; have hS1 := kd_8 (W := wr) (Dn.refl _) ⟨Dn.refl _, a0, a1, a2, a3, r0c, r1c, r2c, r3c⟩; have HShS1 := Lib.hid hS1; clear a0 a1 a2 a3 r0c r1c r2c r3c; refine wp_region_held_drew (S := fun w' => Dn wr w' /\ w'.cell? ⟨g, o + k * 4, none⟩ = some (.int .i8 x.a) /\ w'.cell? ⟨g, o + k * 4 + 1, none⟩ = some (.int .i64 x.b) /\ w'.cell? ⟨g, o + k * 4 + 2, none⟩ = some (.int .i8 x.c) /\ w'.cell? ⟨g, o + k * 4 + 3, none⟩ = some (.int .i64 x.d) /\ w'.cell? ⟨w.heap.size, 0, none⟩ = some (.int .i8 r.a) /\ w'.cell? ⟨w.heap.size, 1, none⟩ = some (.int .i64 r.b) /\ w'.cell? ⟨w.heap.size, 2, none⟩ = some (.int .i8 r.c) /\ w'.cell? ⟨w.heap.size, 3, none⟩ = some (.int .i64 r.d)) (by kernel_rfl) ?_ (fun hHeld => ?_)
               · (try dsimp only); (exact ke kd_8)
               refine tS 0 rfl ?_; refine tS 1 rfl ?_; refine tS 2 rfl ?_; refine tS 3 rfl ?_; refine tS 4 rfl ?_; refine tS 5 rfl ?_; refine tS 6 rfl ?_; refine tS 7 rfl ?_; refine rD 8 rfl (fun K hK => ?_); go_simp
               (go_at_call 109; refine (hCm.out _).mono ?_; rintro e wa ⟨rfl, qa⟩)
               try go_wp2_with fail
               refine hK.out _ _ ?_ (fun hHeld => ?_)
               · (try dsimp only); (exact ke kd_8)
               clear hK K
               try simp only [Act.put, pL]
               refine tS 9 rfl ?_; refine tS 10 rfl ?_; refine wpAnyH_done (by kernel_rfl) ?_ _
               all_goals skip
               all_goals
                 clear hS1; obtain ⟨uf10, c2, c3, c4, c5, c6, c7, c8, c9⟩ := (‹Dn wr _ /\ _› : _ /\ _); obtain ⟨w11, rfl⟩ : ∃ w11 : World, w11 = wa := ⟨_, rfl⟩; have aE := nlt al uf10.size; clear al; have aF := nlt rl uf10.size; clear rl; replace hown := hown.dn uf10; have vuf10 := hz.trans uf10; clear uf10 hz HShS1; clear hc; go_wp2_with (at_builtin; refine list_run rfl _ _ rfl w11 wx.heap.size u9 O x.a x.b x.c x.d rfl hown rfl (by omega) vuf10.size ?_); intro v' w' hown' hold hdn; replace hdn := hdn wx vuf10 rfl; clear hold vuf10 hown; have hown := hown'; have hzx := hdn; clear hown' hdn; go_wp2_with fail; go_roundw
                 case rel => exact ⟨k + 1, false, _, by omega, by simp, rfl, ins_no HIN.out HX.out HLT.out, hown, hzx⟩
                 case measure => simp [intOf]; omega
           · clear hlt' hc1
             go_wp2_with fail; obtain ⟨a0, a1, a2, a3⟩ := hc.el _ _ HX.out; have al := hc.lt; have hS1 := kd_4 (W := wr) (Dn.refl _) ⟨Dn.refl _, a0, a1, a2, a3⟩; have HShS1 := Lib.hid hS1; clear a0 a1 a2 a3; refine wp_region_held_drew (S := fun w' => Dn wr w' /\ w'.cell? ⟨g, o + k * 4, none⟩ = some (.int .i8 x.a) /\ w'.cell? ⟨g, o + k * 4 + 1, none⟩ = some (.int .i64 x.b) /\ w'.cell? ⟨g, o + k * 4 + 2, none⟩ = some (.int .i8 x.c) /\ w'.cell? ⟨g, o + k * 4 + 3, none⟩ = some (.int .i64 x.d)) (by kernel_rfl) ?_ (fun hHeld => ?_)
             · (try dsimp only); (exact ke kd_4)
             refine tS 0 rfl ?_; refine tS 1 rfl ?_; refine tS 2 rfl ?_; refine tV 3 rfl ?_; refine tV 4 rfl ?_; refine tV 5 rfl ?_; refine tV 6 rfl ?_; refine tV 7 rfl ?_; refine tV 8 rfl ?_; refine tV 9 rfl ?_; refine tS 10 rfl ?_; refine wpAnyH_done (by kernel_rfl) ?_ _
             all_goals skip
             all_goals
               clear hS1; obtain ⟨uf6, c2, c3, c4, c5⟩ := (‹Dn wr _ /\ _› : _ /\ _); have l7 := nlt al uf6.size; clear al; replace hown := hown.dn uf6; have vuf6 := hz.trans uf6; clear uf6 hz HShS1; clear hc; go_wp2_with (at_builtin; refine list_run rfl _ _ rfl wr.drew wx.heap.size u9 O x.a x.b x.c x.d rfl hown rfl (by omega) vuf6.size ?_); intro v' w' hown' hold hdn; replace hdn := hdn wx vuf6 rfl; clear hold vuf6 hown; have hown := hown'; have hzx := hdn; clear hown' hdn; go_wp2_with fail; go_roundw
               case rel => exact ⟨k + 1, true, _, by omega, by simp, rfl, ins_past HIN.out HX.out, hown, hzx⟩
               case measure => simp [intOf]; omega
         · have d1 : decide ((k : Int) < l.length) = false := by rw [decide_eq_false_iff_not]; omega
           have HEND := Lib.hid (ins_end hin (by omega)); have hOl := hin.1; clear hin
           cases d
           · obtain ⟨r0c, r1c, r2c, r3c⟩ := c4_cells (HCX.out.dn hz)
             go_wp2_with (at_builtin; refine list_run rfl _ _ rfl wr wx.heap.size u9 O r.a r.b r.c r.d rfl hown rfl (by omega) hz.size ?_); intro v' w' hown' hold hdn; replace hdn := hdn wx hz rfl; clear hold hz hown r0c r1c r2c r3c; have hL := HE.out.trans HEND.out; simp only [Bool.false_eq_true, if_false] at hL; have hown2 : OwnQ w' wx.heap.size v' (putL L0 q) := (by rw [hL]; exact hown'); obtain ⟨p', cap', rfl, hcap, hrow⟩ := hown2.rowOf; have HROW := Lib.hid hrow; clear hown' hown2 hL hrow; go_wp2_with fail; go_ret
             first | exact ⟨p', cap', rfl, HROW.out, HU.out.trans hdn⟩ | exact ⟨p', ⟨cap', rfl⟩, HROW.out, HU.out.trans hdn⟩
           · have hL := HE.out.trans HEND.out
             simp only [if_true] at hL; rw [<- hL] at hown; obtain ⟨p', cap', rfl, hcap, hrow⟩ := hown.rowOf; have HROW := Lib.hid hrow; clear hown hL hrow; go_wp2_with fail; go_ret
             first | exact ⟨p', cap', rfl, HROW.out, HU.out.trans hz⟩ | exact ⟨p', ⟨cap', rfl⟩, HROW.out, HU.out.trans hz⟩
     · obtain ⟨y, hy, hyr, hil⟩ := lastT_ge hlast
       have HE := Lib.hid (HPUT.out.symm.trans (putF_some hlast hy)); have HY := Lib.hid hy; have HYR := Lib.hid hyr; clear hlast hy hyr; simp only [atV]; have d2 : decide ((i : Int) < 0) = false := (by rw [decide_eq_false_iff_not]; omega); have HJ := Lib.hid (fun W => rfJoin y.a y.b y.c y.d r.a r.b r.c r.d W); have hc1 := HCX.out; obtain ⟨g, o, rfl, hc⟩ := HRX.out.cs (by omega); go_wp2_with fail; obtain ⟨a0, a1, a2, a3⟩ := hc.el _ _ HY.out; obtain ⟨r0c, r1c, r2c, r3c⟩ := c4_cells hc1; go_region_with (refine (HJ.out _).mono ?_; rintro e wa ⟨rfl, qa⟩; have hC2 := (C4.drew hc1).dn qa; have f0 := hC2.f0; have f1 := hC2.f1; have f2 := hC2.f2; have f3 := hC2.f3; have g0 := hC2.c0; have g1 := hC2.c1; have g2 := hC2.c2; have g3 := hC2.c3)
       all_goals
         clear f0 f1 f2 f3 g0 g1 g2 g3 a0 a1 a2 a3 r0c r1c r2c r3c; obtain ⟨W2, hW2⟩ : ∃ W2, W2 = (((wa.setCell ⟨w.heap.size, 0, none⟩ (.int .i8 (mnI y.a y.b r.a r.b))).setCell ⟨w.heap.size, 1, none⟩ (.int .i64 (mnD y.a y.b r.a r.b))).setCell ⟨w.heap.size, 2, none⟩ (.int .i8 (mxI y.c y.d r.c r.d))).setCell ⟨w.heap.size, 3, none⟩ (.int .i64 (mxD y.c y.d r.c r.d)) := ⟨_, rfl⟩; have hC3 : C4 W2 w.heap.size (.int .i8 (mnI y.a y.b r.a r.b)) (.int .i64 (mnD y.a y.b r.a r.b)) (.int .i8 (mxI y.c y.d r.c r.d)) (.int .i64 (mxD y.c y.d r.c r.d)) := (by rw [hW2]; exact hC2.fill _ _ _ _); have hc3 : Cs W2 g o l := (by rw [hW2]; exact ((hc.dn (Dn.refl _).drew).dn qa).far4 (HN.out (by omega) g o rfl) _ _ _ _); have hu3 : Dn w W2 := (by rw [hW2]; exact ((((HU.out.drew.trans qa).setCell (Nat.le_refl _) _).setCell (Nat.le_refl _) _).setCell (Nat.le_refl _) _).setCell (Nat.le_refl _) _); rw [<- hW2]; have HC3 := Lib.hid hC3; have Hc3 := Lib.hid hc3; clear hW2 hC2 hC3 hc3 hc hc1 qa HCX HRX HU; go_wp2_with fail; go_loopw [7, 8] (fun rv iv wz => ∃ k : Nat, k <= l.length /\ iv = .int .i64 k /\ OwnQ wz W2.heap.size rv ((l.take k).eraseIdx i) /\ Dn W2 wz) (fun _ iv _ => l.length - (intOf iv).toNat)
         case atStart => exact ⟨0, by omega, rfl, by simpa using OwnQ.nil _ _, Dn.refl _⟩
         case round =>
           obtain ⟨k, hk, rfl, hown, hz⟩ := hrel
           by_cases hlt : k < l.length
           · have d1 : decide ((k : Int) < l.length) = true := by simp; omega
             obtain ⟨x, hx0⟩ : ∃ x, l[k]? = some x := ⟨l[k], by simp [hlt]⟩; have HX := Lib.hid hx0; clear hx0; have hlen3 := te_len l k i
             by_cases hki : k = i
             · have HKI := Lib.hid hki
               have e1 : ((k : Int) != (i : Int)) = false := (by simp; omega); clear hki; go_wp2_with fail; go_roundw
               case rel => exact ⟨k + 1, by omega, by simp, by rw [erase_at HX.out HKI.out]; exact hown, hz⟩
               case measure => simp [intOf]; omega
             · have HKI := Lib.hid hki
               have e1 : ((k : Int) != (i : Int)) = true := (by simp; omega); clear hki; obtain ⟨a0, a1, a2, a3⟩ := (Hc3.out.dn hz).el _ _ HX.out; go_wp2_with (at_builtin; refine list_run rfl _ _ rfl wr W2.heap.size u7 _ x.a x.b x.c x.d rfl hown rfl (by omega) hz.size ?_); intro v' w' hown' hold hdn; replace hdn := hdn W2 hz rfl; clear hold hz hown a0 a1 a2 a3; go_wp2_with fail; go_roundw
               case rel => exact ⟨k + 1, by omega, by simp, by rw [erase_ne HX.out HKI.out]; exact hown', hdn⟩
               case measure => simp [intOf]; omega
           · obtain rfl : k = l.length := by omega
             have d1 : decide ((l.length : Int) < l.length) = false := (by simp); rw [List.take_length] at hown; obtain ⟨p', cap', rfl, hcap, hrow, hb⟩ := hown.rowB; go_wp2_with fail; go_roundw
             case rel => exact ⟨l.eraseIdx i, jnR y r, p', cap', rfl, hrow, fun z hz2 => HOK.out z (erase_sub hz2), jnR_ok (HOK.out y (List.mem_of_getElem? HY.out)) HQ.out, HE.out.symm, HC3.out.dn hz, by have := te_len l l.length i; rw [List.take_length] at this; omega, fun _ g2 o2 e => by have := hb g2 o2 e; have := HC3.out.lt; omega, hu3.trans hz⟩
             case measure => simp only [lenOf]; rw [List.length_eraseIdx, if_pos hil]; omega
set_option maxHeartbeats 4000000
set_option maxRecDepth 100000
def bothL (a b : List Rq) : Int := if chkL a = 0 then chkL b else chkL a
def fin3 (c : Int) (M : List Rq) : Int := if c ≠ 0 then c else if 4096 < M.length then 3 else 0
def res3 (c : Int) (M : List Rq) : List Rq := if fin3 c M = 0 then M else []
def errL : List Rq -> Int
 | [] => 0
 | x :: t => if rnErr x.a x.b x.c x.d ≠ 0 then rnErr x.a x.b x.c x.d else errL t
def ofE (L : List Rq) : Int := if 4096 < L.length then 3 else errL L
theorem err_at {L : List Rq} {k : Nat} {x : Rq} (h : L[k]? = some x) : errL (L.drop k) = if rnErr x.a x.b x.c x.d ≠ 0 then rnErr x.a x.b x.c x.d else errL (L.drop (k + 1)) := by
 obtain ⟨hl, rfl⟩ := List.getElem?_eq_some_iff.1 h
 rw [List.drop_eq_getElem_cons hl]; rfl
theorem err_bad {L : List Rq} {k : Nat} {x : Rq} (h : L[k]? = some x) (he : rnErr x.a x.b x.c x.d ≠ 0) : errL (L.drop k) = rnErr x.a x.b x.c x.d := by rw [err_at h, if_pos he]
theorem err_ok {L : List Rq} {k : Nat} {x : Rq} (h : L[k]? = some x) (he : rnErr x.a x.b x.c x.d = 0) : errL (L.drop k) = errL (L.drop (k + 1)) := by rw [err_at h, if_neg (by simpa using he)]
theorem err_end {L : List Rq} : errL (L.drop L.length) = 0 := by simp [errL]
theorem fold_at {f : List Rq -> Rq -> List Rq} {L : List Rq} {k : Nat} {x : Rq} (h : L[k]? = some x) (z : List Rq) : (L.take (k + 1)).foldl f z = f ((L.take k).foldl f z) x := by
 rw [take_at h, List.foldl_append]; rfl
theorem put_len : ∀ (n : Nat) (l : List Rq) (r : Rq), l.length = n -> (putF n l r).length <= l.length + 1
 | 0, l, r, h => by
   have : l = [] := List.length_eq_zero_iff.1 h; subst this; simp [putF, insR]
 | n + 1, l, r, h => by
   have hins : ∀ m : List Rq, (insR r m).length = m.length + 1 := fun m => by
     induction m with
     | nil => rfl
     | cons x t ih => unfold insR; split <;> simp [ih]
   unfold putF; split
   · rw [hins]; omega
   · next i hi =>
     have hlt := (lastT_some hi).1; have e : (l.eraseIdx i).length = n := (by rw [List.length_eraseIdx, if_pos hlt]; omega); have := put_len n (l.eraseIdx i) (jnR (l.getD i ⟨0, 0, 0, 0⟩) r) e; omega
theorem putL_len (l : List Rq) (r : Rq) : (putL l r).length <= l.length + 1 := put_len _ l r rfl
theorem foldP_len (b : List Rq) : ∀ a : List Rq, (b.foldl putL a).length <= a.length + b.length := by
 induction b with
 | nil => intro a; simp
 | cons x t ih => intro a; have h1 := ih (putL a x); have h2 := putL_len a x; simp only [List.foldl_cons, List.length_cons]; omega
theorem foldP_take (b a : List Rq) (k : Nat) : ((b.take k).foldl putL a).length <= a.length + k := by
 have h1 := foldP_len (b.take k) a
 have h2 : (b.take k).length <= k := by simp; omega
 omega
theorem putF_ok : ∀ (n : Nat) (l : List Rq) (r : Rq), (∀ x ∈ l, x.ok) -> r.ok -> ∀ x ∈ putF n l r, x.ok
 | 0, l, r, h, hr => by unfold putF; exact ins_ok h hr
 | n + 1, l, r, h, hr => by
   unfold putF; split
   · exact ins_ok h hr
   · next i hi =>
     refine putF_ok n _ _ (fun x hx => h x (erase_sub hx)) (jnR_ok ?_ hr); obtain ⟨y, hy, _, hl⟩ := lastT_ge hi; simp only [List.getD, hy, Option.getD_some]; exact h y (List.mem_of_getElem? hy)
where
 ins_ok {l : List Rq} {r : Rq} (h : ∀ x ∈ l, x.ok) (hr : r.ok) : ∀ x ∈ insR r l, x.ok := by
   induction l with
   | nil => intro x hx; simp [insR] at hx; subst hx; exact hr
   | cons y t ih =>
     intro x hx; unfold insR at hx; split at hx
     · rcases List.mem_cons.1 hx with rfl | hx
       · exact hr
       · exact h x hx
     · rcases List.mem_cons.1 hx with rfl | hx
       · exact h _ List.mem_cons_self
       · exact ih (fun z hz => h z (List.mem_cons_of_mem _ hz)) x hx
theorem putL_ok {l : List Rq} {r : Rq} (h : ∀ x ∈ l, x.ok) (hr : r.ok) : ∀ x ∈ putL l r, x.ok := putF_ok _ l r h hr
theorem foldP_ok : ∀ (b a : List Rq), (∀ x ∈ a, x.ok) -> (∀ x ∈ b, x.ok) -> ∀ x ∈ b.foldl putL a, x.ok
 | [], a, h, _ => h
 | y :: t, a, h, hb => foldP_ok t (putL a y) (putL_ok h (hb y List.mem_cons_self)) (fun z hz => hb z (List.mem_cons_of_mem _ hz))
theorem sep_i6 {L : List Rq} (h : ∀ x ∈ L, x.ok) : I6 L := fun x hx => ⟨(h x hx).1, (h x hx).2.1⟩
theorem chk_ok {L : List Rq} (hI : I6 L) (h : chkL L = 0) : Sep L := by
 unfold chkL at h
 split at h
 · cases h
 · exact chk_sep hI h
theorem fin3_big {M : List Rq} (h : 4096 < M.length) : fin3 0 M = 3 := by unfold fin3; rw [if_neg (by decide), if_pos h]
theorem fin3_small {M : List Rq} (h : ¬ 4096 < M.length) : fin3 0 M = 0 := by unfold fin3; rw [if_neg (by decide), if_neg h]
theorem res3_big {M : List Rq} (h : 4096 < M.length) : res3 0 M = [] := by unfold res3; rw [fin3_big h, if_neg (by decide)]
theorem res3_small {M : List Rq} (h : ¬ 4096 < M.length) : res3 0 M = M := by unfold res3; rw [fin3_small h, if_pos rfl]
theorem fin3_bad {c : Int} {M : List Rq} (h : c ≠ 0) : fin3 c M = c := by unfold fin3; rw [if_pos h]
theorem res3_bad {c : Int} {M : List Rq} (h : c ≠ 0) : res3 c M = [] := by unfold res3; rw [fin3_bad h, if_neg h]
theorem rownil (w : World) : Row w none [] := Row.nil _ _
theorem rfBoth (p : Option Addr) (cap : Nat) (a : List Rq) (q : Option Addr) (cap' : Nat) (b : List Rq) (w : World) (hl1 : a.length <= 1000000) (hI1 : I6 a) (hR1 : Row w p a) (hl2 : b.length <= 1000000) (hI2 : I6 b) (hR2 : Row w q b) :
   Calls Tryz.prog 68 #[.slice p a.length cap, .slice q b.length cap'] w fun ro w' => ro = .returned (.int .i64 (bothL a b)) /\ Dn w w' := by
 have HA := Lib.hid (fun W (h : Dn w W) => rfCheck p cap a W hl1 hI1 (hR1.dn h))
 have HB := Lib.hid (fun W (h : Dn w W) => rfCheck q cap' b W hl2 hI2 (hR2.dn h))
 clear hI1 hI2 hR1 hR2
 unfold bothL
 by_cases h0 : chkL a = 0
 · rw [if_pos h0]
   rw [h0] at HA; go_enter Tryz.func68, Tryz.ntmps68; go_wp2_with fail; refine (HA.out _ (Dn.refl _)).mono ?_; rintro e w1 ⟨rfl, qw1⟩; have uw1 := qw1; clear qw1; go_wp2_with fail; refine (HB.out _ uw1).mono ?_; rintro e w2 ⟨rfl, qw2⟩; have uw2 := uw1.trans qw2; clear qw2 uw1; go_wp2_with fail; go_ret; exact ⟨rfl, uw2⟩
 · rw [if_neg h0]
   have d0 : (chkL a == 0) = false := by simpa using h0
   have d1 : (chkL a != 0) = true := by simpa using h0
   clear h0; generalize chkL a = c at *; go_enter Tryz.func68, Tryz.ntmps68; go_wp2_with fail; refine (HA.out _ (Dn.refl _)).mono ?_; rintro e w1 ⟨rfl, qw1⟩; have uw1 := qw1; clear qw1; go_wp2_with fail; go_ret; exact ⟨rfl, uw1⟩
theorem rsChecked (p : Option Addr) (cap : Nat) (a : List Rq) (q : Option Addr) (cap' : Nat) (b : List Rq) (w : World) (hl1 : a.length <= 1000000) (hI1 : I6 a) (hR1 : Row w p a) (hl2 : b.length <= 1000000) (hI2 : I6 b) (hR2 : Row w q b) :
   Calls Tryz.prog 62 #[.slice p a.length cap, .slice q b.length cap'] w fun ro w' => ro = .returned (.int .i64 (bothL a b)) /\ Dn w w' := by
 have HA := Lib.hid (fun W (h : Dn w W) => rsCheck p cap a W hl1 hI1 (hR1.dn h))
 have HB := Lib.hid (fun W (h : Dn w W) => rsCheck q cap' b W hl2 hI2 (hR2.dn h))
 clear hI1 hI2 hR1 hR2
 unfold bothL
 by_cases h0 : chkL a = 0
 · rw [if_pos h0]
   rw [h0] at HA; go_enter Tryz.func62, Tryz.ntmps62; go_wp2_with fail; refine (HA.out _ (Dn.refl _)).mono ?_; rintro e w1 ⟨rfl, qw1⟩; have uw1 := qw1; clear qw1; go_wp2_with fail; refine (HB.out _ uw1).mono ?_; rintro e w2 ⟨rfl, qw2⟩; have uw2 := uw1.trans qw2; clear qw2 uw1; go_wp2_with fail; go_ret; exact ⟨rfl, uw2⟩
 · rw [if_neg h0]
   have d0 : (chkL a == 0) = false := by simpa using h0
   have d1 : (chkL a != 0) = true := by simpa using h0
   clear h0; generalize chkL a = c at *; go_enter Tryz.func62, Tryz.ntmps62; go_wp2_with fail; refine (HA.out _ (Dn.refl _)).mono ?_; rintro e w1 ⟨rfl, qw1⟩; have uw1 := qw1; clear qw1; go_wp2_with fail; go_ret; exact ⟨rfl, uw1⟩
theorem rfShort (p : Option Addr) (cap : Nat) (M : List Rq) (w : World) (hR : Row w p M) :
   Calls Tryz.prog 70 #[.slice p M.length cap] w fun ro w' => ∃ p' cap', ro = .returned (.tuple #[.slice p' (res3 0 M).length cap', .int .i64 (fin3 0 M)]) /\ True /\ Row w' p' (res3 0 M) /\ Dn w w' := by
 by_cases h4 : 4096 < M.length
 · have d0 : decide ((M.length : Int) > 4096) = true := by simp; omega
   rw [fin3_big h4, res3_big h4]; go_enter Tryz.func70, Tryz.ntmps70; go_wp2_with fail; go_ret2; exact ⟨none, 0, rfl, trivial, rownil _, Dn.refl _⟩
 · have d0 : decide ((M.length : Int) > 4096) = false := by simp; omega
   rw [fin3_small h4, res3_small h4]; go_enter Tryz.func70, Tryz.ntmps70; go_wp2_with fail; go_ret2; exact ⟨p, cap, rfl, trivial, hR, Dn.refl _⟩
theorem rsLimited (p : Option Addr) (cap : Nat) (M : List Rq) (w : World) (hcap : M.length <= cap) (hmx : cap <= 9223372036854775807) (hR : Row w p M) :
   Calls Tryz.prog 53 #[.slice p M.length cap] w fun ro w' => ∃ p' cap', ro = .returned (.tuple #[.slice p' (res3 0 M).length cap', .int .i64 (fin3 0 M)]) /\ cap' = (res3 0 M).length /\ Row w' p' (res3 0 M) /\ Dn w w' := by
 by_cases h4 : 4096 < M.length
 · have d0 : decide ((M.length : Int) > 4096) = true := by simp; omega
   rw [fin3_big h4, res3_big h4]; go_enter Tryz.func53, Tryz.ntmps53; go_wp2_with fail; go_ret2; exact ⟨none, 0, rfl, rfl, rownil _, Dn.refl _⟩
 · have d0 : decide ((M.length : Int) > 4096) = false := by simp; omega
   have hcI : (M.length : Int) <= cap := by omega
   rw [fin3_small h4, res3_small h4]; go_enter Tryz.func53, Tryz.ntmps53; go_wp2_with fail; go_ret2; exact ⟨p, M.length, rfl, rfl, hR, Dn.refl _⟩
end Go.Proofs.YtoghoddjkdoohaaGreatDoor
