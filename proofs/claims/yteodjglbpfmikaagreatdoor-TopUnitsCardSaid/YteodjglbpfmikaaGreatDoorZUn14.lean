/- Walks and laws that the claim's theorem leans on: part 14. -/
import Derived.Test.YteodjglbpfmikaaGreatDoorZUn1
import Derived.Test.YteodjglbpfmikaaGreatDoorZUn2
import Derived.Laws.RangeString
import Derived.Laws.RangeAny
import Derived.Deep.WholeRow
import Derived.WalkMore
namespace Go.Proofs.YteodjglbpfmikaaGreatDoor
set_option maxRecDepth 100000
open Go.RowKit
set_option linter.unusedVariables false
set_option linter.unusedSimpArgs false
def mX : ByteArray := ⟨#[50, 48, 88, 48]⟩
theorem mX_size : mX.size = 4 := rfl
theorem mX_dec : Utf8.decode mX 0 = (50, 1) ∧ Utf8.decode mX 1 = (48, 1) ∧ Utf8.decode mX 2 = (88, 1) ∧ Utf8.decode mX 3 = (48, 1) := by decide +kernel
theorem mCheck (w : World) : Calls Tryz.prog 99 #[.string mX] w fun ro w' => ro = .returned (.int .i64 0) ∧ Dn w w' := by
 have hs := mX_size
 have hne : mX.toList.isEmpty = false := by decide +kernel
 obtain ⟨dc0, dc1, dc2, dc3⟩ := mX_dec
 generalize mX = M at *
 go_enter Tryz.func99, Tryz.ntmps99
 go_wp2
 go_loopw [2] (fun zv w' => ∃ pos : Nat, w' = w.iter M pos ∧ zv = .int .i64 0 ∧ pos ≤ 4) (fun _ w' => M.size - w'.iterPos w.heap.size)
 case atStart => exact ⟨0, rfl, rfl, by omega⟩
 case round =>
  obtain ⟨pos, rfl, rfl, h4⟩ := hrel
  by_cases hp : pos < M.size
  · rcases (show pos = 0 ∨ pos = 1 ∨ pos = 2 ∨ pos = 3 by omega) with rfl | rfl | rfl | rfl
    · have hnx : ∀ ty, (Instr.next (.pointer (some ⟨w.heap.size, 0, none⟩)) true ty).run Tryz.prog (w.iter M 0) = .ok (.tuple #[.bool true, .int .i64 0, .int .i32 50]) (w.iter M 1) := fun ty => by
       rw [run_next_any w M 0 ty hp, dc0]; rfl
      go_wp2
      go_roundw
      case rel => exact ⟨1, rfl, rfl, by omega⟩
      case measure => simp; omega
    · have hnx : ∀ ty, (Instr.next (.pointer (some ⟨w.heap.size, 0, none⟩)) true ty).run Tryz.prog (w.iter M 1) = .ok (.tuple #[.bool true, .int .i64 1, .int .i32 48]) (w.iter M 2) := fun ty => by
       rw [run_next_any w M 1 ty hp, dc1]; rfl
      go_wp2
      go_roundw
      case rel => exact ⟨2, rfl, rfl, by omega⟩
      case measure => simp; omega
    · have hnx : ∀ ty, (Instr.next (.pointer (some ⟨w.heap.size, 0, none⟩)) true ty).run Tryz.prog (w.iter M 2) = .ok (.tuple #[.bool true, .int .i64 2, .int .i32 88]) (w.iter M 3) := fun ty => by
       rw [run_next_any w M 2 ty hp, dc2]; rfl
      go_wp2
      go_roundw
      case rel => exact ⟨3, rfl, rfl, by omega⟩
      case measure => simp; omega
    · have hnx : ∀ ty, (Instr.next (.pointer (some ⟨w.heap.size, 0, none⟩)) true ty).run Tryz.prog (w.iter M 3) = .ok (.tuple #[.bool true, .int .i64 3, .int .i32 48]) (w.iter M 4) := fun ty => by
       rw [run_next_any w M 3 ty hp, dc3]; rfl
      go_wp2
      go_roundw
      case rel => exact ⟨4, rfl, rfl, by omega⟩
      case measure => simp; omega
  · have hnx : ∀ ty, (Instr.next (.pointer (some ⟨w.heap.size, 0, none⟩)) true ty).run Tryz.prog (w.iter M pos) = _ := fun ty => run_next_end w M pos ty hp
    go_wp2
    go_ret
    exact ⟨rfl, (Dn.refl _).alloc _⟩
theorem mPower (w : World) : Calls Tryz.prog 138 #[.int .i64 4] w fun ro w' => ro = .returned (.int .i64 10000) ∧ w = w' := by
 have hp := ipow_yes 4
 go_enter Tryz.func138, Tryz.ntmps138
 go_wp2_with (go_at_call 168; refine (hp _ (by decide)).mono ?_; rintro e wa ⟨rfl, rfl⟩)
 go_ret
 exact ⟨rfl, rfl⟩
theorem mWithin (w : World) : Calls Tryz.prog 101 #[.string mX, .int .i64 2001] w fun ro w' => ro = .returned (.bool true) ∧ w = w' := by
 have hs := mX_size
 go_enter Tryz.func101, Tryz.ntmps101
 go_wp2_with (go_at_call 138; refine (mPower _).mono ?_; rintro e wa ⟨rfl, rfl⟩)
 go_ret
 exact ⟨rfl, rfl⟩
theorem wpList_val {P : Program} {ops : Array Oper} {rest : List Oper} {o : Oper} {a : Act} {Q : Exit → Act → World → Prop} {w w' : World} {v : Value} (hgd : o.guard = none) (hr : (execOp a.eval o).run P w = .ok (.value v) w') (h : wpList P ops Q rest (a.put o.dst v) w') : wpList P ops Q (o :: rest) a w := by
 have hw : Region.wanted o (yielded ops a.tmps) = true := by simp [Region.wanted, hgd]
 rw [wpList, if_pos hw]
 refine Or.inl ?_
 show o.upon P a _ _ ((execOp a.eval o).run P w)
 rw [hr]
 exact h
theorem wpList_skp {P : Program} {ops : Array Oper} {rest : List Oper} {o : Oper} {a : Act} {Q : Exit → Act → World → Prop} {w w' : World} (hgd : o.guard = none) (hr : (execOp a.eval o).run P w = .ok .skip w') (h : wpList P ops Q rest (a.put o.dst undef) w') : wpList P ops Q (o :: rest) a w := by
 have hw : Region.wanted o (yielded ops a.tmps) = true := by simp [Region.wanted, hgd]
 rw [wpList, if_pos hw]
 refine Or.inl ?_
 show o.upon P a _ _ ((execOp a.eval o).run P w)
 rw [hr]
 exact h
theorem wpList_loadD {ops : Array Oper} {rest : List Oper} {o : Oper} {a : Act} {Q : Exit → Act → World → Prop} (hgd : o.guard = none) (p : Operand) (ho : o.op = .load 169 p) (w : World) (c : Array Value) (hz : c.size = 18) (hp : a.eval p = .pointer (some ⟨w.heap.size, 0, none⟩))
  (h : wpList Tryz.prog ops Q rest (a.put o.dst (.agg c)) (w.alloc (.cells c 169))) : wpList Tryz.prog ops Q (o :: rest) a (w.alloc (.cells c 169)) := by
 refine wpList_val hgd ?_ h
 simp only [execOp, ho, hp, Sem.run_bind]
 rw [run_loadAt_new w _ c 18 _ Tryz.underlying169 (by rw [hz]; kernel_rfl)]
 rfl
theorem wpList_storeD {ops : Array Oper} {rest : List Oper} {o : Oper} {a : Act} {Q : Exit → Act → World → Prop} (hgd : o.guard = none) (p x : Operand) (ho : o.op = .store 169 p x) (w : World) (c c' : Array Value) (hz : c.size = 18) (hz' : c'.size = 18) (h1 : c'.all (·.oneCell') = true) (hp : a.eval p = .pointer (some ⟨w.heap.size, 0, none⟩)) (hx : a.eval x = .agg c')
  (h : wpList Tryz.prog ops Q rest (a.put o.dst undef) (w.alloc (.cells c' 169))) : wpList Tryz.prog ops Q (o :: rest) a (w.alloc (.cells c 169)) := by
 refine wpList_skp hgd ?_ h
 simp only [execOp, ho, hp, hx, Sem.run_bind]
 rw [run_storeAt_new w _ c c' (by rw [hz']; kernel_rfl) (by omega) h1]
 rfl
def bys (l : List Int) : Array Value := (l.map fun x => Value.int .u8 x).toArray
def Sp (w wr : World) (l : List Int) : Prop := wr = w.alloc (.cells (bys l) 169)
def spN : Nat → Int
 | 0 => 2001
 | 1 => 200
 | 2 => 20
 | 3 => 2
 | _ => 0
def spI : Nat → Int
 | 0 => 3
 | 1 => 2
 | 2 => 1
 | 3 => 0
 | _ => -1
def spL : Nat → List Int
 | 0 => [0, 0, 0, 0, 0, 0, 0, 0, 0, 0, 0, 0, 0, 0, 0, 0, 0, 0]
 | 1 => [0, 0, 0, 49, 0, 0, 0, 0, 0, 0, 0, 0, 0, 0, 0, 0, 0, 0]
 | 2 => [0, 0, 48, 49, 0, 0, 0, 0, 0, 0, 0, 0, 0, 0, 0, 0, 0, 0]
 | 3 => [0, 48, 48, 49, 0, 0, 0, 0, 0, 0, 0, 0, 0, 0, 0, 0, 0, 0]
 | _ => [50, 48, 48, 49, 0, 0, 0, 0, 0, 0, 0, 0, 0, 0, 0, 0, 0, 0]
theorem mSplit (c : Array Value) (hc : Hid (c = bys (spL 4))) (w : World) : Calls Tryz.prog 139 #[.string mX, .int .i64 2001] w fun ro w' => ro = .returned (.agg c) ∧ Dn w w' := by
 have hs := mX_size
 generalize mX = M at *
 go_enter Tryz.func139, Tryz.ntmps139
 go_wp2
 go_loopw [1, 5] (fun nv iv wr => ∃ k : Nat, k ≤ 4 ∧ nv = .int .i64 (spN k) ∧ iv = .int .i64 (spI k) ∧ Sp w wr (spL k)) (fun _ iv _ => (intOf iv + 1).toNat)
 case atStart => exact ⟨0, by decide, rfl, rfl, rfl⟩
 case round =>
  obtain ⟨k, hk, rfl, rfl, hw⟩ := hrel
  unfold Sp at hw
  rcases (show k = 0 ∨ k = 1 ∨ k = 2 ∨ k = 3 ∨ k = 4 by omega) with rfl | rfl | rfl | rfl | rfl
  all_goals simp only [spN, spI]
  · rw [hw]
    clear hw
    show Code.wp _ _ _ _ (w.alloc (.cells #[.int .u8 0, .int .u8 0, .int .u8 0, .int .u8 0, .int .u8 0, .int .u8 0, .int .u8 0, .int .u8 0, .int .u8 0, .int .u8 0, .int .u8 0, .int .u8 0, .int .u8 0, .int .u8 0, .int .u8 0, .int .u8 0, .int .u8 0, .int .u8 0] 169))
    go_wp2
    go_roundw
    case rel => exact ⟨1, by decide, rfl, rfl, rfl⟩
    case measure => simp [intOf]
  · rw [hw]
    clear hw
    show Code.wp _ _ _ _ (w.alloc (.cells #[.int .u8 0, .int .u8 0, .int .u8 0, .int .u8 49, .int .u8 0, .int .u8 0, .int .u8 0, .int .u8 0, .int .u8 0, .int .u8 0, .int .u8 0, .int .u8 0, .int .u8 0, .int .u8 0, .int .u8 0, .int .u8 0, .int .u8 0, .int .u8 0] 169))
    go_wp2
    go_roundw
    case rel => exact ⟨2, by decide, rfl, rfl, rfl⟩
    case measure => simp [intOf]
  · rw [hw]
    clear hw
    show Code.wp _ _ _ _ (w.alloc (.cells #[.int .u8 0, .int .u8 0, .int .u8 48, .int .u8 49, .int .u8 0, .int .u8 0, .int .u8 0, .int .u8 0, .int .u8 0, .int .u8 0, .int .u8 0, .int .u8 0, .int .u8 0, .int .u8 0, .int .u8 0, .int .u8 0, .int .u8 0, .int .u8 0] 169))
    go_wp2
    go_roundw
    case rel => exact ⟨3, by decide, rfl, rfl, rfl⟩
    case measure => simp [intOf]
  · rw [hw]
    clear hw
    show Code.wp _ _ _ _ (w.alloc (.cells #[.int .u8 0, .int .u8 48, .int .u8 48, .int .u8 49, .int .u8 0, .int .u8 0, .int .u8 0, .int .u8 0, .int .u8 0, .int .u8 0, .int .u8 0, .int .u8 0, .int .u8 0, .int .u8 0, .int .u8 0, .int .u8 0, .int .u8 0, .int .u8 0] 169))
    go_wp2
    go_roundw
    case rel => exact ⟨4, by decide, rfl, rfl, rfl⟩
    case measure => simp [intOf]
  · rw [← hc.out] at hw
    rw [hw]
    clear hw
    have hz : c.size = 18 := by rw [hc.out]; decide
    have h1 : c.all (·.oneCell') = true := by rw [hc.out]; simp [bys, spL, Value.oneCell']
    have HZ := Lib.hid hz
    have H1 := Lib.hid h1
    clear hz h1 hc
    go_wp2_with (first | ((with_reducible refine wpList_loadD rfl _ rfl w c HZ.out ?_ ?_); rfl) | ((with_reducible refine wpList_storeD rfl _ _ rfl w c c HZ.out HZ.out H1.out ?_ ?_ ?_); rfl; rfl))
    exact bodyPost_ret (v := .agg c) (results_cell_row Tryz.results139 _ _ w.heap.size 169 c (0, 0) _ rfl (heap_alloc_last w _) Tryz.underlying169 rfl (by rw [HZ.out]; kernel_rfl)) rfl ⟨rfl, (Dn.refl _).alloc _⟩
def flN : Nat → Int
 | 0 => 0
 | 1 => 2
 | 2 => 20
 | 3 => 201
 | _ => 2010
def mY : ByteArray := ⟨#[50, 48, 49, 48]⟩
theorem mY_bytes (w : World) : ∃ cap W, (convert 9 178 (.string mY)).run Tryz.prog w = .ok (.slice (some ⟨w.heap.size, 0, none⟩) 4 cap) W ∧ Dn w W ∧ W.cell? ⟨w.heap.size, 0, none⟩ = some (.int .u8 50) ∧ W.cell? ⟨w.heap.size, 1, none⟩ = some (.int .u8 48) ∧ W.cell? ⟨w.heap.size, 2, none⟩ = some (.int .u8 49) ∧ W.cell? ⟨w.heap.size, 3, none⟩ = some (.int .u8 48) := by
 have h := run_bytes_of_string (P := Tryz.prog) w 9 178 5 mY Tryz.underlying9 Tryz.underlying178 Tryz.underlying5
 refine ⟨_, _, h, (Dn.refl _).drew.alloc _, ?_⟩
 · have hc : ∀ (cap j : Nat) (v : Value), (bytesRow mY cap)[j]? = some v → (w.drew.alloc (.cells (bytesRow mY cap) 5 ((bytesRow mY cap).size, (bytesRow mY cap).size + 1))).cell? ⟨w.heap.size, j, none⟩ = some v := fun cap j v hv => by
    have := cell_of_row (w.drew.alloc (.cells (bytesRow mY cap) 5 ((bytesRow mY cap).size, (bytesRow mY cap).size + 1))) w.heap.size j (bytesRow mY cap) 5 ((bytesRow mY cap).size, (bytesRow mY cap).size + 1) (heap_alloc_last w.drew _)
    rw [this]; exact hv
   exact ⟨hc _ _ _ (bytesRow_at mY _ 0 (by decide)), hc _ _ _ (bytesRow_at mY _ 1 (by decide)), hc _ _ _ (bytesRow_at mY _ 2 (by decide)), hc _ _ _ (bytesRow_at mY _ 3 (by decide))⟩
theorem mFilled (w : World) : Calls Tryz.prog 137 #[.string mY, .int .u8 0] w fun ro w' => ro = .returned (.int .i64 2010) ∧ Dn w w' := by
 obtain ⟨cap, W, hb, hd, b0, b1, b2, b3⟩ := mY_bytes w
 have HD := Lib.hid hd
 clear hd
 go_enter Tryz.func137, Tryz.ntmps137
 go_wp2
 clear hb
 go_loopw [5, 11] (fun nv iv wr => ∃ k : Nat, k ≤ 4 ∧ nv = .int .i64 (flN k) ∧ iv = .int .i64 (k : Int) ∧ wr = W) (fun _ iv _ => (4 - intOf iv).toNat)
 case atStart => exact ⟨0, by decide, rfl, rfl, rfl⟩
 case round =>
  obtain ⟨k, hk, rfl, rfl, rfl⟩ := hrel
  rcases (show k = 0 ∨ k = 1 ∨ k = 2 ∨ k = 3 ∨ k = 4 by omega) with rfl | rfl | rfl | rfl | rfl
  all_goals simp only [flN]
  · go_wp2
    go_roundw
    case rel => exact ⟨1, by decide, rfl, rfl, trivial⟩
    case measure => simp [intOf]
  · go_wp2
    go_roundw
    case rel => exact ⟨2, by decide, rfl, rfl, trivial⟩
    case measure => simp [intOf]
  · go_wp2
    go_roundw
    case rel => exact ⟨3, by decide, rfl, rfl, trivial⟩
    case measure => simp [intOf]
  · go_wp2
    go_roundw
    case rel => exact ⟨4, by decide, rfl, rfl, trivial⟩
    case measure => simp [intOf]
  · go_wp2
    go_ret
    exact ⟨rfl, HD.out⟩
theorem mValue (c : Array Value) (hz : c.size = 18) (h0 : c[0]? = some (.int .u8 50)) (h1 : c[1]? = some (.int .u8 48)) (h2 : c[2]? = some (.int .u8 49)) (h3 : c[3]? = some (.int .u8 48)) (h18 : c.all (·.oneCell') = true) (w : World) : Calls Tryz.prog 140 #[.string mX, .agg c] w fun ro w' => ro = .returned (.int .i64 2010) ∧ Dn w w' := by
 have hs := mX_size
 have hb : (convert 178 9 (.slice (some ⟨w.heap.size, 0, none⟩) 4 18)).run Tryz.prog (w.alloc (.cells c 169)) = .ok (.string mY) (w.alloc (.cells c 169)) := by
  refine run_convert_bytes_back (P := Tryz.prog) (w.alloc (.cells c 169)) 178 9 5 ⟨w.heap.size, 0, none⟩ 18 [50, 48, 49, 48] Tryz.underlying178 Tryz.underlying5 Tryz.underlying9 ?_
  intro j hj
  have hc : ∀ (j : Nat) (v : Value), c[j]? = some v → (w.alloc (.cells c 169)).cell? ((⟨w.heap.size, 0, none⟩ : Addr).add j) = some v := fun j v hv => by
    have hadd : (⟨w.heap.size, 0, none⟩ : Addr).add j = ⟨w.heap.size, j, none⟩ := by unfold Addr.add; split <;> simp_all
    rw [hadd, cell_of_row _ _ j c 169 (0, 0) (heap_alloc_last w _)]; exact hv
  match j, hj with
  | 0, _ => exact hc _ _ h0
  | 1, _ => exact hc _ _ h1
  | 2, _ => exact hc _ _ h2
  | 3, _ => exact hc _ _ h3
 generalize mX = M at *
 have HZ := Lib.hid hz
 clear h0 h1 h2 h3
 go_enter Tryz.func140, Tryz.ntmps140
 go_wp2_with (go_at_call 137; refine (mFilled _).mono ?_; rintro e wa ⟨rfl, qa⟩)
 go_ret
 exact ⟨rfl, ((Dn.refl _).alloc _).trans qa⟩
theorem wpList_loadN {ops : Array Oper} {rest : List Oper} {o : Oper} {a : Act} {Q : Exit → Act → World → Prop} (hgd : o.guard = none) (p : Operand) (ho : o.op = .load 169 p) (w : World) (c : Array Value) (hz : c.size = 18) (hp : ∃ n, a.eval p = .pointer (some ⟨n, 0, none⟩) ∧ n = w.heap.size)
  (h : wpList Tryz.prog ops Q rest (a.put o.dst (.agg c)) (w.alloc (.cells c 169))) : wpList Tryz.prog ops Q (o :: rest) a (w.alloc (.cells c 169)) := by
 obtain ⟨n, hp, rfl⟩ := hp
 exact wpList_loadD hgd p ho w c hz hp h
theorem wpList_storeN {ops : Array Oper} {rest : List Oper} {o : Oper} {a : Act} {Q : Exit → Act → World → Prop} (hgd : o.guard = none) (p x : Operand) (ho : o.op = .store 169 p x) (w : World) (c c' : Array Value) (hz : c.size = 18) (hz' : c'.size = 18) (h1 : c'.all (·.oneCell') = true) (hx : a.eval x = .agg c') (hp : ∃ n, a.eval p = .pointer (some ⟨n, 0, none⟩) ∧ n = w.heap.size)
  (h : wpList Tryz.prog ops Q rest (a.put o.dst undef) (w.alloc (.cells c' 169))) : wpList Tryz.prog ops Q (o :: rest) a (w.alloc (.cells c 169)) := by
 obtain ⟨n, hp, rfl⟩ := hp
 exact wpList_storeD hgd p x ho w c c' hz hz' h1 hp hx h
structure By (w : World) (b : Nat) (l : List Int) : Prop where
 lt : b < w.heap.size
 el : ∀ (k : Nat) (v : Int), l[k]? = some v → w.cell? ⟨b, k, none⟩ = some (.int .u8 v)
 fz : ∀ k : Nat, k < l.length → w.frozen? ⟨b, k, none⟩ = false
theorem By.dn {w w' : World} {b : Nat} {l : List Int} (h : By w b l) (q : Dn w w') : By w' b l := ⟨Nat.lt_of_lt_of_le h.lt q.size, fun k v hk => q.cell (h.el k v hk), fun k hk => by rw [q.frozen h.lt]; exact h.fz k hk⟩
theorem by_new (w : World) (l : List Int) : By (w.alloc (.cells (bys l) 169)) w.heap.size l := ⟨by simp, fun k v hk => by
 rw [cell_of_row _ _ k (bys l) 169 (0, 0) (heap_alloc_last w _)]
 unfold bys
 simp [hk], fun k _ => by simp [go_sem]⟩
theorem By.set {w : World} {b : Nat} {l : List Int} (h : By w b l) {k : Nat} {v : Int} (hk : k < l.length) : By (w.setCell ⟨b, k, none⟩ (.int .u8 v)) b (l.set k v) := ⟨by simpa using h.lt, fun j x hj => by
 by_cases e : k = j
 · subst e
   rw [List.getElem?_set_self hk] at hj
   cases hj
   exact World.cell?_setCell_same _ _ _ (h.el k _ (List.getElem?_eq_getElem hk))
 · rw [List.getElem?_set_ne e] at hj
   rw [World.cell?_setCell_other (h := fun q => e (by injection q))]
   exact h.el j x hj, fun j hj => by
 rw [World.frozen?_setCell]
 exact h.fz j (by simpa using hj)⟩
theorem noGoto_normal {Q : Exit → Act → World → Prop} {a : Act} {w : World} (h : Q Exit.normal a w) : Exit.noGoto Q Exit.normal a w := h
def spO : List Int := [50, 48, 49, 48, 0, 0, 0, 0, 0, 0, 0, 0, 0, 0, 0, 0, 0, 0]
theorem mBeyond (c : Array Value) (hc : Hid (c = bys (spL 4))) (w : World) : Calls Tryz.prog 102 #[.string mX, .int .i64 2001, .bool true] w fun ro w' => ro = .returned (.tuple #[.int .i64 2010, .int .i64 0]) ∧ Dn w w' := by
 have hs := mX_size
 have HZ : Hid (c.size = 18) := Lib.hid (by rw [hc.out]; decide)
 have H1 : Hid (c.all (·.oneCell') = true) := Lib.hid (by rw [hc.out]; simp [bys, spL, Value.oneCell'])
 go_enter Tryz.func102, Tryz.ntmps102
 go_wp2_with (first | (go_at_call 139; refine (mSplit c hc _).mono ?_; rintro e wa ⟨rfl, qa⟩) | ((with_reducible refine wpList_loadN rfl _ rfl _ c HZ.out ?_ ?_); exact ⟨_, rfl, by simp⟩) | ((with_reducible refine wpList_storeN rfl _ _ rfl _ _ c ?_ HZ.out H1.out ?_ ?_ ?_); (first | rfl | exact HZ.out); rfl; exact ⟨_, rfl, by simp⟩))
 obtain ⟨W, hW⟩ : ∃ W, W = (wa.alloc (.cells c 169)).alloc (.cells c 169) := ⟨_, rfl⟩
 have HD0 := Lib.hid (show By W wa.heap.size (spL 4) by rw [hW, hc.out]; exact (by_new wa _).dn ((Dn.refl _).alloc _))
 have HO0 := Lib.hid (show By W (wa.heap.size + 1) (spL 4) by
  rw [hW, hc.out]
  have h := by_new (wa.alloc (.cells (bys (spL 4)) 169)) (spL 4)
  simpa using h)
 have HU0 := Lib.hid (show Dn w W by rw [hW]; exact (qa.alloc _).alloc _)
 rw [← hW]
 clear hW
 obtain ⟨b1, hb1⟩ : ∃ b, b = wa.heap.size := ⟨_, rfl⟩
 have HB := Lib.hid (show w.heap.size ≤ b1 by rw [hb1]; exact qa.size)
 rw [← hb1] at HD0 HO0 ⊢
 clear hb1 qa HZ H1 hc
 go_loopw [12] (fun av wr => ∃ k : Nat, k ≤ 3 ∧ av = .int .i64 (k : Int) ∧ Dn W wr) (fun av _ => (3 - intOf av).toNat)
 case atStart => exact ⟨0, by decide, rfl, Dn.refl _⟩
 case round =>
  obtain ⟨k, hk, rfl, hu⟩ := hrel
  have hd := HD0.out.dn hu
  have d0 := hd.el 0 _ rfl
  have d1 := hd.el 1 _ rfl
  have d2 := hd.el 2 _ rfl
  have d3 := hd.el 3 _ rfl
  have HU := Lib.hid hu
  clear hd hu
  have m0 : mX[0].toNat = 50 := rfl
  have m1 : mX[1].toNat = 48 := rfl
  have m2 : mX[2].toNat = 88 := rfl
  have m3 : mX[3].toNat = 48 := rfl
  rcases (show k = 0 ∨ k = 1 ∨ k = 2 ∨ k = 3 by omega) with rfl | rfl | rfl | rfl
  · go_wp2_with fail
    go_quiet (fail)
    go_wp2_with fail
    go_roundw
    case rel => exact ⟨1, by decide, rfl, HU.out.drewN _⟩
    case measure => simp [intOf]
  · go_wp2_with fail
    go_quiet (fail)
    go_wp2_with fail
    go_roundw
    case rel => exact ⟨2, by decide, rfl, HU.out.drewN _⟩
    case measure => simp [intOf]
  · go_wp2_with fail
    go_quiet (fail)
    go_wp2_with fail
    go_roundw
    case rel => exact ⟨3, by decide, rfl, HU.out.drewN _⟩
    case measure => simp [intOf]
  · go_wp2_with fail
    go_quiet (fail)
    go_wp2_with fail
    go_quiet (fail)
    go_wp2_with fail
    go_step3
    go_wp2_with fail
    go_step3
    go_wp2_with fail
    clear d0 d1 d2 d3
    go_loopw [12] (fun av wv => av = .int .i64 3 ∧ Dn W wv) (fun _ _ => 0)
    case atStart => exact ⟨rfl, (HU.out.drewN _).drewN _⟩
    case round =>
     clear HU
     obtain ⟨rfl, hu⟩ := hrel
     have hd := HD0.out.dn hu
     have ho := HO0.out.dn hu
     have d2 := hd.el 2 _ rfl
     have o2 := ho.el 2 _ rfl
     have z2 := ho.fz 2 (by decide)
     have HOO := Lib.hid ho
     have HU := Lib.hid hu
     clear hd ho hu
     go_wp2_with fail
     have HO1 := Lib.hid (HOO.out.set (k := 2) (v := 49) (by decide))
     have HU1 := Lib.hid ((HU0.out.trans HU.out).setCell (p := ⟨b1 + 1, 2, none⟩) (Nat.le_trans HB.out (Nat.le_succ _)) (.int .u8 49))
     refine noGoto_normal ?_
     go_wp2_with fail
     clear o2 z2 d2 HOO HU HD0 HO0
     go_loopw [12] (fun av wv => (av = .int .i64 3 ∧ By wv (b1 + 1) ((spL 4).set 2 49) ∧ Dn w wv) ∨ (av = .int .i64 4 ∧ By wv (b1 + 1) spO ∧ Dn w wv)) (fun av _ => (4 - intOf av).toNat)
     case atStart => exact .inl ⟨rfl, HO1.out, HU1.out⟩
     case round =>
      clear HO1 HU1
      rcases hrel with ⟨rfl, ho, hu⟩ | ⟨rfl, ho, hu⟩
      · have o3 := ho.el 3 _ rfl
        have z3 := ho.fz 3 (by decide)
        have HOO := Lib.hid ho
        have HU := Lib.hid hu
        clear ho hu
        go_wp2_with fail
        go_roundw
        case rel => exact .inr ⟨rfl, HOO.out.set (k := 3) (v := 48) (by decide), HU.out.setCell (p := ⟨b1 + 1, 3, none⟩) (Nat.le_trans HB.out (Nat.le_succ _)) _⟩
        case measure => simp [intOf]
      · have o0 := ho.el 0 _ rfl
        have o1 := ho.el 1 _ rfl
        have o2 := ho.el 2 _ rfl
        have o3 := ho.el 3 _ rfl
        have o4 := ho.el 4 _ rfl
        have o5 := ho.el 5 _ rfl
        have o6 := ho.el 6 _ rfl
        have o7 := ho.el 7 _ rfl
        have o8 := ho.el 8 _ rfl
        have o9 := ho.el 9 _ rfl
        have o10 := ho.el 10 _ rfl
        have o11 := ho.el 11 _ rfl
        have o12 := ho.el 12 _ rfl
        have o13 := ho.el 13 _ rfl
        have o14 := ho.el 14 _ rfl
        have o15 := ho.el 15 _ rfl
        have o16 := ho.el 16 _ rfl
        have o17 := ho.el 17 _ rfl
        have HU := Lib.hid hu
        clear ho hu
        go_wp2_with fail
        refine (mValue _ rfl rfl rfl rfl rfl (by simp [Value.oneCell']) _).mono ?_
        rintro e wz ⟨rfl, qz⟩
        go_wp2_with fail
        exact bodyPost_ret (v := .tuple #[.int .i64 2010, .int .i64 0]) (by simp [results, Tryz.results102, go_sem]) rfl ⟨rfl, HU.out.trans qz⟩
theorem mNext (w : World) : Calls Tryz.prog 45 #[.string mX, .int .i64 2001] w fun ro w' => ro = .returned (.tuple #[.int .i64 2010, .int .i64 0]) ∧ Dn w w' := by
 have HC := mCheck
 have HW := mWithin
 have HBY := Lib.hid (mBeyond _ (Lib.hid rfl))
 generalize mX = M at *
 go_enter Tryz.func45, Tryz.ntmps45
 go_wp2_with (first | (go_at_call 99; refine (HC _).mono ?_; rintro e w1 ⟨rfl, q1⟩) | (go_at_call 101; refine (HW _).mono ?_; rintro e w2 ⟨rfl, rfl⟩) | (go_at_call 102; refine (HBY.out _).mono ?_; rintro e w3 ⟨rfl, q3⟩))
 exact bodyPost_ret (v := .tuple #[.int .i64 2010, .int .i64 0]) (by simp [results, Tryz.results45, go_sem]) rfl ⟨rfl, q1.trans q3⟩
end Go.Proofs.YteodjglbpfmikaaGreatDoor
