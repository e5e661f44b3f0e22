/- Walks and laws that the claim's theorem leans on: part 13. -/
import Derived.Test.YteodjglbpfmikaaGreatDoorZUn1
import Derived.Test.YteodjglbpfmikaaGreatDoorZUn2
import Derived.Test.YteodjglbpfmikaaGreatDoorZUn5
import Derived.Test.YteodjglbpfmikaaGreatDoorZUn7
import Derived.Test.YteodjglbpfmikaaGreatDoorZUn11
import Derived.Test.YteodjglbpfmikaaGreatDoorZUn12
import Derived.Maps.OwnIn
import Derived.Maps.AppendAt
namespace Go.Proofs.YteodjglbpfmikaaGreatDoor
set_option maxHeartbeats 8000000
set_option maxRecDepth 100000
open Go.RowKit Go.Maps Go.Sort Go.Shelf Go.Proofs
set_option linter.unusedVariables false
set_option linter.unusedSimpArgs false
theorem fn_not_nil (g : Nat) (lb : Array Value) (W : World) : Sem.run Tryz.prog (binOp BinOp.eql 58 (.func (.func g) #[] lb) .nilFunc) W = .ok (.bool false) W := by kernel_rfl
theorem slSeq (g : Nat) (lb : Array Value) (w : World) : Calls Tryz.prog 121 #[.func (.func g) #[] lb] w fun ro w' => ro = .returned (.func (.func g) #[] lb) ∧ w' = w := by
 have e1 := fn_not_nil g lb w
 go_enter Tryz.func121, Tryz.ntmps121
 go_wp2_with fail
 go_ret
 exact ⟨rfl, rfl⟩
theorem or_f {p : Prop} : (False ∨ p) = p := propext ⟨fun x => x.elim False.elim id, .inr⟩
theorem jn_empty {L : List Rq} (h : L.length = 0) : (joinedL L).length = 0 := by rw [List.length_eq_zero_iff] at h; subst h; rfl
theorem joined_strm (b1 : Nat) (sv : Value) (L : List Rq) (w : World) (hI : I6 L) (hb : w.heap[b1]? = some (.cells #[sv] 58 (0, 0))) (hS : StrV sv L w) :
   StrG 123 #[.pointer (some ⟨b1, 0, none⟩)] (joinedL L) w := by
 intro n l J Jx W hJ hY h0
 obtain ⟨g, lb, rfl, hg, hSG⟩ := hS
 obtain ⟨cA, cB, hAB⟩ : ∃ cA cB, stPick Tryz.f123.body = (cA, cB) := ⟨_, _, rfl⟩
 have FG := Tryz.func123
 refine callsIn_wide.2 ((callsIn_wide (n := 5)).1 ?_)
 refine callsIn_of_wp_marks FG rfl trivial ?_ rfl
 simp only [Tryz.ntmps123, List.size_toArray, List.length_cons, List.length_nil, Nat.reduceAdd, Nat.reduceSub, Array.replicate_succ, Array.replicate_zero, List.push_toArray, List.append_toArray, List.nil_append, List.cons_append]
 have hW := hJ.dn _ _ _ h0
 obtain ⟨x0, -⟩ := cell_of_box_a (heap_dn hb hW)
 have x1 := ((((Dn.refl W).alloc (.cells #[.func (.yield l) #[] #[]] 137)).alloc (.cells #[.int .i8 0, .int .i64 0, .int .i8 0, .int .i64 0] 30)).alloc (.cells #[.bool false] 4)).cell x0
 clear x0
 have HJ := Lib.hid hJ
 have HY := Lib.hid hY
 have HSG := Lib.hid hSG
 have HH0 := Lib.hid h0
 clear hJ hY hSG h0 hb hW
 gi_wp2_with (refine ⟨trivial, ?_⟩; gi_at_call 121; refine (callsIn_wide.2 (slSeq _ _ _)).mono ?_; rintro e w' ⟨rfl, rfl⟩)
 clear x1
 refine wpIn_rangeFunc ?_
 intro fn hfn
 obtain ⟨V1, hV1⟩ : ∃ V1, W.alloc (.cells #[.func (.yield l) #[] #[]] 137) = V1 := ⟨_, rfl⟩
 have s1 : V1.heap.size = W.heap.size + 1 := by rw [← hV1]; simp
 obtain ⟨V2, hV2⟩ : ∃ V2, V1.alloc (.cells #[.int .i8 0, .int .i64 0, .int .i8 0, .int .i64 0] 30) = V2 := ⟨_, rfl⟩
 have s2 : V2.heap.size = W.heap.size + 2 := by rw [← hV2]; simp [s1]
 obtain ⟨V3, hV3⟩ : ∃ V3, V2.alloc (.cells #[.bool false] 4) = V3 := ⟨_, rfl⟩
 have s3 : V3.heap.size = W.heap.size + 3 := by rw [← hV3]; simp [s2]
 obtain ⟨V4, hV4⟩ : ∃ V4, V3.alloc (.deferred (some [])) = V4 := ⟨_, rfl⟩
 have s4 : V4.heap.size = W.heap.size + 4 := by rw [← hV4]; simp [s3]
 rw [hV1, hV2, hV3]
 obtain ⟨R0, hR⟩ : ∃ R0, R0 = jnRec cA cB fn (.func (.yield l) #[] #[]) (.func (.func g) #[] lb) b1 W.heap.size (W.heap.size + 1) (W.heap.size + 1 + 1) V3.heap.size := ⟨_, rfl⟩
 obtain ⟨V5, hV5⟩ : ∃ V5, V4.alloc (.loop (R0 .ready none)) = V5 := ⟨_, rfl⟩
 have q1 : Dn W V1 := by rw [← hV1]; exact (Dn.refl _).alloc _
 have q2 : Dn V1 V2 := by rw [← hV2]; exact (Dn.refl _).alloc _
 have q3 : Dn V2 V3 := by rw [← hV3]; exact (Dn.refl _).alloc _
 have q4 : Dn V3 V4 := by rw [← hV4]; exact (Dn.refl _).alloc _
 have q5 : Dn V4 V5 := by rw [← hV5]; exact (Dn.refl _).alloc _
 have k1 := HJ.out.nw _ _ _ (.cells #[.func (.yield l) #[] #[]] 137) HH0.out
 rw [hV1] at k1
 have k2 := HJ.out.nw _ _ _ (.cells #[.int .i8 0, .int .i64 0, .int .i8 0, .int .i64 0] 30) k1
 rw [hV2] at k2
 have k3 := HJ.out.nw _ _ _ (.cells #[.bool false] 4) k2
 rw [hV3] at k3
 have k4 := HJ.out.nw _ _ _ (.deferred (some [])) k3
 rw [hV4] at k4
 have k5 := HJ.out.nw _ _ _ (.loop (R0 .ready none)) k4
 rw [hV5] at k5
 obtain ⟨M, hM⟩ : ∃ M : Nat → Prop, M = fun b => (((b = W.heap.size ∨ b = V1.heap.size) ∨ b = V2.heap.size) ∨ b = V3.heap.size) ∨ b = V4.heap.size := ⟨_, rfl⟩
 have eM : (fun b => ((((False ∨ b = W.heap.size) ∨ b = V1.heap.size) ∨ b = V2.heap.size) ∨ b = V3.heap.size) ∨ b = V4.heap.size) = fun b => False ∨ M b := by
   rw [hM]; funext b; rw [or_f, or_f]
 rw [eM] at k5
 have hc2 : V5.heap[W.heap.size]? = some (.cells #[.func (.yield l) #[] #[]] 137 (0, 0)) := heap_dn (by rw [← hV1]; exact World.alloc_heap_new _ _) (((q2.trans q3).trans q4).trans q5)
 have hc3 : Q4 V5 (W.heap.size + 1) ⟨0, 0, 0, 0⟩ := by rw [← s1]; exact heap_dn (by rw [← hV2]; exact World.alloc_heap_new _ _) ((q3.trans q4).trans q5)
 have hc4 : V5.heap[W.heap.size + 1 + 1]? = some (.cells #[.bool false] 4 (0, 0)) := by rw [show W.heap.size + 1 + 1 = V2.heap.size by omega]; exact heap_dn (by rw [← hV3]; exact World.alloc_heap_new _ _) (q4.trans q5)
 have hK : V5.heap[V3.heap.size]? = some (.deferred (some [])) := heap_dn (by rw [← hV4]; exact World.alloc_heap_new _ _) q5
 have hL2 : V5.heap[V4.heap.size]? = some (.loop (R0 .ready none)) := by rw [← hV5]; exact World.alloc_heap_new _ _
 have hB : JnB W.heap.size (W.heap.size + 1) (W.heap.size + 1 + 1) V3.heap.size V4.heap.size := by constructor <;> omega
 have hI0 : JnI J R0 (.func (.yield l) #[] #[]) W.heap.size (W.heap.size + 1) (W.heap.size + 1 + 1) V3.heap.size V4.heap.size L 0 (fun _ => False) V5 :=
   ⟨M, 0, false, ⟨0, 0, 0, 0⟩, k5, fun _ _ h => h, by rw [hM]; exact .inl (.inl (.inl (.inl rfl))), by rw [hM]; exact .inl (.inl (.inl (.inr (by omega)))), by rw [hM]; exact .inl (.inl (.inr (by omega))), by rw [hM]; exact .inl (.inr rfl), by rw [hM]; exact .inr rfl,
     hc2, hc3, hc4, hL2, hK, ⟨by decide, by decide⟩, .inl ⟨rfl, rfl, rfl⟩⟩
 have hgo := HSG.out 4 V4.heap.size (JnI J R0 (.func (.yield l) #[] #[]) W.heap.size (W.heap.size + 1) (W.heap.size + 1 + 1) V3.heap.size V4.heap.size L) (JnX Jx R0 V3.heap.size V4.heap.size) V5 (jn_ok HJ.out)
   (fun k x T A m hx h => jn_round cA cB hAB fn l (.func (.func g) #[] lb) b1 W.heap.size (W.heap.size + 1) (W.heap.size + 1 + 1) V3.heap.size V4.heap.size hB L hI J Jx w HJ.out HY.out R0 hR k x T A m hx h) hI0
 have h5 : V5 = (V3.alloc (.deferred (some []))).alloc (.loop (R0 .ready none)) := by rw [hV4, hV5]
 clear k1 k2 k3 k4 k5 eM hc2 hc3 hc4 hK hL2 hI0 hV1 hV2 hV3 q1 q2 q3 q4 q5
 refine ⟨V4.heap.size, [{ target := .collected V3.heap.size, args := #[] }], V5, { target := .fn (.func g) lb, args := #[.func (.yield V4.heap.size) #[] #[]] }, V5, g,
   #[.func (.yield V4.heap.size) #[] #[]] ++ lb, V5, ?_, ?_, ?_, ?_, fun _ => by decide, ?_⟩
 · have hA : cA = (stPick Tryz.f123.body).1 := by rw [hAB]
   have hBB : cB = (stPick Tryz.f123.body).2 := by rw [hAB]
   rw [h5, show V4.heap.size = V3.heap.size + 1 by omega, hR, hA, hBB]; exact run_enterLoop_outer _ _ _ _ _
 · simp [resolve, go_sem]
 · intro f' _; trivial
 · simp [invoke, go_sem, hg]
 · refine hgo.mono ?_
   clear hgo h5 hV4 hV5 hM
   rintro e W2 ⟨⟨v0, rfl⟩, ⟨T, M', m, any, now, h2⟩ | ⟨T, M', hx, hd, hD, hl, hl2, hK⟩⟩
   · have hend := run_endLoop (P := Tryz.prog) h2.L2 (by rw [hR]; simp [jnRec])
     have hpe : (R0 .ready none).pending = none := by rw [hR]; rfl
     obtain ⟨W3, hW3⟩ : ∃ W3, W2.putObj V4.heap.size (.loop { R0 .ready none with state := .exhausted }) = W3 := ⟨_, rfl⟩
     rw [hW3] at hend
     replace hend : (Instr.endLoop V4.heap.size).run Tryz.prog W2 = .ok none W3 := by rw [← hpe]; exact hend
     have hj3 : J m (fun b => T b ∨ M' b) W3 := by rw [← hW3]; exact HJ.out.mv _ _ _ _ h2.j (Moves.put (.inr h2.ml) _ _)
     have c2 : W3.heap[W.heap.size]? = some (.cells #[.func (.yield l) #[] #[]] 137 (0, 0)) := by rw [← hW3]; exact heap_put h2.c2 hB.n2l
     have c3 : Q4 W3 (W.heap.size + 1) now := by rw [← hW3]; exact heap_put h2.c3 hB.n3l
     have c4 : W3.heap[W.heap.size + 1 + 1]? = some (.cells #[.bool any] 4 (0, 0)) := by rw [← hW3]; exact heap_put h2.c4 hB.n4l
     have cK : W3.heap[V3.heap.size]? = some (.deferred (some [])) := by rw [← hW3]; exact heap_put h2.K hB.nDl
     have HST := Lib.hid h2.st
     have mD := h2.mD
     rw [s3] at cK mD
     refine ⟨none, W3, hend, ?_⟩
     clear hW3 hend h2
     obtain ⟨n0, n1, n2, n3⟩ := c3.cells
     obtain ⟨y0, -⟩ := cell_of_box_a c2
     obtain ⟨a0, -⟩ := cell_of_box_a c4
     clear c2 c3 c4
     have HK := Lib.hid cK
     clear cK
     cases any with
     | false =>
       gi_wp2
       refine ⟨by simp, .inl ⟨_, _, rfl, run_takeDeferred HK.out, ?_⟩⟩
       have hm : m = (joinedL L).length := by
         rcases HST.out with ⟨_, h1, h2⟩ | ⟨h1, _⟩
         · rw [h2, jn_empty h1]
         · cases h1
       subst hm
       exact ⟨_, results_none rfl _ _ _, ⟨_, rfl⟩, .inl ⟨_, HJ.out.mv _ _ _ _ hj3 (Moves.put (.inr mD) _ _)⟩⟩
     | true =>
       obtain ⟨N, hN, hjl⟩ : ∃ N : List Rq, N.length = m ∧ joinedL L = N ++ [now] := by
         rcases HST.out with ⟨h1, _⟩ | ⟨_, N, h1, h2⟩
         · cases h1
         · exact ⟨N, h1, by rw [h2, List.drop_length]; rfl⟩
       have hm : m + 1 = (joinedL L).length := by rw [hjl]; simp [hN]
       obtain ⟨fn', tmps', as', bd', hy, hR2⟩ := HY.out m now _ _ 3 (jn_idx hN hjl) hj3
       have HM := Lib.hid hm
       clear hm hjl hj3
       gi_wp2
       refine (roundIn_any hR2).mono ?_
       clear hy hR2
       rintro e W5 ⟨⟨rfl, hJ5⟩ | ⟨rfl, hJ5⟩, hk5⟩
       · have hK5 := (hk5 (W.heap.size + 3) (.inr mD)).trans HK.out
         rw [HM.out] at hJ5
         clear hk5
         gi_wp2
         refine ⟨by simp, .inl ⟨_, _, rfl, run_takeDeferred hK5, ?_⟩⟩
         exact ⟨_, results_none rfl _ _ _, ⟨_, rfl⟩, .inl ⟨_, HJ.out.mv _ _ _ _ hJ5 (Moves.put (.inr mD) _ _)⟩⟩
       · have hK5 := (hk5 (W.heap.size + 3) (.inr mD)).trans HK.out
         clear hk5
         gi_wp2
         refine ⟨by simp, .inl ⟨_, _, rfl, run_takeDeferred hK5, ?_⟩⟩
         exact ⟨_, results_none rfl _ _ _, ⟨_, rfl⟩, .inr ⟨_, HJ.out.mx _ _ _ hJ5 (Moves.put (.inr mD) _ _)⟩⟩
   · have hend := run_endLoop (P := Tryz.prog) hl2 (by rw [hR]; simp [jnRec])
     have hpe : (R0 .done (some .ret)).pending = some .ret := by rw [hR]; rfl
     obtain ⟨W3, hW3⟩ : ∃ W3, W2.putObj V4.heap.size (.loop { R0 .done (some .ret) with state := .exhausted }) = W3 := ⟨_, rfl⟩
     rw [hW3] at hend
     replace hend : (Instr.endLoop V4.heap.size).run Tryz.prog W2 = .ok (some .ret) W3 := by rw [← hpe]; exact hend
     have hx3 : Jx (fun b => T b ∨ M' b) W3 := by rw [← hW3]; exact HJ.out.mx _ _ _ hx (Moves.put (.inr hl) _ _)
     have cK : W3.heap[V3.heap.size]? = some (.deferred (some [])) := by rw [← hW3]; exact heap_put hK hB.nDl
     refine ⟨some .ret, W3, hend, ?_⟩
     clear hW3 hend hx hl2 hK
     rw [s3] at cK hD
     gi_wp2
     refine ⟨by simp, .inl ⟨_, _, rfl, run_takeDeferred cK, ?_⟩⟩
     exact ⟨_, results_none rfl _ _ _, ⟨_, rfl⟩, .inr ⟨_, HJ.out.mx _ _ _ hx3 (Moves.put (.inr hD) _ _)⟩⟩
set_option maxHeartbeats 4000000
set_option maxRecDepth 100000
theorem own_empty (w : World) (base : Nat) (hb : base ≤ w.heap.size) : OwnQ (w.alloc (.cells #[] 30)) base (.slice (some ⟨w.heap.size, 0, none⟩) 0 0) [] :=
 ⟨⟨by simp, .inr ⟨w.heap.size, 0, #[], rfl, hb, World.alloc_heap_new _ _, Nat.le_refl _, by unfold maxLen; omega, by simp, by simp⟩⟩⟩
theorem not_nil (g o n cap : Nat) (W : World) : Sem.run Tryz.prog (binOp BinOp.eql 48 (.slice (some ⟨g, o, none⟩) n cap) (.slice none 0 0)) W = .ok (.bool false) W := by kernel_rfl
theorem slClone (g o cap : Nat) (L : List Rq) (w : World) (hl : L.length ≤ 100000) (hc : Cs w g o L) : Calls Tryz.prog 71 #[.slice (some ⟨g, o, none⟩) L.length cap] w fun ro w' => ∃ p' cap', ro = .returned (.slice p' L.length cap') ∧ Row w' p' L ∧ Dn w w' := by
 have HC := Lib.hid hc
 have HO := Lib.hid (own_empty w w.heap.size (Nat.le_refl _))
 have e1 := not_nil g o L.length cap w
 clear hc
 go_enter Tryz.func71, Tryz.ntmps71
 go_wp2_with (at_builtin; go_loud (refine list_many rfl _ _ rfl (w.alloc (.cells #[] 30)) w.heap.size (.slice (some ⟨w.heap.size, 0, none⟩) 0 0) [] L g o cap rfl HO.out rfl (HC.out.dn ((Dn.refl _).alloc _)) (by simp; omega) (by simp) ?_))
 intro v' w1 hown _ hdn
 have hown' : OwnQ w1 w.heap.size v' L := by simpa using hown
 have u1 : Dn w w1 := hdn w ((Dn.refl _).alloc _) rfl
 obtain ⟨p', cap', rfl, _, hr⟩ := hown'.rowOf
 have HR := Lib.hid hr
 clear hown hown' hdn hr
 go_wp2_with fail
 go_ret
 exact ⟨p', cap', rfl, HR.out, u1⟩
theorem enters_values : ∀ args w, (callFunc 120 args).run Tryz.prog w = .ok (.enter 120 args) w := enters_of Tryz.func120 (by kernel_rfl) rfl
theorem enters_joined : ∀ args w, (callFunc 123 args).run Tryz.prog w = .ok (.enter 123 args) w := enters_of Tryz.func123 (by kernel_rfl) rfl
theorem stFrom (g o cap : Nat) (L : List Rq) (w : World) (hl : L.length ≤ 100000) (hc : Cs w g o L) : Calls Tryz.prog 26 #[.slice (some ⟨g, o, none⟩) L.length cap] w fun ro w' => ∃ gg lb, ro = .returned (.func (.func gg) #[] lb) ∧ StrV (.func (.func gg) #[] lb) L w' ∧ Dn w w' := by
 have HC := Lib.hid (slClone g o cap L w hl hc)
 have HL := Lib.hid hl
 clear hc hl
 go_enter Tryz.func26, Tryz.ntmps26
 go_wp2_with fail
 refine HC.out.mono ?_
 rintro e w1 ⟨p', cap', rfl, hr, u1⟩
 have HR := Lib.hid hr
 clear hr
 go_wp2_with fail
 refine (slValues p' cap' L _ HR.out).mono ?_
 rintro e w2 ⟨B, rfl, cB, u2⟩
 have hS : StrV (.func (.func 120) #[] #[.pointer (some ⟨B, 0, none⟩)]) L w2 := ⟨_, _, rfl, enters_values, vals_strm B p' cap' L w2 HL.out cB (HR.out.dn u2)⟩
 have HS := Lib.hid hS
 clear hS cB
 go_wp2_with fail
 go_ret
 exact ⟨_, _, rfl, HS.out, u1.trans u2⟩
theorem OwnQ.mv {T : Nat → Prop} {A A' : World} {base : Nat} {v : Value} {L : List Rq} (h : OwnQ A base v L) (hT : ∀ g, v.ownBlock = some g → ¬ T g) (q : Moves T A A') : OwnQ A' base v L := by
 refine ⟨h.own.1, ?_⟩
 rcases h.own.2 with h0 | ⟨g, cap, cur, rfl, h1, h2, h3⟩
 · exact .inl h0
 · exact .inr ⟨g, cap, cur, rfl, h1, heap_mv h2 q (hT g rfl), h3⟩
set_option maxHeartbeats 8000000
set_option maxRecDepth 100000
theorem st_ne {W : World} {D : Nat} {v : Value} {L : List Rq} (h : OwnQ W D v L) {B : Nat} (hB : B < D) : v.ownBlock ≠ some B := fun e => by have := (h.row B e).1; omega
theorem st_box {W : World} {D B : Nat} {v : Value} {L : List Rq} (h : OwnQ W D v L) (hB : B < D) (u : Value) : OwnQ (W.setCell ⟨B, 0, none⟩ u) D v L := h.kept (grownBy_setCell0_a W B u) (fun k e => by cases e; exact hB)
theorem st_not {W : World} {D : Nat} {v : Value} {L : List Rq} (h : OwnQ W D v L) {j : Nat} {o : Obj} (ho : W.heap[j]? = some o) (hn : ∀ cur, o ≠ .cells cur 30 (0, 0)) : v.ownBlock ≠ some j := fun e => by
 rcases ownsRow_ne_a h.own ho hn with e2 | e2
 · rw [e2] at e; cases e
 · exact e2 e
theorem st_put {W : World} {D : Nat} {v : Value} {L : List Rq} (h : OwnQ W D v L) {l : Nat} {r : Loop} (hl : W.heap[l]? = some (.loop r)) (o : Obj) : OwnQ (W.putObj l o) D v L :=
 ⟨h.own.kept (grownBy_putObj_a W l o) (ownsRow_ne_a h.own hl (fun cur e => by cases e))⟩
def fsRec (cA cB : Code) (fn : FuncId) (sv : Value) (n : Int) (bn bo D : Nat) (st : LoopState) (pend : Option Code) : Loop :=
 { state := st, pending := pend, fn, tmps := #[sv, .int .i64 n, undef, .pointer (some ⟨bn, 0, none⟩), .slice none 0 0, .pointer (some ⟨bo, 0, none⟩), undef, .int .i64 n, .bool false, sv, sv, undef, undef, undef, undef, undef, undef, undef, undef, undef, undef, undef], params := #[11], assign := cA, body := cB, defers := D }
theorem fs_rec {R0 : LoopState → Option Code → Loop} {cA cB : Code} {fn : FuncId} {sv : Value} {n : Int} {bn bo D l : Nat} (hR : R0 = fsRec cA cB fn sv n bn bo D) {W0 : World} (hL : W0.heap[l]? = some (.loop (R0 .ready none))) (x : Value) :
  (Instr.yield l #[x]).run Tryz.prog W0 = .ok (.round l fn #[sv, .int .i64 n, undef, .pointer (some ⟨bn, 0, none⟩), .slice none 0 0, .pointer (some ⟨bo, 0, none⟩), undef, .int .i64 n, .bool false, sv, sv, x, undef, undef, undef, undef, undef, undef, undef, undef, undef, undef] cA cB) W0 ∧
  (∀ W1 : World, W1.heap[l]? = some (.loop (R0 .ready none)) → (Instr.beginRound l).run Tryz.prog W1 = .ok () (W1.putObj l (.loop (R0 .busy none)))) ∧
  (∀ (W3 : World) (jump : Option Code), W3.heap[l]? = some (.loop (R0 .busy none)) → (Instr.endRound l jump).run Tryz.prog W3 = .ok (.bool jump.isNone) (W3.putObj l (.loop (R0 (if jump.isNone then .ready else .done) jump)))) := by
 subst hR
 exact ⟨by simpa [fsRec] using run_yield (P := Tryz.prog) (args := #[x]) hL rfl, fun W1 h => run_beginRound (P := Tryz.prog) h rfl, fun W3 jump h => run_endRound (P := Tryz.prog) jump h⟩
structure FsS (w : World) (rc : Loop) (n : Int) (bn bo D l : Nat) (L : List Rq) (k : Nat) (T : Nat → Prop) (A : World) (v : Value) : Prop where
 dn : Dn w A
 lt : ∀ b, T b → b < A.heap.size
 lo : ∀ b, T b → w.heap.size ≤ b
 un : ¬ T bn
 uo : ¬ T bo
 uD : ¬ T D
 ul : ¬ T l
 uv : ∀ g, v.ownBlock = some g → ¬ T g
 cn : A.heap[bn]? = some (.cells #[.int .i64 n] 3 (0, 0))
 co : A.heap[bo]? = some (.cells #[v] 48 (0, 0))
 own : OwnQ A D v (L.take k)
 L2 : A.heap[l]? = some (.loop rc)
 K : A.heap[D]? = some (.deferred (some []))
 kl : k ≤ L.length
def FsI (w : World) (R0 : LoopState → Option Code → Loop) (n : Int) (bn bo D l : Nat) (L : List Rq) (k : Nat) (T : Nat → Prop) (A : World) : Prop :=
 (k : Int) < n ∧ ∃ v, FsS w (R0 .ready none) n bn bo D l L k T A v
def FsX (w : World) (R0 : LoopState → Option Code → Loop) (n : Int) (bn bo D l : Nat) (L : List Rq) (T : Nat → Prop) (A : World) : Prop :=
 ∃ k : Nat, (k : Int) = n ∧ ∃ v, FsS w (R0 .done (some (.exit 0))) n bn bo D l L k T A v
section
variable {w : World} {R0 : LoopState → Option Code → Loop} {rc : Loop} {n : Int} {bn bo D l : Nat} {L : List Rq}
theorem FsS.mv {k : Nat} {T : Nat → Prop} {A A' : World} {v : Value} (h : FsS w rc n bn bo D l L k T A v) (q : Moves T A A') : FsS w rc n bn bo D l L k T A' v :=
 ⟨q.dn h.dn h.lo, fun b hb => Nat.lt_of_lt_of_le (h.lt b hb) q.size, h.lo, h.un, h.uo, h.uD, h.ul, h.uv, heap_mv h.cn q h.un, heap_mv h.co q h.uo, h.own.mv h.uv q, heap_mv h.L2 q h.ul, heap_mv h.K q h.uD, h.kl⟩
theorem FsS.nw {k : Nat} {T : Nat → Prop} {A : World} {v : Value} (h : FsS w rc n bn bo D l L k T A v) (o : Obj) : FsS w rc n bn bo D l L k (fun b => T b ∨ b = A.heap.size) (A.alloc o) v := by
 have q : Dn A (A.alloc o) := (Dn.refl _).alloc o
 have ne : ∀ {B : Nat} {o' : Obj}, A.heap[B]? = some o' → ¬ T B → ¬ (T B ∨ B = A.heap.size) := fun hb hn hx => by
   rcases hx with hx | hx
   · exact hn hx
   · have := heap_lt hb; omega
 refine ⟨h.dn.trans q, ?_, ?_, ne h.cn h.un, ne h.co h.uo, ne h.K h.uD, ne h.L2 h.ul, ?_, heap_dn h.cn q, heap_dn h.co q, h.own.dn q, heap_dn h.L2 q, heap_dn h.K q, h.kl⟩
 · rintro b (hb | rfl)
   · exact Nat.lt_of_lt_of_le (h.lt b hb) q.size
   · simp
 · rintro b (hb | rfl)
   · exact h.lo b hb
   · exact h.dn.size
 · rintro g hg (hb | rfl)
   · exact h.uv g hg hb
   · have := (h.own.row _ hg).2; omega
theorem fs_ok : Jok w (FsI w R0 n bn bo D l L) (FsX w R0 n bn bo D l L) := by
 refine ⟨?_, ?_, ?_, ?_, ?_⟩
 · rintro k T A ⟨_, v, h⟩; exact h.dn
 · rintro k T A b ⟨_, v, h⟩ hb; exact h.lt b hb
 · rintro k T A A' ⟨hk, v, h⟩ q; exact ⟨hk, v, h.mv q⟩
 · rintro T A A' ⟨k, hk, v, h⟩ q; exact ⟨k, hk, v, h.mv q⟩
 · rintro k T A o ⟨hk, v, h⟩; exact ⟨hk, v, h.nw o⟩
theorem fs_end {k : Nat} {T : Nat → Prop} {A A2 w4 : World} {v v' : Value} {x : Rq} {rc rc' : Loop} (h : FsS w rc n bn bo D l L k T A v) (hx : L[k]? = some x) (hno : bn ≠ bo) (hn : bn < D) (ho : bo < D) (hD : D < l) (hw : w.heap.size ≤ bo) (hwD : w.heap.size ≤ D)
   (h2 : A2 = (A.alloc (qb x)).putObj l (.loop rc')) (hown : OwnQ w4 D v' (L.take k ++ [x])) (hg : (A2.alloc (qb x)).grownBy w4 v.ownBlock) (hat : v'.ownBlock = v.ownBlock ∨ v'.ownBlock = some (A2.alloc (qb x)).heap.size) :
   w4.heap[bn]? = some (.cells #[.int .i64 n] 3 (0, 0)) ∧ w4.heap[bo]? = some (.cells #[v] 48 (0, 0)) ∧ (w4.setCell ⟨bo, 0, none⟩ v').heap[l]? = some (.loop rc') ∧ ∀ rc'' : Loop, FsS w rc'' n bn bo D l L (k + 1) T ((w4.setCell ⟨bo, 0, none⟩ v').putObj l (.loop rc'')) v' ∧ ∀ b, T b → ((w4.setCell ⟨bo, 0, none⟩ v').putObj l (.loop rc'')).heap[b]? = A.heap[b]? := by
 have hlA := heap_lt h.L2
 have s1 : (A.alloc (qb x)).heap.size = A.heap.size + 1 := by simp
 have s2 : A2.heap.size = A.heap.size + 1 := by rw [h2]; simp [World.putObj]
 have s3 : (A2.alloc (qb x)).heap.size = A.heap.size + 2 := by simp [s2]
 have q1 : Dn A (A.alloc (qb x)) := (Dn.refl _).alloc _
 have q3 : Dn A2 (A2.alloc (qb x)) := (Dn.refl _).alloc _
 have old : ∀ j, j < A.heap.size → j ≠ l → v.ownBlock ≠ some j → w4.heap[j]? = A.heap[j]? := fun j hj hjl hv => by
   rw [hg.block j (by omega) (fun e => hv e.symm), q3.below.block j (by omega), h2, World.putObj_heap_other hjl, q1.below.block j hj]
 have vl : v.ownBlock ≠ some l := st_not h.own h.L2 (fun cur e => by cases e)
 have l4 : w4.heap[l]? = some (.loop rc') := by
   rw [hg.block l (by omega) (fun e => vl e.symm), q3.below.block l (by omega), h2]
   exact World.putObj_heap_same (by rw [s1]; omega)
 have hnA := heap_lt h.cn
 have hoA := heap_lt h.co
 have hDA := heap_lt h.K
 have n4 : w4.heap[bn]? = some (.cells #[.int .i64 n] 3 (0, 0)) := (old bn hnA (by omega) (st_ne h.own hn)).trans h.cn
 have o4 : w4.heap[bo]? = some (.cells #[v] 48 (0, 0)) := (old bo hoA (by omega) (st_ne h.own ho)).trans h.co
 have K4 : w4.heap[D]? = some (.deferred (some [])) := (old D hDA (by omega) (st_not h.own h.K (fun cur e => by cases e))).trans h.K
 have l5 := heap_set (b := bo) (j := 0) (v := v') l4 (by omega)
 have d4 : Dn w w4 := by
   have dA : Dn w A2 := by
     rw [h2]
     exact (Moves.put (T := fun b => b = l) rfl _ _).dn (h.dn.trans q1) (fun b e => by rw [e]; omega)
   exact (dA.trans q3).grown hg (fun j e => by have := (h.own.row j e).1; omega)
 have hlen := h.kl
 refine ⟨n4, o4, l5, fun rc'' => ⟨⟨?_, ?_, h.lo, h.un, h.uo, h.uD, h.ul, ?_, heap_put (heap_set n4 hno) (by omega), heap_put (heap_setCell_box_a _ o4) (by omega), ?_, World.putObj_heap_same (heap_lt l5), heap_put (heap_set K4 (by omega)) (by omega), ?_⟩, ?_⟩⟩
 · exact (Moves.put (T := fun b => b = l) rfl _ _).dn (d4.setCell hw _) (fun b e => by rw [e]; omega)
 · intro b hb
   have := h.lt b hb
   have := hg.size
   simp [World.putObj]; omega
 · intro g hg' hT
   rcases hat with e | e
   · rw [e] at hg'; exact h.uv g hg' hT
   · rw [e] at hg'
     injection hg' with hg'
     have := h.lt g hT
     omega
 · have e : L.take (k + 1) = L.take k ++ [x] := (take_at hx)
   rw [e]
   exact st_put (st_box hown ho v') l5 _
 · obtain ⟨hk, _⟩ := List.getElem?_eq_some_iff.1 hx
   omega
 · intro b hb
   have hbl : b ≠ l := fun e => h.ul (e ▸ hb)
   have hbo : b ≠ bo := fun e => h.uo (e ▸ hb)
   rw [World.putObj_heap_other hbl, Below.heap_setCell w4 ⟨bo, 0, none⟩ v' b hbo]
   exact old b (h.lt b hb) hbl (fun e => h.uv b e hb)
end
theorem st_putD {W : World} {D : Nat} {v : Value} {L : List Rq} (h : OwnQ W D v L) {l : Nat} {r : Option (List Deferred)} (hl : W.heap[l]? = some (.deferred r)) {o : Obj} : OwnQ (W.putObj l o) D v L :=
 ⟨h.own.kept (grownBy_putObj_a W l o) (ownsRow_ne_a h.own hl (fun cur e => by cases e))⟩
theorem dn_put {w W : World} (h : Dn w W) {B : Nat} (hB : w.heap.size ≤ B) (o : Obj) : Dn w (W.putObj B o) := ⟨h.below.grown (grownBy_putObj_a _ _ _) h.size (fun k e => by cases e; exact hB)⟩
theorem fs_round (cA cB : Code) (hAB : stPick Tryz.f69.body = (cA, cB)) (fn : FuncId) (sv : Value) (n : Int) (bn bo D l : Nat) (hno : bn ≠ bo) (hbn : bn < D) (hbo : bo < D) (hDl : D < l) (w : World) (hw : w.heap.size ≤ bo) (hwD : w.heap.size ≤ D)
   (L : List Rq) (hl : L.length ≤ 100000) (R0 : LoopState → Option Code → Loop) (hR : R0 = fsRec cA cB fn sv n bn bo D)
   (k : Nat) (x : Rq) (T : Nat → Prop) (A : World) (m : Nat) (hx : L[k]? = some x) (h : FsI w R0 n bn bo D l L k T A) :
   YieldAt Fence.wide m Tryz.prog l #[rqv x] A fun e A' =>
     ((e = .returned (.bool true) ∧ FsI w R0 n bn bo D l L (k + 1) T A') ∨ (e = .returned (.bool false) ∧ FsX w R0 n bn bo D l L T A')) ∧ ∀ b, T b → A'.heap[b]? = A.heap[b]? := by
 obtain ⟨hkn, v, hs⟩ := h
 obtain ⟨hy1, hbr, hend⟩ := fs_rec hR hs.L2 (rqv x)
 clear hR
 refine ⟨fn, _, cA, cB, hy1, roundIn_of_wpIn trivial ?_⟩
 have q1 : Dn A (A.alloc (.cells #[.int .i8 x.a, .int .i64 x.b, .int .i8 x.c, .int .i64 x.d] 30)) := (Dn.refl _).alloc _
 have hb1 := hbr _ (heap_dn hs.L2 q1)
 obtain ⟨A2, hA2⟩ : ∃ A2, (A.alloc (.cells #[.int .i8 x.a, .int .i64 x.b, .int .i8 x.c, .int .i64 x.d] 30)).putObj l (.loop (R0 .busy none)) = A2 := ⟨_, rfl⟩
 rw [hA2] at hb1
 have hll := heap_lt hs.L2
 have hlo := heap_lt hs.co
 have hfe := fun (w4 : World) (v' : Value) (hown : OwnQ w4 D v' (L.take k ++ [x])) (hg : (A2.alloc (qb x)).grownBy w4 v.ownBlock) (hat : v'.ownBlock = v.ownBlock ∨ v'.ownBlock = some (A2.alloc (qb x)).heap.size) => fs_end hs hx hno hbn hbo hDl hw hwD hA2.symm hown hg hat
 have fr : Q4 A2 A.heap.size x := by rw [← hA2]; exact heap_put (World.alloc_heap_new _ _) (by omega)
 have fo : A2.heap[bo]? = some (.cells #[v] 48 (0, 0)) := by rw [← hA2]; exact heap_put (heap_dn hs.co q1) (by omega)
 have hown2 : OwnQ A2 D v (L.take k) := by rw [← hA2]; exact st_put (hs.own.dn q1) (heap_dn hs.L2 q1) _
 have hkl : k < L.length := (List.getElem?_eq_some_iff.1 hx).1
 have htl : (L.take k).length = k := by rw [List.length_take]; omega
 have hDA : D < A2.heap.size := by rw [← hA2]; have := heap_lt hs.K; simp [World.putObj]; omega
 obtain ⟨i0, hi, hz0, hz1, hz2⟩ := info_parts infoRun
 have hcell : ∀ j u, (qc x)[j]? = some u → (A2.alloc (.cells #[.int .i8 x.a, .int .i64 x.b, .int .i8 x.c, .int .i64 x.d] 30)).cell? ((⟨A2.heap.size, 0, none⟩ : Addr).add j) = some u := by
   intro j u hj
   match j, hj with
   | 0, hj => simp [qc] at hj; subst hj; simp [Addr.add]
   | 1, hj => simp [qc] at hj; subst hj; simp [Addr.add]
   | 2, hj => simp [qc] at hj; subst hj; simp [Addr.add]
   | 3, hj => simp [qc] at hj; subst hj; simp [Addr.add]
   | n + 4, hj => simp [qc] at hj
 have hone : ∀ u ∈ qc x, u.oneCell' = true := by intro u hu; simp [qc] at hu; rcases hu with rfl | rfl | rfl | rfl <;> rfl
 have HC := Lib.hid hcell
 have HO := Lib.hid hone
 have H63 := Lib.hid (show (L.take k).length + 1 ≤ maxLen by unfold maxLen; omega)
 have HBY := Lib.hid (show ((L.take k).length + 1) * 32 ≤ 140737488355328 by omega)
 have HBA := Lib.hid (show D ≤ (A2.alloc (.cells #[.int .i8 x.a, .int .i64 x.b, .int .i8 x.c, .int .i64 x.d] 30)).heap.size by simp; omega)
 have HOWN := Lib.hid hown2
 have HFE := Lib.hid hfe
 have HEND := Lib.hid hend
 have HTL := Lib.hid htl
 obtain ⟨eA, eB⟩ : cA = (stPick Tryz.f69.body).1 ∧ cB = (stPick Tryz.f69.body).2 := by rw [hAB]; exact ⟨rfl, rfl⟩
 rw [eA, eB]
 dsimp only [stPick, stOf?, Option.getD, Tryz.f69]
 obtain ⟨r0, r1, r2, r3⟩ := fr.cells
 obtain ⟨o0, -⟩ := cell_of_box_a fo
 clear hAB eA eB hcell hone hown2 hfe hend hbr hy1 q1 hA2 hs hx fr fo htl hl hkl
 gi_wp2_with gi_round_op_a
 refine ⟨A2, hb1, ?_⟩
 clear hb1
 gi_wp2_with (first
   | (gi_at_builtin; go_loud (refine wpListIn_append_own_at _ rfl _ _ 48 rfl D 30 i0 _ 4 32 Tryz.underlying48 hi hz0 hz1 hz2 rfl (by decide) _ _ _ rfl (HOWN.out.own.alloc _) ⟨A2.heap.size, 0, none⟩ 1 1 (qc x) rfl rfl HC.out HO.out H63.out HBY.out HBA.out ?_))
   | gi_round_op_a)
 intro v' w4 hown' hg hnil hat
 have hown4 : OwnQ w4 D v' (L.take k ++ [x]) := ⟨by simpa using hown'⟩
 obtain ⟨fn4, fo4, hl5, hfin⟩ := HFE.out w4 v' hown4 hg (by simpa using hat)
 obtain ⟨g', cap', rfl⟩ : ∃ g' cap', v' = .slice (some ⟨g', 0, none⟩) (k + 1) cap' := by
   rcases hown4.form with ⟨_, e⟩ | ⟨g, cap, e, _⟩
   · simp at e
   · rw [show (L.take k ++ [x]).length = k + 1 by simp [HTL.out]] at e
     exact ⟨_, _, e⟩
 have HL5 := Lib.hid hl5
 have HFIN := Lib.hid hfin
 obtain ⟨p0, pf⟩ := cell_of_box_a fo4
 obtain ⟨m0, -⟩ := cell_of_box_a fn4
 have nb : bn ≠ bo := hno
 clear r0 r1 r2 r3 o0 hown' hown4 hg hnil hat hl5 hfin fo4 fn4
 by_cases he : (k : Int) + 1 = n
 · subst he
   gi_wp2_with gi_round_op_a
   refine ⟨_, _, HEND.out _ (some (.exit 0)) HL5.out, ?_⟩
   exact ⟨.inr ⟨rfl, k + 1, rfl, _, (HFIN.out _).1⟩, (HFIN.out _).2⟩
 · have he1 : ((k : Int) + 1 == n) = false := by simpa using he
   have he2 : decide ((k : Int) + 1 = n) = false := by simpa using he
   gi_wp2_with gi_round_op_a
   refine ⟨_, _, HEND.out _ none HL5.out, ?_⟩
   exact ⟨.inl ⟨rfl, by push_cast; omega, _, (HFIN.out _).1⟩, (HFIN.out _).2⟩
set_option maxHeartbeats 8000000
set_option maxRecDepth 100000
theorem stJoined (v : Value) (L : List Rq) (w : World) (hI : I6 L) (hS : StrV v L w) : Calls Tryz.prog 70 #[v] w fun ro w' => ∃ gg lb, ro = .returned (.func (.func gg) #[] lb) ∧ StrV (.func (.func gg) #[] lb) (joinedL L) w' ∧ Dn w w' := by
 obtain ⟨g, lb, rfl, hg, hs⟩ := hS
 obtain ⟨v, hv⟩ : ∃ v : Value, v = .func (.func g) #[] lb := ⟨_, rfl⟩
 have hS : StrV v L w := ⟨g, lb, hv, hg, hs⟩
 have q : Dn w (w.alloc (.cells #[v] 58)) := (Dn.refl _).alloc _
 have hJ : StrV (.func (.func 123) #[] #[.pointer (some ⟨w.heap.size, 0, none⟩)]) (joinedL L) (w.alloc (.cells #[v] 58)) :=
  ⟨_, _, rfl, enters_joined, joined_strm w.heap.size v L _ hI (World.alloc_heap_new _ _) (hS.later q)⟩
 have HJ := Lib.hid hJ
 have HQ := Lib.hid q
 clear hJ hS hI q hs hg
 subst hv
 go_enter Tryz.func70, Tryz.ntmps70
 go_wp2_with fail
 go_ret
 exact ⟨_, _, rfl, HJ.out, HQ.out⟩
theorem stClip (p : Option Addr) (cap : Nat) (M : List Rq) (w : World) (hcap : M.length ≤ cap) (hmx : cap ≤ 9223372036854775807) :
  Calls Tryz.prog 122 #[.slice p M.length cap] w fun ro w' => ro = .returned (.slice p M.length M.length) ∧ Dn w w' := by
 have hcI : (M.length : Int) ≤ cap := by omega
 go_enter Tryz.func122, Tryz.ntmps122
 go_wp2_with fail
 go_ret
 exact ⟨rfl, Dn.refl _⟩
theorem own_cap {w : World} {base : Nat} {v : Value} {L : List Rq} (h : OwnQ w base v L) : ∃ p cap, v = .slice p L.length cap ∧ L.length ≤ cap ∧ cap ≤ 9223372036854775807 := by
 rcases h.form with ⟨rfl, rfl⟩ | ⟨g, cap, rfl, _, h1, h2, _⟩
 · exact ⟨_, _, rfl, Nat.le_refl _, by omega⟩
 · exact ⟨_, _, rfl, h1, Nat.le_trans h2 max_len⟩
theorem own_row' {W : World} {D n cap : Nat} {p : Option Addr} {L : List Rq} (h : OwnQ W D (.slice p n cap) L) : Row W p L := by
 obtain ⟨p', cap', e, _, hr⟩ := h.rowOf
 cases e; exact hr
theorem stFirst (v : Value) (L : List Rq) (n : Int) (w : World) (hl : L.length ≤ 100000) (hn : 1 ≤ n) (hS : StrV v L w) :
   Calls Tryz.prog 69 #[v, .int .i64 n] w fun ro w' => ∃ p, ro = .returned (.slice p (L.take n.toNat).length (L.take n.toNat).length) ∧ Row w' p (L.take n.toNat) ∧ Dn w w' := by
 obtain ⟨g, lb, rfl, hg, hSG⟩ := hS
 obtain ⟨cA, cB, hAB⟩ : ∃ cA cB, stPick Tryz.f69.body = (cA, cB) := ⟨_, _, rfl⟩
 have FG := Tryz.func69
 have t1 : decide (n < 1) = false := by simp; omega
 refine (callsIn_wide (n := 5)).1 ?_
 refine callsIn_of_wp_marks FG rfl trivial ?_ rfl
 simp only [Tryz.ntmps69, List.size_toArray, List.length_cons, List.length_nil, Nat.reduceAdd, Nat.reduceSub, Array.replicate_succ, Array.replicate_zero, List.push_toArray, List.append_toArray, List.nil_append, List.cons_append]
 have HSG := Lib.hid hSG
 clear hSG
 gi_wp2_with (refine ⟨trivial, ?_⟩; gi_at_call 121; refine (callsIn_wide.2 (slSeq _ _ _)).mono ?_; rintro e w' ⟨rfl, rfl⟩)
 refine wpIn_rangeFunc ?_
 intro fn hfn
 obtain ⟨V1, hV1⟩ : ∃ V1, w.alloc (.cells #[.int .i64 n] 3) = V1 := ⟨_, rfl⟩
 have s1 : V1.heap.size = w.heap.size + 1 := by rw [← hV1]; simp
 obtain ⟨V2, hV2⟩ : ∃ V2, V1.alloc (.cells #[.slice none 0 0] 48) = V2 := ⟨_, rfl⟩
 have s2 : V2.heap.size = w.heap.size + 2 := by rw [← hV2]; simp [s1]
 obtain ⟨V3, hV3⟩ : ∃ V3, V2.alloc (.deferred (some [])) = V3 := ⟨_, rfl⟩
 have s3 : V3.heap.size = w.heap.size + 3 := by rw [← hV3]; simp [s2]
 rw [hV1, hV2]
 obtain ⟨R0, hR⟩ : ∃ R0, R0 = fsRec cA cB fn (.func (.func g) #[] lb) n w.heap.size (w.heap.size + 1) V2.heap.size := ⟨_, rfl⟩
 obtain ⟨V4, hV4⟩ : ∃ V4, V3.alloc (.loop (R0 .ready none)) = V4 := ⟨_, rfl⟩
 have q1 : Dn w V1 := by rw [← hV1]; exact (Dn.refl _).alloc _
 have q2 : Dn V1 V2 := by rw [← hV2]; exact (Dn.refl _).alloc _
 have q3 : Dn V2 V3 := by rw [← hV3]; exact (Dn.refl _).alloc _
 have q4 : Dn V3 V4 := by rw [← hV4]; exact (Dn.refl _).alloc _
 have hI0 : FsI w R0 n w.heap.size (w.heap.size + 1) V2.heap.size V3.heap.size L 0 (fun _ => False) V4 :=
   ⟨by omega, .slice none 0 0, ((q1.trans q2).trans q3).trans q4, fun _ h => h.elim, fun _ h => h.elim, id, id, id, id, fun _ _ h => h,
    heap_dn (by rw [← hV1]; exact World.alloc_heap_new _ _) ((q2.trans q3).trans q4), by rw [← s1]; exact heap_dn (by rw [← hV2]; exact World.alloc_heap_new _ _) (q3.trans q4), OwnQ.nil _ _,
    by rw [← hV4]; exact World.alloc_heap_new _ _, heap_dn (by rw [← hV3]; exact World.alloc_heap_new _ _) q4, Nat.zero_le _⟩
 have hgo := HSG.out 4 V3.heap.size (FsI w R0 n w.heap.size (w.heap.size + 1) V2.heap.size V3.heap.size L) (FsX w R0 n w.heap.size (w.heap.size + 1) V2.heap.size V3.heap.size L) V4 fs_ok
   (fun k x T A m hx h => fs_round cA cB hAB fn (.func (.func g) #[] lb) n w.heap.size (w.heap.size + 1) V2.heap.size V3.heap.size (by omega) (by omega) (by omega) (by omega) w (by omega) (by omega) L hl R0 hR k x T A m hx h) hI0
 have h5 : V4 = (V2.alloc (.deferred (some []))).alloc (.loop (R0 .ready none)) := by rw [hV3, hV4]
 clear hI0 hV1 hV2 q1 q2 q3 q4
 refine ⟨V3.heap.size, [{ target := .collected V2.heap.size, args := #[] }], V4, { target := .fn (.func g) lb, args := #[.func (.yield V3.heap.size) #[] #[]] }, V4, g,
   #[.func (.yield V3.heap.size) #[] #[]] ++ lb, V4, ?_, ?_, ?_, ?_, fun _ => by decide, ?_⟩
 · have hA : cA = (stPick Tryz.f69.body).1 := by rw [hAB]
   have hBB : cB = (stPick Tryz.f69.body).2 := by rw [hAB]
   rw [h5, show V3.heap.size = V2.heap.size + 1 by omega, hR, hA, hBB]; exact run_enterLoop_outer _ _ _ _ _
 · simp [resolve, go_sem]
 · intro f' _; trivial
 · simp [invoke, go_sem, hg]
 · refine hgo.mono ?_
   clear hgo h5 hV3 hV4
   rintro e W2 ⟨⟨v0, rfl⟩, hh⟩
   obtain ⟨jump, k, T, v, st, hst, hk, hpe, hjump⟩ : ∃ (jump : Option Code) (k : Nat) (T : Nat → Prop) (v : Value) (st : LoopState), (FsS w (R0 st jump) n w.heap.size (w.heap.size + 1) V2.heap.size V3.heap.size L k T W2 v) ∧ L.take n.toNat = L.take k ∧ st ≠ .busy ∧ (jump = none ∨ jump = some (.exit 0)) := by
    rcases hh with ⟨T, hk, v, h⟩ | ⟨T, k, hk, v, h⟩
    · exact ⟨none, _, T, v, .ready, h, by rw [List.take_length, List.take_of_length_le (by omega)], by simp, .inl rfl⟩
    · exact ⟨some (.exit 0), k, T, v, .done, h, by rw [show n.toNat = k by omega], by simp, .inr rfl⟩
   have hend := run_endLoop (P := Tryz.prog) hst.L2 (by rw [hR]; simpa [fsRec] using hpe)
   have hpn : (R0 st jump).pending = jump := by rw [hR]; rfl
   obtain ⟨W3, hW3⟩ : ∃ W3, W2.putObj V3.heap.size (.loop { R0 st jump with state := .exhausted }) = W3 := ⟨_, rfl⟩
   rw [hW3] at hend
   replace hend : (Instr.endLoop V3.heap.size).run Tryz.prog W2 = .ok jump W3 := by rw [← hpn]; exact hend
   have co : W3.heap[w.heap.size + 1]? = some (.cells #[v] 48 (0, 0)) := by rw [← hW3]; exact heap_put hst.co (by omega)
   have cK : W3.heap[w.heap.size + 2]? = some (.deferred (some [])) := by rw [← hW3, ← s2]; exact heap_put hst.K (by omega)
   have hown : OwnQ W3 V2.heap.size v (L.take k) := by rw [← hW3]; exact st_put hst.own hst.L2 _
   have hdn : Dn w W3 := by rw [← hW3]; exact dn_put hst.dn (by omega) _
   obtain ⟨M, hM⟩ : ∃ M, L.take k = M := ⟨_, rfl⟩
   rw [hM] at hown hk
   obtain ⟨p, cap, rfl, hc1, hc2⟩ := own_cap hown
   obtain ⟨o0, -⟩ := cell_of_box_a co
   have HOWN := Lib.hid hown
   have HCK := Lib.hid cK
   have HK := Lib.hid hk
   clear hW3 hst co cK hown hpn hk hh hpe
   refine ⟨jump, W3, hend, ?_⟩
   clear hend
   rcases hjump with rfl | rfl
   all_goals
    gi_wp2_with (refine ⟨trivial, ?_⟩; gi_at_call 122; refine (callsIn_wide.2 (stClip p cap M _ hc1 hc2)).mono ?_)
    rintro e w6 ⟨rfl, q6⟩
    gi_wp2_with fail
    have hK6 := heap_dn HCK.out q6
    have hown6 := st_putD (HOWN.out.dn q6) hK6 (o := .deferred none)
    refine ⟨by simp, .inl ⟨_, _, rfl, run_takeDeferred hK6, ?_⟩⟩
    exact ⟨_, results_tmp rfl _ _ _, p, by rw [HK.out]; rfl, by rw [HK.out]; exact own_row' hown6, dn_put (hdn.trans q6) (by omega) _⟩
open Go.RowKit
def Pa : Int → List Rq → Int → Prop
 | a, [], e => a = e
 | a, x :: t, e => x.a = 0 ∧ x.c = 0 ∧ x.b = a ∧ a ≤ x.d ∧ Pa (x.d + 1) t e
theorem pa_le : ∀ {L : List Rq} {a e : Int}, Pa a L e → a ≤ e
 | [], a, e, h => by unfold Pa at h; omega
 | x :: t, a, e, h => by obtain ⟨_, _, h1, h2, h3⟩ := h; have := pa_le h3; omega
theorem pa_snoc : ∀ {L : List Rq} {a e d : Int}, Pa a L e → e ≤ d → Pa a (L ++ [⟨0, e, 0, d⟩]) (d + 1)
 | [], a, e, d, h, hd => by unfold Pa at h; subst h; exact ⟨rfl, rfl, rfl, hd, rfl⟩
 | x :: t, a, e, d, h, hd => ⟨h.1, h.2.1, h.2.2.1, h.2.2.2.1, pa_snoc h.2.2.2.2 hd⟩
theorem pa_ok : ∀ {L : List Rq} {a e : Int}, Pa a L e → -4000000000000000000 ≤ a → e ≤ 4000000000000000000 → ∀ x ∈ L, x.ok ∧ x.a = 0 ∧ x.c = 0 ∧ a ≤ x.b ∧ x.b ≤ x.d ∧ x.d < e
 | [], a, e, h, _, _, x, hx => by cases hx
 | y :: t, a, e, h, h1, h2, x, hx => by
   obtain ⟨k1, k2, k3, k4, k5⟩ := h
   have hle := pa_le k5
   rcases List.mem_cons.1 hx with rfl | hx
   · refine ⟨⟨⟨by omega, by omega⟩, ⟨by omega, by omega⟩, .inl k1, .inl k2, by omega, by omega, ?_⟩, k1, k2, by omega, by omega, by omega⟩
     unfold key; omega
   · have := pa_ok k5 (by omega) h2 x hx
     exact ⟨this.1, this.2.1, this.2.2.1, by omega, this.2.2.2.2.1, this.2.2.2.2.2⟩
theorem pa_mem : ∀ {L : List Rq} {a e k : Int}, Pa a L e → (Mem k L ↔ a ≤ k ∧ k < e)
 | [], a, e, k, h => by
   unfold Pa at h
   exact ⟨fun x => absurd x mem_nil, fun x => by omega⟩
 | y :: t, a, e, k, h => by
   obtain ⟨k1, k2, k3, k4, k5⟩ := h
   have hle := pa_le k5
   rw [mem_cons, pa_mem k5]
   have e1 : y.lo = y.b := by unfold Rq.lo key; omega
   have e2 : y.hi = y.d := by unfold Rq.hi key; omega
   rw [e1, e2]
   omega
theorem pa_asc : ∀ {L : List Rq} {a e : Int}, Pa a L e → -4000000000000000000 ≤ a → e ≤ 4000000000000000000 → Asc L
 | [], _, _, _, _, _ => trivial
 | y :: t, a, e, h, h1, h2 => by
   have hok := pa_ok h h1 h2
   obtain ⟨k1, k2, k3, k4, k5⟩ := h
   refine ⟨(hok y List.mem_cons_self).1, fun z hz => ?_, pa_asc k5 (by omega) h2⟩
   have := pa_ok k5 (by omega) h2 z hz
   unfold Rq.lo key
   omega
def one (a b : Int) : List Rq := [⟨0, a, 0, b⟩]
theorem one_sep {a b : Int} (h : a ≤ b) (h1 : -4000000000000000000 ≤ a) (h2 : b ≤ 4000000000000000000) : Sep (one a b) := by
 refine ⟨⟨⟨by show _ ≤ a; omega, by show a ≤ _; omega⟩, ⟨by show _ ≤ b; omega, by show b ≤ _; omega⟩, .inl rfl, .inl rfl, Int.le_refl _, Int.le_refl _, ?_⟩, (fun y hy => nomatch hy), trivial⟩
 show key 0 a ≤ key 0 b
 unfold key; omega
theorem one_mem {a b k : Int} : Mem k (one a b) ↔ a ≤ k ∧ k ≤ b := by
 unfold one
 rw [mem_cons]
 have e1 : (⟨0, a, 0, b⟩ : Rq).lo = a := by unfold Rq.lo key; simp
 have e2 : (⟨0, a, 0, b⟩ : Rq).hi = b := by unfold Rq.hi key; simp
 rw [e1, e2]
 exact ⟨fun h => h.elim id (fun h => absurd h mem_nil), .inl⟩
theorem errL_ok : ∀ {L : List Rq}, (∀ x ∈ L, x.ok) → errL L = 0
 | [], _ => rfl
 | x :: t, h => by
   have o1 := h x List.mem_cons_self
   unfold errL
   rw [if_neg (fun hn => hn ((rnErr_ok o1.1 o1.2.1).2 o1.2.2)), errL_ok (fun y hy => h y (List.mem_cons_of_mem _ hy))]
theorem pa_one {L : List Rq} {a b : Int} (h : Pa a L (b + 1)) (hab : a ≤ b) (h1 : -4000000000000000000 ≤ a) (h2 : b < 4000000000000000000) : joinedL L = one a b ∧ joinedL (srt L) = one a b ∧ ofE L = if 4096 < L.length then 3 else 0 := by
 have hok := pa_ok h h1 (by omega)
 obtain ⟨s1, m1⟩ := joined_law (pa_asc h h1 (by omega))
 obtain ⟨s2, m2⟩ := joined_law (srt_asc (fun x hx => (hok x hx).1))
 have ms : ∀ k, Mem k (srt L) ↔ Mem k L := fun k => ⟨fun ⟨x, hx, hk⟩ => ⟨x, (srt_mem L x).1 hx, hk⟩, fun ⟨x, hx, hk⟩ => ⟨x, (srt_mem L x).2 hx, hk⟩⟩
 have so := one_sep hab h1 (by omega)
 refine ⟨sep_ext s1 so fun k _ => ?_, sep_ext s2 so fun k _ => ?_, ?_⟩
 · rw [m1, pa_mem h, one_mem]; omega
 · rw [m2, ms, pa_mem h, one_mem]; omega
 · unfold ofE
   rw [errL_ok (fun x hx => (hok x hx).1)]
def sumR : List Rq → Int
 | [] => 0
 | x :: t => (x.d - x.b + 1) + sumR t
theorem pa_sum : ∀ {L : List Rq} {a e : Int}, Pa a L e → sumR L = e - a
 | [], a, e, h => by unfold Pa at h; unfold sumR; omega
 | y :: t, a, e, h => by
   obtain ⟨k1, k2, k3, k4, k5⟩ := h
   unfold sumR
   rw [pa_sum k5]
   omega
theorem sumR_take {L : List Rq} {k : Nat} {x : Rq} (h : L[k]? = some x) : sumR (L.take (k + 1)) = sumR (L.take k) + (x.d - x.b + 1) := by
 have e : ∀ (A B : List Rq), sumR (A ++ B) = sumR A + sumR B := fun A B => by
  induction A with
  | nil => simp [sumR]
  | cons y t ih => simp only [List.cons_append, sumR, ih]; omega
 rw [List.take_add_one, h, e]
 simp [sumR]
theorem pa_take : ∀ {L : List Rq} {a e : Int} (k : Nat), Pa a L e → ∃ f, Pa a (L.take k) f ∧ f ≤ e
 | L, a, e, 0, h => ⟨a, rfl, pa_le h⟩
 | [], a, e, k + 1, h => ⟨a, rfl, by unfold Pa at h; omega⟩
 | y :: t, a, e, k + 1, h => by
   obtain ⟨f, h1, h2⟩ := pa_take k h.2.2.2.2
   exact ⟨f, ⟨h.1, h.2.1, h.2.2.1, h.2.2.2.1, h1⟩, h2⟩
def monL (y : Int) : Nat → List Rq
 | 0 => []
 | k + 1 => monL y k ++ [⟨0, Cal.sm y ((k : Int) + 1), 0, Cal.sm y ((k : Int) + 1 + 1) - 1⟩]
theorem monL_len (y : Int) (k : Nat) : (monL y k).length = k := by
 induction k with
 | zero => rfl
 | succ k ih => simp [monL, ih]
theorem monL_pa (y : Int) (k : Nat) (hk : k ≤ 12) : Pa (Cal.sy y) (monL y k) (Cal.sm y ((k : Int) + 1)) := by
 induction k with
 | zero => show Cal.sy y = Cal.sm y 1; rw [sm_one]
 | succ k ih =>
   have h := ih (by omega)
   have hm := sm_succ y ((k : Int) + 1) (by omega) (by omega)
   have hb := Cal.mlen_bd y ((k : Int) + 1)
   have := pa_snoc (d := Cal.sm y ((k : Int) + 1 + 1) - 1) h (by omega)
   rw [show Cal.sm y ((k : Int) + 1 + 1) - 1 + 1 = Cal.sm y (((k + 1 : Nat) : Int) + 1) by push_cast; omega] at this
   exact this
def upd {α : Type} (f : Nat → α) (j : Nat) (v : α) : Nat → α := fun i => if i = j then v else f i
theorem upd_same {α : Type} (f : Nat → α) (j : Nat) (v : α) : upd f j v j = v := if_pos rfl
theorem upd_ne {α : Type} (f : Nat → α) {j i : Nat} (v : α) (h : i ≠ j) : upd f j v i = f i := if_neg h
def atC (c : Int) : Nat := if 39 < c then 3 else if 36 < c then 2 else 1
def runC (y c : Int) : Rq := ⟨0, sLo y c, 0, sHi y c⟩
def partsL (y : Int) : Nat → Nat → List Rq
 | 0 => fun j => if j = 0 then monL y 12 else []
 | k + 1 => upd (partsL y k) (atC (33 + (k : Int))) (partsL y k (atC (33 + (k : Int))) ++ [runC y (33 + (k : Int))])
theorem sec_run (y c : Int) (h : 33 ≤ c) (hc : c ≤ 41) : runC y c = ⟨0, Cal.sm y (fromS c), 0, Cal.sm y (fromS c + manyS c) - 1⟩ := by
 obtain ⟨b1, b2, b3⟩ := big_code c h hc
 unfold runC
 rw [sHi_eq]
 have e : mS (lastS y c + 1) = Cal.sm y (fromS c + manyS c) := by
  unfold mS lastS mi
  by_cases h13 : fromS c + manyS c = 13
  · rw [h13, sm_13, ← sm_one]
    rw [show (12 * y + (fromS c - 1) + (manyS c - 1) + 1) / 12 = y + 1 by omega, show (12 * y + (fromS c - 1) + (manyS c - 1) + 1) % 12 + 1 = 1 by omega]
  · rw [show (12 * y + (fromS c - 1) + (manyS c - 1) + 1) / 12 = y by omega, show (12 * y + (fromS c - 1) + (manyS c - 1) + 1) % 12 + 1 = fromS c + manyS c by omega]
 rw [e]
 rfl
theorem parts_all (y : Int) (j : Nat) (hj : j < 4) : Pa (Cal.sy y) (partsL y 9 j) (Cal.sy (y + 1)) ∧ 0 < (partsL y 9 j).length ∧ (partsL y 9 j).length ≤ 12 := by
 have m (a b : Int) (h1 : 1 ≤ a) (h2 : a < b) (h3 : b ≤ 13) : Cal.sm y a < Cal.sm y b := by
   have := Cal.cum_lt y a b h1 h2 h3
   unfold Cal.sm; omega
 have e33 := sec_run y 33 (by decide) (by decide)
 have e34 := sec_run y 34 (by decide) (by decide)
 have e35 := sec_run y 35 (by decide) (by decide)
 have e36 := sec_run y 36 (by decide) (by decide)
 have e37 := sec_run y 37 (by decide) (by decide)
 have e38 := sec_run y 38 (by decide) (by decide)
 have e39 := sec_run y 39 (by decide) (by decide)
 have e40 := sec_run y 40 (by decide) (by decide)
 have e41 := sec_run y 41 (by decide) (by decide)
 simp only [show fromS 33 = 1 by decide, show manyS 33 = 3 by decide, show fromS 34 = 4 by decide, show manyS 34 = 3 by decide, show fromS 35 = 7 by decide, show manyS 35 = 3 by decide, show fromS 36 = 10 by decide, show manyS 36 = 3 by decide, show fromS 37 = 1 by decide, show manyS 37 = 4 by decide, show fromS 38 = 5 by decide, show manyS 38 = 4 by decide, show fromS 39 = 9 by decide, show manyS 39 = 4 by decide, show fromS 40 = 1 by decide, show manyS 40 = 6 by decide, show fromS 41 = 7 by decide, show manyS 41 = 6 by decide] at e33 e34 e35 e36 e37 e38 e39 e40 e41
 have m13 := sm_13 y
 have m1 := sm_one y
 rcases (show j = 0 ∨ j = 1 ∨ j = 2 ∨ j = 3 by omega) with rfl | rfl | rfl | rfl
 · have e : partsL y 9 0 = monL y 12 := by simp [partsL, upd, atC]
   rw [e, monL_len]
   have := monL_pa y 12 (by decide)
   rw [show ((12 : Nat) : Int) + 1 = 13 by decide, m13] at this
   exact ⟨this, by decide, by decide⟩
 · have e : partsL y 9 1 = [runC y 33, runC y 34, runC y 35, runC y 36] := by simp [partsL, upd, atC]
   rw [e, e33, e34, e35, e36]
   have a1 := m 1 4 (by decide) (by decide) (by decide); have a2 := m 4 7 (by decide) (by decide) (by decide); have a3 := m 7 10 (by decide) (by decide) (by decide); have a4 := m 10 13 (by decide) (by decide) (by decide)
   refine ⟨⟨rfl, rfl, m1, ?_, rfl, rfl, ?_, ?_, rfl, rfl, ?_, ?_, rfl, rfl, ?_, ?_, ?_⟩, by simp, by simp⟩ <;> simp only [Int.reduceAdd] <;> first | omega | (show _ = _; omega)
 · have e : partsL y 9 2 = [runC y 37, runC y 38, runC y 39] := by simp [partsL, upd, atC]
   rw [e, e37, e38, e39]
   have a1 := m 1 5 (by decide) (by decide) (by decide); have a2 := m 5 9 (by decide) (by decide) (by decide); have a3 := m 9 13 (by decide) (by decide) (by decide)
   refine ⟨⟨rfl, rfl, m1, ?_, rfl, rfl, ?_, ?_, rfl, rfl, ?_, ?_, ?_⟩, by simp, by simp⟩ <;> simp only [Int.reduceAdd] <;> first | omega | (show _ = _; omega)
 · have e : partsL y 9 3 = [runC y 40, runC y 41] := by simp [partsL, upd, atC]
   rw [e, e40, e41]
   have a1 := m 1 7 (by decide) (by decide) (by decide); have a2 := m 7 13 (by decide) (by decide) (by decide)
   refine ⟨⟨rfl, rfl, m1, ?_, rfl, rfl, ?_, ?_, ?_⟩, by simp, by simp⟩ <;> simp only [Int.reduceAdd] <;> first | omega | (show _ = _; omega)
theorem parts_len (y : Int) (k j : Nat) : (partsL y k j).length ≤ 12 + k := by
 induction k generalizing j with
 | zero =>
   unfold partsL
   by_cases h : j = 0
   · simp [h, monL_len]
   · simp [h]
 | succ k ih =>
   have := ih (atC (33 + (k : Int))); have h2 := ih j
   have e : partsL y (k + 1) j = if j = atC (33 + (k : Int)) then partsL y k (atC (33 + (k : Int))) ++ [runC y (33 + (k : Int))] else partsL y k j := rfl
   rw [e]
   split
   · simp; omega
   · omega
set_option maxHeartbeats 4000000
set_option maxRecDepth 100000
open Go.RowKit
structure EnvP (w : World) : Prop where
 i : EnvI w
 s : EnvS w
 ml : ∃ n, w.cell? ⟨5, 0, none⟩ = some (.int .i64 n)
theorem EnvP.dn {w w' : World} (h : EnvP w) (k : Dn w w') : EnvP w' := ⟨h.i.dn k, h.s.below k.below, h.ml.elim fun n e => ⟨n, k.cell e⟩⟩
theorem EnvP.c {w : World} (h : EnvP w) : EnvC w := ⟨h.i, h.s.mo, h.ml⟩
theorem EnvP.r {w : World} (h : EnvP w) : EnvR w := ⟨h.i, h.ml⟩
theorem EnvP.st {w : World} (h : EnvP w) : Steps w := h.s.mo.st
theorem tDay (w : World) (hE : EnvP w) : Calls Tryz.prog 42 #[.agg #[.int .i64 2000, .int .i64 2, .int .i64 29]] w fun ro w' => ro = .returned (.tuple #[.int .i64 730544, .int .i64 0]) ∧ Dn w w' := by
 have h := cvDay_ok 2000 2 29 (by decide +kernel) w hE.c
 rw [show Cal.sm 2000 2 + 29 - 1 = 730544 by decide +kernel] at h
 exact h
theorem tSeason (w : World) (hE : EnvP w) : Calls Tryz.prog 22 #[.int .i64 2000, .int .i64 21] w fun ro w' => ro = .returned (.tuple #[.agg #[.int .i8 0, .int .i64 730545, .int .i8 0, .int .i64 730636], .int .i64 0]) ∧ Dn w w' := by
 have h := srun_yes 2000 21 w (by decide) (by decide +kernel) hE.s
 rw [show sLo 2000 21 = 730545 by decide +kernel, show sHi 2000 21 = 730636 by decide +kernel] at h
 exact h.mono fun e w' q => ⟨q.1, q.2.dn⟩
theorem tYear (y lo hi : Int) (w : World) (h1 : Cal.sy y = lo) (h2 : Cal.sy (y + 1) - 1 = hi) (hy : IsY y) (hE : EnvP w) :
  Calls Tryz.prog 17 #[.int .i64 y] w fun ro w' => ro = .returned (.tuple #[.agg #[.int .i8 0, .int .i64 lo, .int .i8 0, .int .i64 hi], .bool true]) ∧ Dn w w' := by
 have HO := Lib.hid (show ¬ hi < lo by have := Cal.sy_lt y (y + 1) (by omega); omega)
 have HS := Lib.hid (fun w (hE : Steps w) => ystart_yes y w hy hE)
 have HT := Lib.hid (fun w (hE : Steps w) => yend_yes y w hy hE)
 rw [h1] at HS
 rw [h2] at HT
 clear hy h1 h2
 go_enter Tryz.func17, Tryz.ntmps17
 go_wp2_with fail
 refine (HS.out _ (hE.dn ((Dn.refl _).alloc _)).st).mono ?_
 rintro e w1 ⟨rfl, q1⟩
 have u1 : Dn w w1 := ((Dn.refl w).alloc _).up q1
 have hl : w.heap.size < w1.heap.size := by have := q1.dn.size; simp at this; omega
 have c0 := q1.dn.cell (show (w.alloc (.cells #[.int .i8 0, .int .i64 0, .int .i8 0, .int .i64 0] 30)).cell? ⟨w.heap.size, 0, none⟩ = some (.int .i8 0) by simp [go_sem])
 have c1 := q1.dn.cell (show (w.alloc (.cells #[.int .i8 0, .int .i64 0, .int .i8 0, .int .i64 0] 30)).cell? ⟨w.heap.size, 1, none⟩ = some (.int .i64 0) by simp [go_sem])
 have c2 := q1.dn.cell (show (w.alloc (.cells #[.int .i8 0, .int .i64 0, .int .i8 0, .int .i64 0] 30)).cell? ⟨w.heap.size, 2, none⟩ = some (.int .i8 0) by simp [go_sem])
 have c3 := q1.dn.cell (show (w.alloc (.cells #[.int .i8 0, .int .i64 0, .int .i8 0, .int .i64 0] 30)).cell? ⟨w.heap.size, 3, none⟩ = some (.int .i64 0) by simp [go_sem])
 have f0 : ∀ k, w1.frozen? ⟨w.heap.size, k, none⟩ = false := fun k => by rw [q1.dn.frozen (by simp)]; simp [go_sem]
 clear q1
 go_wp2_with fail
 refine (HT.out _ (hE.dn u1).st).mono ?_
 rintro e w2 ⟨rfl, q2⟩
 have u2 := u1.up q2
 replace c0 := q2.dn.cell c0
 replace c1 := q2.dn.cell c1
 replace c2 := q2.dn.cell c2
 replace c3 := q2.dn.cell c3
 have f1 : ∀ k, w2.frozen? ⟨w.heap.size, k, none⟩ = false := fun k => by rw [q2.dn.frozen hl]; exact f0 k
 replace hl : w.heap.size < w2.heap.size := Nat.lt_of_lt_of_le hl q2.dn.size
 clear f0 q2 u1
 go_wp2_with fail
 refine (rnOf_yes lo hi (Int.not_lt.2 HO.out) _).mono ?_
 rintro e w3 ⟨rfl, q3⟩
 have u3 := u2.trans q3
 replace c0 := q3.cell c0
 replace c1 := q3.cell c1
 replace c2 := q3.cell c2
 replace c3 := q3.cell c3
 have z0 : w3.frozen? ⟨w.heap.size, 0, none⟩ = false := by rw [q3.frozen hl]; exact f1 0
 have z1 : w3.frozen? ⟨w.heap.size, 1, none⟩ = false := by rw [q3.frozen hl]; exact f1 1
 have z2 : w3.frozen? ⟨w.heap.size, 2, none⟩ = false := by rw [q3.frozen hl]; exact f1 2
 have z3 : w3.frozen? ⟨w.heap.size, 3, none⟩ = false := by rw [q3.frozen hl]; exact f1 3
 replace hl : w.heap.size < w3.heap.size := Nat.lt_of_lt_of_le hl q3.size
 clear f1 q3 u2
 go_wp2_with fail
 exact bodyPost_ret (v := .tuple #[.agg #[.int .i8 0, .int .i64 lo, .int .i8 0, .int .i64 hi], .bool true]) (by simp [results, Tryz.results17, go_sem, runV, c0, c1, c2, c3, hl, Nat.ne_of_lt hl, Nat.ne_of_gt hl] <;> omega) rfl ⟨rfl, ((((u3.setCell (Nat.le_refl _) _).setCell (Nat.le_refl _) _).setCell (Nat.le_refl _) _).setCell (Nat.le_refl _) _).alloc _⟩
theorem dn_eq {a b : World} (h : a = b) : Dn a b := by subst h; exact Dn.refl _
theorem tYear_no (y : Int) (w : World) (hy : ¬ IsY y) :
  Calls Tryz.prog 17 #[.int .i64 y] w fun ro w' => ro = .returned (.tuple #[.agg #[.int .i8 0, .int .i64 0, .int .i8 0, .int .i64 0], .bool false]) ∧ Dn w w' := by
 have HO := Lib.hid (show ¬ (0 : Int) < 0 by decide)
 have HS := Lib.hid (fun w => ystart_no y w hy)
 have HT := Lib.hid (fun w => yend_no y w hy)
 clear hy
 go_enter Tryz.func17, Tryz.ntmps17
 go_wp2_with fail
 refine (HS.out _).mono ?_
 rintro e w1 ⟨rfl, q1⟩
 have Q1 := dn_eq q1
 have u1 : Dn w w1 := ((Dn.refl w).alloc _).trans Q1
 have hl : w.heap.size < w1.heap.size := by have := Q1.size; simp at this; omega
 have c0 := Q1.cell (show (w.alloc (.cells #[.int .i8 0, .int .i64 0, .int .i8 0, .int .i64 0] 30)).cell? ⟨w.heap.size, 0, none⟩ = some (.int .i8 0) by simp [go_sem])
 have c1 := Q1.cell (show (w.alloc (.cells #[.int .i8 0, .int .i64 0, .int .i8 0, .int .i64 0] 30)).cell? ⟨w.heap.size, 1, none⟩ = some (.int .i64 0) by simp [go_sem])
 have c2 := Q1.cell (show (w.alloc (.cells #[.int .i8 0, .int .i64 0, .int .i8 0, .int .i64 0] 30)).cell? ⟨w.heap.size, 2, none⟩ = some (.int .i8 0) by simp [go_sem])
 have c3 := Q1.cell (show (w.alloc (.cells #[.int .i8 0, .int .i64 0, .int .i8 0, .int .i64 0] 30)).cell? ⟨w.heap.size, 3, none⟩ = some (.int .i64 0) by simp [go_sem])
 have f0 : ∀ k, w1.frozen? ⟨w.heap.size, k, none⟩ = false := fun k => by rw [Q1.frozen (by simp)]; simp [go_sem]
 clear q1 Q1
 go_wp2_with fail
 refine (HT.out _).mono ?_
 rintro e w2 ⟨rfl, q2⟩
 have Q2 := dn_eq q2
 have u2 := u1.trans Q2
 replace c0 := Q2.cell c0
 replace c1 := Q2.cell c1
 replace c2 := Q2.cell c2
 replace c3 := Q2.cell c3
 have f1 : ∀ k, w2.frozen? ⟨w.heap.size, k, none⟩ = false := fun k => by rw [Q2.frozen hl]; exact f0 k
 replace hl : w.heap.size < w2.heap.size := Nat.lt_of_lt_of_le hl Q2.size
 clear f0 q2 Q2 u1
 go_wp2_with fail
 refine (rnOf_yes 0 0 (Int.not_lt.2 HO.out) _).mono ?_
 rintro e w3 ⟨rfl, q3⟩
 have u3 := u2.trans q3
 replace c0 := q3.cell c0
 replace c1 := q3.cell c1
 replace c2 := q3.cell c2
 replace c3 := q3.cell c3
 have z0 : w3.frozen? ⟨w.heap.size, 0, none⟩ = false := by rw [q3.frozen hl]; exact f1 0
 have z1 : w3.frozen? ⟨w.heap.size, 1, none⟩ = false := by rw [q3.frozen hl]; exact f1 1
 have z2 : w3.frozen? ⟨w.heap.size, 2, none⟩ = false := by rw [q3.frozen hl]; exact f1 2
 have z3 : w3.frozen? ⟨w.heap.size, 3, none⟩ = false := by rw [q3.frozen hl]; exact f1 3
 replace hl : w.heap.size < w3.heap.size := Nat.lt_of_lt_of_le hl q3.size
 clear f1 q3 u2
 go_wp2_with fail
 exact bodyPost_ret (v := .tuple #[.agg #[.int .i8 0, .int .i64 0, .int .i8 0, .int .i64 0], .bool false]) (by simp [results, Tryz.results17, go_sem, runV, c0, c1, c2, c3, hl, Nat.ne_of_lt hl, Nat.ne_of_gt hl] <;> omega) rfl ⟨rfl, ((((u3.setCell (Nat.le_refl _) _).setCell (Nat.le_refl _) _).setCell (Nat.le_refl _) _).setCell (Nat.le_refl _) _).alloc _⟩
end Go.Proofs.YteodjglbpfmikaaGreatDoor
