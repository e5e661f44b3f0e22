/- Walks and laws that the claim's theorem leans on: part 25. -/
import Derived.Test.YtoghoddjkdoohaaGreatDoorZOn1
import Derived.Test.YtoghoddjkdoohaaGreatDoorZOn10
import Derived.Test.YtoghoddjkdoohaaGreatDoorZOn14
import Derived.Test.YtoghoddjkdoohaaGreatDoorZOn17
import Derived.Test.YtoghoddjkdoohaaGreatDoorZOn18
import Derived.Test.YtoghoddjkdoohaaGreatDoorZOn20
import Derived.Test.YtoghoddjkdoohaaGreatDoorZOn22
import Derived.Test.YtoghoddjkdoohaaGreatDoorZOn23
import Derived.Test.YtoghoddjkdoohaaGreatDoorZOn24
namespace Go.Proofs.YtoghoddjkdoohaaGreatDoor
set_option maxHeartbeats 4000000
set_option maxRecDepth 100000
open Go.RowKit
set_option linter.unusedVariables false
set_option linter.unusedSimpArgs false
instance decI6 (L : List Rq) : Decidable (I6 L) := by unfold I6; infer_instance
theorem tOf : joinedL (srt (setL [5, 9, 1, 2, 3, 3, 8, 12])) = setL [1, 3, 5, 12] := (of_eq (srt_asc (by decide +kernel)) (srt_mem _)).trans (by decide +kernel)
theorem tUn : joinedL (srt (setL [1, 2, 5, 6] ++ setL [3, 3])) = setL [1, 3, 5, 6] := (of_eq (srt_asc (by decide +kernel)) (srt_mem _)).trans (by decide +kernel)
theorem sep_of {L : List Rq} (hI : ∀ x ∈ L, I64 x.b ∧ I64 x.d) (h : chkL L = 0) : Sep L := chk_ok hI h
theorem tWo : joinedL (cmn (setL [1, 9]) (cplL (setL [3, 4, 6, 6]))) = setL [1, 2, 5, 5, 7, 9] := (without_eq (sep_of (by decide +kernel) (by decide +kernel)) (sep_of (by decide +kernel) (by decide +kernel))).trans (by decide +kernel)
theorem tCo : joinedL (cmn [⟨0, 1, 0, 5⟩, ⟨0, 9, 1, 0⟩] (setL [4, 10])) = setL [4, 5, 9, 10] := (common_eq (sep_of (by decide +kernel) (by decide +kernel)) (sep_of (by decide +kernel) (by decide +kernel))).trans (by decide +kernel)
def strK : Nat → ByteArray
 | 0 => ⟨#[49, 46, 46, 51, 44, 53, 46, 46, 53]⟩
 | 1 => ⟨#[]⟩
 | 2 => ⟨#[49, 46, 46, 51, 44]⟩
 | _ => ⟨#[49, 46, 46, 51, 44, 52, 46, 46, 52]⟩
def errK : Nat → Int
 | 0 => 0
 | 1 => 5
 | 2 => 5
 | _ => 12
theorem strK_at : ∀ k, k < 4 → (#[.string ⟨#[49, 46, 46, 51, 44, 53, 46, 46, 53]⟩, .string ⟨#[]⟩, .string ⟨#[49, 46, 46, 51, 44]⟩, .string ⟨#[49, 46, 46, 51, 44, 52, 46, 46, 52]⟩] : Array Value)[k]? = some (.string (strK k)) := by
 intro k hk
 rcases (show k = 0 ∨ k = 1 ∨ k = 2 ∨ k = 3 by omega) with rfl | rfl | rfl | rfl <;> rfl
theorem wantK_at : ∀ k, k < 4 → ([0, 5, 5, 12] : List Int)[k]? = some (errK k) := by
 intro k hk
 rcases (show k = 0 ∨ k = 1 ∨ k = 2 ∨ k = 3 by omega) with rfl | rfl | rfl | rfl <;> rfl
theorem givesK : ∀ k, k < 4 → ∀ W p n q c, Row0 W k p n (setL [1, 3, 5, 5]) → Row W q (setL [1, 3, 5, 5]) → Calls Tryz.prog 13 #[.slice p n n, .int .i64 (errK k), .slice q (setL [1, 3, 5, 5]).length c, .int .i64 (errK k)] W fun ro w' => ro = .returned (.bool true) ∧ Dn W w' := by
 intro k hk W p n q c h hq
 unfold Row0 at h
 by_cases h0 : k = 0
 · rw [if_pos h0] at h
   obtain ⟨rfl, h⟩ := h
   subst h0
   exact gv10 p _ _ 0 q c _ 0 W (Or.inl ⟨rfl, rfl, rfl, rfl⟩) (by decide) h (fun _ => hq)
 · rw [if_neg h0] at h
   subst h
   have hb : errK k ≠ 0 := by
    rcases (show k = 1 ∨ k = 2 ∨ k = 3 by omega) with rfl | rfl | rfl <;> decide
   exact gv10 p 0 [] (errK k) q c (setL [1, 3, 5, 5]) (errK k) W (Or.inr ⟨hb, rfl, rfl⟩) (by decide) (Row.nil _ _) (fun _ => hq)
theorem ep_1 : EP ⟨#[49]⟩ 0 1 0 := Or.inr (Or.inr ⟨by decide, by decide, rfl, Or.inl ⟨by decide +kernel, Or.inl ⟨by decide +kernel, by decide +kernel, rfl⟩⟩⟩)
theorem ep_3 : EP ⟨#[51]⟩ 0 3 0 := Or.inr (Or.inr ⟨by decide, by decide, rfl, Or.inl ⟨by decide +kernel, Or.inl ⟨by decide +kernel, by decide +kernel, rfl⟩⟩⟩)
theorem ep_5 : EP ⟨#[53]⟩ 0 5 0 := Or.inr (Or.inr ⟨by decide, by decide, rfl, Or.inl ⟨by decide +kernel, Or.inl ⟨by decide +kernel, by decide +kernel, rfl⟩⟩⟩)
theorem ep_4 : EP ⟨#[52]⟩ 0 4 0 := Or.inr (Or.inr ⟨by decide, by decide, rfl, Or.inl ⟨by decide +kernel, Or.inl ⟨by decide +kernel, by decide +kernel, rfl⟩⟩⟩)
theorem ps_13 : PsP [49, 46, 46, 51] (⟨0, 1, 0, 3⟩, 0) := rp_ofT (s := ⟨#[49, 46, 46, 51]⟩) (lo := ⟨#[49]⟩) (hi := ⟨#[51]⟩) (by decide +kernel) ep_1 ep_3 (Or.inr (Or.inr (Or.inr ⟨rfl, rfl, by decide +kernel, rfl, rfl, rfl, rfl, rfl⟩)))
theorem ps_55 : PsP [53, 46, 46, 53] (⟨0, 5, 0, 5⟩, 0) := rp_ofT (s := ⟨#[53, 46, 46, 53]⟩) (lo := ⟨#[53]⟩) (hi := ⟨#[53]⟩) (by decide +kernel) ep_5 ep_5 (Or.inr (Or.inr (Or.inr ⟨rfl, rfl, by decide +kernel, rfl, rfl, rfl, rfl, rfl⟩)))
theorem ps_44 : PsP [52, 46, 46, 52] (⟨0, 4, 0, 4⟩, 0) := rp_ofT (s := ⟨#[52, 46, 46, 52]⟩) (lo := ⟨#[52]⟩) (hi := ⟨#[52]⟩) (by decide +kernel) ep_4 ep_4 (Or.inr (Or.inr (Or.inr ⟨rfl, rfl, by decide +kernel, rfl, rfl, rfl, rfl, rfl⟩)))
theorem ps_no : PsP [] (⟨0, 0, 0, 0⟩, 5) := Or.inl ⟨by decide +kernel, rfl, rfl, rfl, rfl, rfl⟩
theorem sp_of {s : ByteArray} {fs : List (List UInt8)} {ys : List (Rq × Int)} {R : List Rq} {E : Int} (hn : s ≠ noneS) (hs : spl s.data.toList = fs) (h : PsL fs ys) (hR : R = prsR ys) (hE : E = prsE ys) : SP s R E :=
 Or.inr ⟨hn, ys, by rw [hs]; exact h, hR, hE⟩
theorem parseK : ∀ k, k < 4 → ∀ W, EnvR W → Calls Tryz.prog 34 #[.string (strK k)] W fun ro w' => ∃ p' n', ro = .returned (.tuple #[.slice p' n' n', .int .i64 (errK k)]) ∧ Row0 w' k p' n' (setL [1, 3, 5, 5]) ∧ Dn W w' := by
 intro k hk W hW
 rcases (show k = 0 ∨ k = 1 ∨ k = 2 ∨ k = 3 by omega) with rfl | rfl | rfl | rfl
 · refine (rsParse (strK 0) (setL [1, 3, 5, 5]) 0 W (by decide) (by decide +kernel) (sp_of (fs := [[49, 46, 46, 51], [53, 46, 46, 53]]) (by decide) (by decide +kernel) (psL_cons ps_13 (psL_cons ps_55 psL_nil)) (by decide +kernel) (by decide +kernel)) hW).mono ?_
   rintro e w' ⟨p', rfl, hr, q⟩
   exact ⟨p', _, rfl, ⟨rfl, hr⟩, q⟩
 · refine (rsParse (strK 1) [] 5 W (by decide) (by decide +kernel) (sp_of (fs := [[]]) (by decide) (by decide +kernel) (psL_cons ps_no psL_nil) (by decide +kernel) (by decide +kernel)) hW).mono ?_
   rintro e w' ⟨p', rfl, hr, q⟩
   exact ⟨p', _, rfl, rfl, q⟩
 · refine (rsParse (strK 2) [] 5 W (by decide) (by decide +kernel) (sp_of (fs := [[49, 46, 46, 51], []]) (by decide) (by decide +kernel) (psL_cons ps_13 (psL_cons ps_no psL_nil)) (by decide +kernel) (by decide +kernel)) hW).mono ?_
   rintro e w' ⟨p', rfl, hr, q⟩
   exact ⟨p', _, rfl, rfl, q⟩
 · refine (rsParse (strK 3) [] 12 W (by decide) (by decide +kernel) (sp_of (fs := [[49, 46, 46, 51], [52, 46, 46, 52]]) (by decide) (by decide +kernel) (psL_cons ps_13 (psL_cons ps_44 psL_nil)) (by decide +kernel) (by decide +kernel)) hW).mono ?_
   rintro e w' ⟨p', rfl, hr, q⟩
   exact ⟨p', _, rfl, rfl, q⟩
theorem lives10 (w : World) (hE : EnvR w) : Calls Tryz.prog 9 #[] w fun ro w' => ro = .returned (.bool true) ∧ Dn w w' :=
 lives10_walk strK errK [0, 5, 5, 12] errK (setL [5, 9, 1, 2, 3, 3, 8, 12]) (setL [1, 2, 5, 6]) (setL [3, 3]) (setL [1, 9]) (setL [3, 4, 6, 6]) (setL [1, 3, 5, 12]) (setL [1, 3, 5, 6]) (setL [1, 2, 5, 5, 7, 9]) (setL [1, 2, 3, 4]) (setL [5, 6, 1, 2]) (setL [1, 2, 4, 4]) (setL [4, 10]) (setL [0, 9223372036854775807]) (setL [4, 5, 9, 10]) (setL [2, 3]) (setL [1, 5, 9, 9]) (setL [1, 3, 7, 7]) (setL [1, 3, 5, 5]) ([⟨0, 1, 0, 4⟩, ⟨0, 7, 1, 0⟩]) ([⟨(-1), 0, 1, 0⟩]) ([⟨(-1), 0, 0, (-1)⟩])
  (Lib.hid (fun g W h => set10 g 8 8 _ 4 W rfl rfl (by decide) h))
  (Lib.hid (fun g W h => set10 g 4 4 _ 2 W rfl rfl (by decide) h))
  (Lib.hid (fun g W h => set10 g 2 2 _ 1 W rfl rfl (by decide) h))
  (Lib.hid (fun g W h => set10 g 2 2 _ 1 W rfl rfl (by decide) h))
  (Lib.hid (fun g W h => set10 g 4 4 _ 2 W rfl rfl (by decide) h))
  (Lib.hid (fun g W h => set10 g 4 4 _ 2 W rfl rfl (by decide) h))
  (Lib.hid (fun g W h => set10 g 4 4 _ 2 W rfl rfl (by decide) h))
  (Lib.hid (fun g W h => set10 g 6 6 _ 3 W rfl rfl (by decide) h))
  (Lib.hid (fun g W h => set10 g 4 4 _ 2 W rfl rfl (by decide) h))
  (Lib.hid (fun g W h => set10 g 4 4 _ 2 W rfl rfl (by decide) h))
  (Lib.hid (fun g W h => set10 g 4 4 _ 2 W rfl rfl (by decide) h))
  (Lib.hid (fun g W h => set10 g 2 2 _ 1 W rfl rfl (by decide) h))
  (Lib.hid (fun g W h => set10 g 2 2 _ 1 W rfl rfl (by decide) h))
  (Lib.hid (fun g W h => set10 g 4 4 _ 2 W rfl rfl (by decide) h))
  (Lib.hid (fun g W h => set10 g 2 2 _ 1 W rfl rfl (by decide) h))
  (Lib.hid (fun g W h => set10 g 4 4 _ 2 W rfl rfl (by decide) h))
  (Lib.hid (fun g W h => set10 g 4 4 _ 2 W rfl rfl (by decide) h))
  (Lib.hid (fun g W h => set10 g 4 4 _ 2 W rfl rfl (by decide) h))
  (Lib.hid (fun W p cap h => rsOf p cap _ 0 _ W (by decide +kernel) (by rw [if_pos rfl]; exact tOf.symm) (by decide) (by decide +kernel) h.row))
  (Lib.hid (fun W p cap q cap2 h k => rsUnionS p cap _ q cap2 _ 0 _ W (by rw [tUn]; decide +kernel) (by rw [tUn]; decide +kernel) h.nl k.nl (by decide) (by decide +kernel) h.row (by decide) (by decide +kernel) k.row))
  (Lib.hid (fun W p cap q cap2 h k => rsWithoutS p cap _ q cap2 _ 0 _ W (by rw [tWo]; decide +kernel) (by rw [tWo]; decide +kernel) h.le h.mx k.le k.mx (by decide) (by decide +kernel) h.row (by decide) (by decide +kernel) k.row))
  (Lib.hid (fun W p cap h => rsCheckE p cap _ 12 W (by decide +kernel) (by decide) (by decide +kernel) h.row))
  (Lib.hid (fun W p cap h => rsCheckE p cap _ 12 W (by decide +kernel) (by decide) (by decide +kernel) h.row))
  (Lib.hid (fun W p cap h => rsCheckE p cap _ 0 W (by decide +kernel) (by decide) (by decide +kernel) h.row))
  (Lib.hid (fun W p q cap2 h k => rsCommonS p 2 ([⟨0, 1, 0, 5⟩, ⟨0, 9, 1, 0⟩] : List Rq) q cap2 _ 0 _ W (by rw [tCo]; decide +kernel) (by rw [tCo]; decide +kernel) (by decide) (by decide) k.le k.mx (by decide) (by decide +kernel) h (by decide) (by decide +kernel) k.row))
  (Lib.hid (fun W p h => rsComplementS p 2 ([⟨(-1), 0, 0, 0⟩, ⟨0, 5, 0, 6⟩] : List Rq) 0 _ W (by decide +kernel) (by decide +kernel) (by decide) (by decide +kernel) h))
  (Lib.hid (fun W => rsComplementS none 0 [] 0 _ W (by decide +kernel) (by decide +kernel) (by decide) (by decide +kernel) (Row.nil _ _)))
  (Lib.hid (fun W p cap h => rsComplementS p cap _ 0 _ W (by decide +kernel) (by decide +kernel) (by decide) (by decide +kernel) h.row))
  (Lib.hid (fun W p cap q cap2 h k => rsWithinS p cap _ q cap2 _ 0 true W (by decide +kernel) (by decide +kernel) k.le k.mx (by decide) (by decide +kernel) h.row (by decide) (by decide +kernel) k.row))
  (Lib.hid (fun W p cap h => rsCount p cap _ 4 0 W (by decide +kernel) (by decide +kernel) (by decide) (by decide +kernel) h.row))
  (Lib.hid (fun W => rsMin none 0 [] 0 0 17 W (Or.inr (Or.inl ⟨by decide +kernel, rfl, rfl, rfl, rfl⟩)) (by decide) (by decide +kernel) (Row.nil _ _)))
  (Lib.hid (fun W p h => rsMax p 1 [⟨0, 1, 1, 0⟩] 1 0 0 W (Or.inr (Or.inr ⟨by decide +kernel, _, rfl, rfl, rfl, rfl⟩)) (by decide) (by decide +kernel) h))
  (Lib.hid (by decide))
  (Lib.hid (by decide))
  (Lib.hid (by decide))
  (Lib.hid (by decide))
  (Lib.hid (by decide))
  (Lib.hid (by decide))
  (Lib.hid (by decide))
  (Lib.hid (by decide))
  (Lib.hid (fun W p q h k => gv10 p _ ([⟨0, 1, 0, 4⟩, ⟨0, 7, 1, 0⟩] : List Rq) 0 q 2 ([⟨0, 1, 0, 4⟩, ⟨0, 7, 1, 0⟩] : List Rq) 0 W (Or.inl ⟨rfl, rfl, rfl, rfl⟩) (by decide) h (fun _ => k)))
  (Lib.hid (fun W p q h k => gv10 p _ ([⟨(-1), 0, 1, 0⟩] : List Rq) 0 q 1 ([⟨(-1), 0, 1, 0⟩] : List Rq) 0 W (Or.inl ⟨rfl, rfl, rfl, rfl⟩) (by decide) h (fun _ => k)))
  (Lib.hid (fun W p q h k => gv10 p _ ([⟨(-1), 0, 0, (-1)⟩] : List Rq) 0 q 1 ([⟨(-1), 0, 0, (-1)⟩] : List Rq) 0 W (Or.inl ⟨rfl, rfl, rfl, rfl⟩) (by decide) h (fun _ => k)))
  (Lib.hid (strK_at))
  (Lib.hid (rfl))
  (Lib.hid (wantK_at))
  (Lib.hid (givesK))
  (Lib.hid (parseK)) w hE
theorem fin_same {c : Int} {M N : List Rq} (h : c = 0 → M = N) : fin3 c M = fin3 c N ∧ res3 c M = res3 c N := by
 by_cases hc : c = 0
 · rw [h hc]; exact ⟨rfl, rfl⟩
 · rw [fin3_bad hc, fin3_bad hc, res3_bad hc, res3_bad hc]; exact ⟨rfl, rfl⟩
theorem res_ok {c : Int} {M : List Rq} (h : fin3 c M = 0) : res3 c M = M := by unfold res3; rw [if_pos h]
theorem fin_zero {c : Int} {M : List Rq} (h : c = 0) (hl : M.length ≤ 4096) : fin3 c M = 0 := by subst h; exact fin3_small (by omega)
theorem sep_take {l : List Rq} (h : Sep l) : ∀ k, Sep (l.take k) := by
 intro k
 induction l generalizing k with
 | nil => simpa using h
 | cons x t ih =>
   cases k with
   | zero => simp [Sep]
   | succ k =>
     simp only [List.take_succ_cons]
     obtain ⟨h1, h2, h3⟩ := h
     exact ⟨h1, fun y hy => h2 y (List.mem_of_mem_take hy), ih h3 k⟩
theorem i6_sep {L : List Rq} (h : Sep L) : I6 L := sep_i6 (Sep.all h)
theorem hasL_iff {L : List Rq} (h : Sep L) {k : Int} : HasL L k ↔ Mem k L := hasL_mem (Sep.all h)
theorem has_cpl {l : List Rq} (h : Sep l) {k : Int} (hk : I64 k) : decide (HasL (cplL l) k) = !decide (HasL l k) := by
 have : HasL (cplL l) k ↔ ¬ HasL l k := by rw [hasL_iff (cpl_law h).1, hasL_iff h]; exact cpl_day h hk
 simp [this]
end Go.Proofs.YtoghoddjkdoohaaGreatDoor
