/- Walks and laws that the claim's theorem leans on: part 24. -/
import Derived.Test.YtoghoddjkdoohaaGreatDoorZKn1
import Derived.Test.YtoghoddjkdoohaaGreatDoorZKn7
import Derived.Test.YtoghoddjkdoohaaGreatDoorZKn8
import Derived.Test.YtoghoddjkdoohaaGreatDoorZKn10
import Derived.Test.YtoghoddjkdoohaaGreatDoorZKn12
import Derived.Test.YtoghoddjkdoohaaGreatDoorZKn14
import Derived.Test.YtoghoddjkdoohaaGreatDoorZKn16
import Derived.Test.YtoghoddjkdoohaaGreatDoorZKn17
import Derived.Test.YtoghoddjkdoohaaGreatDoorZKn19
import Derived.Test.YtoghoddjkdoohaaGreatDoorZKn20
import Derived.Test.YtoghoddjkdoohaaGreatDoorZKn22
import Derived.Test.YtoghoddjkdoohaaGreatDoorZKn23
import Derived.Laws.DeepStrings4
import Derived.Lib.CutLaws
import Derived.Lib.IndexBytes
namespace Go.Proofs.YtoghoddjkdoohaaGreatDoor
set_option maxHeartbeats 4000000
set_option maxRecDepth 100000
open Go.RowKit
set_option linter.unusedVariables false
set_option linter.unusedSimpArgs false
instance decI6 (L : List Rq) : Decidable (I6 L) := by unfold I6; infer_instance
theorem tOf : joinedL (srt (setL [5, 9, 1, 2, 3, 3, 8, 12])) = setL [1, 3, 5, 12] := (of_eq (srt_asc (by decide +kernel)) (srt_mem _)).trans (by decide +kernel)
theorem tUn : joinedL (srt (setL [1, 2, 5, 6] ++ setL [3, 3])) = setL [1, 3, 5, 6] := (of_eq (srt_asc (by decide +kernel)) (srt_mem _)).trans (by decide +kernel)
theorem sep_of {L : List Rq} (hI : ∀ x ∈ L, I64 x.b /\ I64 x.d) (h : chkL L = 0) : Sep L := chk_ok hI h
theorem tWo : joinedL (cmn (setL [1, 9]) (cplL (setL [3, 4, 6, 6]))) = setL [1, 2, 5, 5, 7, 9] := (without_eq (sep_of (by decide +kernel) (by decide +kernel)) (sep_of (by decide +kernel) (by decide +kernel))).trans (by decide +kernel)
theorem tCo : joinedL (cmn [⟨0, 1, 0, 5⟩, ⟨0, 9, 1, 0⟩] (setL [4, 10])) = setL [4, 5, 9, 10] := (common_eq (sep_of (by decide +kernel) (by decide +kernel)) (sep_of (by decide +kernel) (by decide +kernel))).trans (by decide +kernel)
def strK : Nat -> ByteArray
 | 0 => ⟨#[49, 46, 46, 51, 44, 53, 46, 46, 53]⟩
 | 1 => ⟨#[]⟩
 | 2 => ⟨#[49, 46, 46, 51, 44]⟩
 | _ => ⟨#[49, 46, 46, 51, 44, 52, 46, 46, 52]⟩
def errK : Nat -> Int
 | 0 => 0
 | 1 => 5
 | 2 => 5
 | _ => 12
theorem strK_at : ∀ k, k < 4 -> (#[.string ⟨#[49, 46, 46, 51, 44, 53, 46, 46, 53]⟩, .string ⟨#[]⟩, .string ⟨#[49, 46, 46, 51, 44]⟩, .string ⟨#[49, 46, 46, 51, 44, 52, 46, 46, 52]⟩] : Array Value)[k]? = some (.string (strK k)) := by
 intro k hk
 rcases (show k = 0 \/ k = 1 \/ k = 2 \/ k = 3 by omega) with rfl | rfl | rfl | rfl <;> rfl
theorem wantK_at : ∀ k, k < 4 -> ([0, 5, 5, 12] : List Int)[k]? = some (errK k) := by
 intro k hk
 rcases (show k = 0 \/ k = 1 \/ k = 2 \/ k = 3 by omega) with rfl | rfl | rfl | rfl <;> rfl
theorem givesK : ∀ k, k < 4 -> ∀ W p n q c, Row0 W k p n (setL [1, 3, 5, 5]) -> Row W q (setL [1, 3, 5, 5]) -> Calls Tryz.prog 13 #[.slice p n n, .int .i64 (errK k), .slice q (setL [1, 3, 5, 5]).length c, .int .i64 (errK k)] W fun ro w' => ro = .returned (.bool true) /\ Dn W w' := by
 intro k hk W p n q c h hq
 unfold Row0 at h
 by_cases h0 : k = 0
 · rw [if_pos h0] at h
   obtain ⟨rfl, h⟩ := h; subst h0; exact gv10 p _ _ 0 q c _ 0 W (Or.inl ⟨rfl, rfl, rfl, rfl⟩) (by decide) h (fun _ => hq)
 · rw [if_neg h0] at h
   subst h
   have hb : errK k ≠ 0 := by
    rcases (show k = 1 \/ k = 2 \/ k = 3 by omega) with rfl | rfl | rfl <;> decide
   exact gv10 p 0 [] (errK k) q c (setL [1, 3, 5, 5]) (errK k) W (Or.inr ⟨hb, rfl, rfl⟩) (by decide) (Row.nil _ _) (fun _ => hq)
theorem ep_1 : EP ⟨#[49]⟩ 0 1 0 := Or.inr (Or.inr ⟨by decide, by decide, rfl, Or.inl ⟨by decide +kernel, Or.inl ⟨by decide +kernel, by decide +kernel, rfl⟩⟩⟩)
theorem ep_3 : EP ⟨#[51]⟩ 0 3 0 := Or.inr (Or.inr ⟨by decide, by decide, rfl, Or.inl ⟨by decide +kernel, Or.inl ⟨by decide +kernel, by decide +kernel, rfl⟩⟩⟩)
theorem ep_5 : EP ⟨#[53]⟩ 0 5 0 := Or.inr (Or.inr ⟨by decide, by decide, rfl, Or.inl ⟨by decide +kernel, Or.inl ⟨by decide +kernel, by decide +kernel, rfl⟩⟩⟩)
theorem ep_4 : EP ⟨#[52]⟩ 0 4 0 := Or.inr (Or.inr ⟨by decide, by decide, rfl, Or.inl ⟨by decide +kernel, Or.inl ⟨by decide +kernel, by decide +kernel, rfl⟩⟩⟩)
theorem ps_13 : PsP [49, 46, 46, 51] (⟨0, 1, 0, 3⟩, 0) := rp_ofT (s := ⟨#[49, 46, 46, 51]⟩) (lo := ⟨#[49]⟩) (hi := ⟨#[51]⟩) (by decide +kernel) ep_1 ep_3 (Or.inr (Or.inr (Or.inr ⟨rfl, rfl, by decide +kernel, rfl, rfl, rfl, rfl, rfl⟩)))
theorem ps_55 : PsP [53, 46, 46, 53] (⟨0, 5, 0, 5⟩, 0) := rp_ofT (s := ⟨#[53, 46, 46, 53]⟩) (lo := ⟨#[53]⟩) (hi := ⟨#[53]⟩) (by decide +kernel) ep_5 ep_5 (Or.inr (Or.inr (Or.inr ⟨rfl, rfl, by decide +kernel, rfl, rfl, rfl, rfl, rfl⟩)))
theorem ps_44 : PsP [52, 46, 46, 52] (⟨0, 4, 0, 4⟩, 0) := rp_ofT (s := ⟨#[52, 46, 46, 52]⟩) (lo := ⟨#[52]⟩) (hi := ⟨#[52]⟩) (by decide +kernel) ep_4 ep_4 (Or.inr (Or.inr (Or.inr ⟨rfl, rfl, by decide +kernel, rfl, rfl, rfl, rfl, rfl⟩)))
theorem ps_no : PsP [] (⟨0, 0, 0, 0⟩, 5) := Or.inl ⟨by decide +kernel, rfl, rfl, rfl, rfl, rfl⟩
theorem sp_of {s : ByteArray} {fs : List (List UInt8)} {ys : List (Rq × Int)} {R : List Rq} {E : Int} (hn : s ≠ noneS) (hs : spl s.data.toList = fs) (h : PsL fs ys) (hR : R = prsR ys) (hE : E = prsE ys) : SP s R E :=
 Or.inr ⟨hn, ys, by rw [hs]; exact h, hR, hE⟩
theorem parseK : ∀ k, k < 4 -> ∀ W, EnvR W -> Calls Tryz.prog 34 #[.string (strK k)] W fun ro w' => ∃ p' n', ro = .returned (.tuple #[.slice p' n' n', .int .i64 (errK k)]) /\ Row0 w' k p' n' (setL [1, 3, 5, 5]) /\ Dn W w' := by
 intro k hk W hW
 rcases (show k = 0 \/ k = 1 \/ k = 2 \/ k = 3 by omega) with rfl | rfl | rfl | rfl
 · refine (rsParse (strK 0) (setL [1, 3, 5, 5]) 0 W (by decide) (by decide +kernel) (sp_of (fs := [[49, 46, 46, 51], [53, 46, 46, 53]]) (by decide) (by decide +kernel) (psL_cons ps_13 (psL_cons ps_55 psL_nil)) (by decide +kernel) (by decide +kernel)) hW).mono ?_
   rintro e w' ⟨p', rfl, hr, q⟩; exact ⟨p', _, rfl, ⟨rfl, hr⟩, q⟩
 · refine (rsParse (strK 1) [] 5 W (by decide) (by decide +kernel) (sp_of (fs := [[]]) (by decide) (by decide +kernel) (psL_cons ps_no psL_nil) (by decide +kernel) (by decide +kernel)) hW).mono ?_
   rintro e w' ⟨p', rfl, hr, q⟩; exact ⟨p', _, rfl, rfl, q⟩
 · refine (rsParse (strK 2) [] 5 W (by decide) (by decide +kernel) (sp_of (fs := [[49, 46, 46, 51], []]) (by decide) (by decide +kernel) (psL_cons ps_13 (psL_cons ps_no psL_nil)) (by decide +kernel) (by decide +kernel)) hW).mono ?_
   rintro e w' ⟨p', rfl, hr, q⟩; exact ⟨p', _, rfl, rfl, q⟩
 · refine (rsParse (strK 3) [] 12 W (by decide) (by decide +kernel) (sp_of (fs := [[49, 46, 46, 51], [52, 46, 46, 52]]) (by decide) (by decide +kernel) (psL_cons ps_13 (psL_cons ps_44 psL_nil)) (by decide +kernel) (by decide +kernel)) hW).mono ?_
   rintro e w' ⟨p', rfl, hr, q⟩; exact ⟨p', _, rfl, rfl, q⟩
theorem lives10 (w : World) (hE : EnvR w) : Calls Tryz.prog 9 #[] w fun ro w' => ro = .returned (.bool true) /\ Dn w w' :=
 lives10_walk strK errK [0, 5, 5, 12] errK (setL [5, 9, 1, 2, 3, 3, 8, 12]) (setL [1, 2, 5, 6]) (setL [3, 3]) (setL [1, 9]) (setL [3, 4, 6, 6]) (setL [1, 3, 5, 12]) (setL [1, 3, 5, 6]) (setL [1, 2, 5, 5, 7, 9]) (setL [1, 2, 3, 4]) (setL [5, 6, 1, 2]) (setL [1, 2, 4, 4]) (setL [4, 10]) (setL [0, 9223372036854775807]) (setL [4, 5, 9, 10]) (setL [2, 3]) (setL [1, 5, 9, 9]) (setL [1, 3, 7, 7]) (setL [1, 3, 5, 5]) ([⟨0, 1, 0, 4⟩, ⟨0, 7, 1, 0⟩]) ([⟨(-1), 0, 1, 0⟩]) ([⟨(-1), 0, 0, (-1)⟩])
  (Lib.hid (fun g W h => set10 g 8 8 _ 4 W rfl rfl (by decide) h))
  (Lib.hid (fun g W h => set10 g 4 4 _ 2 W rfl rfl (by decide) h))
  (Lib.hid (fun g W h => set10 g 2 2 _ 1 W rfl rfl (by decide) h))
  (Lib.hid (fun g W h => set10 g 2 2 _ 1 W rfl rfl (by decide) h))
  (Lib.hid (fun g W h => set10 g 4 4 _ 2 W rfl rfl (by decide) h))
  (Lib.hid (fun g W h => set10 g 4 4 _ 2 W rfl rfl (by decide) h))
  (Lib.hid (fun g W h => set10 g 4 4 _ 2 W rfl rfl (by decide) h))
  (Lib.hid (fun g W h => set10 g 6 6 _ 3 W rfl rfl (by decide) h))
  (Lib.hid (fun g W h => set10 g 4 4 _ 2 W rfl rfl (by decide) h))
  (Lib.hid (fun g W h => set10 g 4 4 _ 2 W rfl rfl (by decide) h))
  (Lib.hid (fun g W h => set10 g 4 4 _ 2 W rfl rfl (by decide) h))
  (Lib.hid (fun g W h => set10 g 2 2 _ 1 W rfl rfl (by decide) h))
  (Lib.hid (fun g W h => set10 g 2 2 _ 1 W rfl rfl (by decide) h))
  (Lib.hid (fun g W h => set10 g 4 4 _ 2 W rfl rfl (by decide) h))
  (Lib.hid (fun g W h => set10 g 2 2 _ 1 W rfl rfl (by decide) h))
  (Lib.hid (fun g W h => set10 g 4 4 _ 2 W rfl rfl (by decide) h))
  (Lib.hid (fun g W h => set10 g 4 4 _ 2 W rfl rfl (by decide) h))
  (Lib.hid (fun g W h => set10 g 4 4 _ 2 W rfl rfl (by decide) h))
  (Lib.hid (fun W p cap h => rsOf p cap _ 0 _ W (by decide +kernel) (by rw [if_pos rfl]; exact tOf.symm) (by decide) (by decide +kernel) h.row))
  (Lib.hid (fun W p cap q cap2 h k => rsUnionS p cap _ q cap2 _ 0 _ W (by rw [tUn]; decide +kernel) (by rw [tUn]; decide +kernel) h.nl k.nl (by decide) (by decide +kernel) h.row (by decide) (by decide +kernel) k.row))
  (Lib.hid (fun W p cap q cap2 h k => rsWithoutS p cap _ q cap2 _ 0 _ W (by rw [tWo]; decide +kernel) (by rw [tWo]; decide +kernel) h.le h.mx k.le k.mx (by decide) (by decide +kernel) h.row (by decide) (by decide +kernel) k.row))
  (Lib.hid (fun W p cap h => rsCheckE p cap _ 12 W (by decide +kernel) (by decide) (by decide +kernel) h.row))
  (Lib.hid (fun W p cap h => rsCheckE p cap _ 12 W (by decide +kernel) (by decide) (by decide +kernel) h.row))
  (Lib.hid (fun W p cap h => rsCheckE p cap _ 0 W (by decide +kernel) (by decide) (by decide +kernel) h.row))
  (Lib.hid (fun W p q cap2 h k => rsCommonS p 2 ([⟨0, 1, 0, 5⟩, ⟨0, 9, 1, 0⟩] : List Rq) q cap2 _ 0 _ W (by rw [tCo]; decide +kernel) (by rw [tCo]; decide +kernel) (by decide) (by decide) k.le k.mx (by decide) (by decide +kernel) h (by decide) (by decide +kernel) k.row))
  (Lib.hid (fun W p h => rsComplementS p 2 ([⟨(-1), 0, 0, 0⟩, ⟨0, 5, 0, 6⟩] : List Rq) 0 _ W (by decide +kernel) (by decide +kernel) (by decide) (by decide +kernel) h))
  (Lib.hid (fun W => rsComplementS none 0 [] 0 _ W (by decide +kernel) (by decide +kernel) (by decide) (by decide +kernel) (Row.nil _ _)))
  (Lib.hid (fun W p cap h => rsComplementS p cap _ 0 _ W (by decide +kernel) (by decide +kernel) (by decide) (by decide +kernel) h.row))
  (Lib.hid (fun W p cap q cap2 h k => rsWithinS p cap _ q cap2 _ 0 true W (by decide +kernel) (by decide +kernel) k.le k.mx (by decide) (by decide +kernel) h.row (by decide) (by decide +kernel) k.row))
  (Lib.hid (fun W p cap h => rsCount p cap _ 4 0 W (by decide +kernel) (by decide +kernel) (by decide) (by decide +kernel) h.row))
  (Lib.hid (fun W => rsMin none 0 [] 0 0 17 W (Or.inr (Or.inl ⟨by decide +kernel, rfl, rfl, rfl, rfl⟩)) (by decide) (by decide +kernel) (Row.nil _ _)))
  (Lib.hid (fun W p h => rsMax p 1 [⟨0, 1, 1, 0⟩] 1 0 0 W (Or.inr (Or.inr ⟨by decide +kernel, _, rfl, rfl, rfl, rfl⟩)) (by decide) (by decide +kernel) h))
  (Lib.hid (by decide))
  (Lib.hid (by decide))
  (Lib.hid (by decide))
  (Lib.hid (by decide))
  (Lib.hid (by decide))
  (Lib.hid (by decide))
  (Lib.hid (by decide))
  (Lib.hid (by decide))
  (Lib.hid (fun W p q h k => gv10 p _ ([⟨0, 1, 0, 4⟩, ⟨0, 7, 1, 0⟩] : List Rq) 0 q 2 ([⟨0, 1, 0, 4⟩, ⟨0, 7, 1, 0⟩] : List Rq) 0 W (Or.inl ⟨rfl, rfl, rfl, rfl⟩) (by decide) h (fun _ => k)))
  (Lib.hid (fun W p q h k => gv10 p _ ([⟨(-1), 0, 1, 0⟩] : List Rq) 0 q 1 ([⟨(-1), 0, 1, 0⟩] : List Rq) 0 W (Or.inl ⟨rfl, rfl, rfl, rfl⟩) (by decide) h (fun _ => k)))
  (Lib.hid (fun W p q h k => gv10 p _ ([⟨(-1), 0, 0, (-1)⟩] : List Rq) 0 q 1 ([⟨(-1), 0, 0, (-1)⟩] : List Rq) 0 W (Or.inl ⟨rfl, rfl, rfl, rfl⟩) (by decide) h (fun _ => k)))
  (Lib.hid (strK_at))
  (Lib.hid (rfl))
  (Lib.hid (wantK_at))
  (Lib.hid (givesK))
  (Lib.hid (parseK)) w hE
theorem sep_both {a b : List Rq} (hA : I6 a) (hB : I6 b) (h : bothL a b = 0) : Sep a /\ Sep b := ⟨chk_ok hA (both_zero h).1, chk_ok hB (both_zero h).2⟩
theorem ok_app {a b : List Rq} (ha : Sep a) (hb : Sep b) : ∀ x ∈ a ++ b, x.ok := fun x hx => (List.mem_append.1 hx).elim (Sep.all ha x) (Sep.all hb x)
theorem union_same {a b : List Rq} (ha : Sep a) (hb : Sep b) : joinedL (srt (a ++ b)) = b.foldl putL a := union_eq ha hb (srt_asc (ok_app ha hb)) (fun x => by rw [srt_mem, List.mem_append])
theorem fin_same {c : Int} {M N : List Rq} (h : c = 0 -> M = N) : fin3 c M = fin3 c N /\ res3 c M = res3 c N := by
 by_cases hc : c = 0
 · rw [h hc]; exact ⟨rfl, rfl⟩
 · rw [fin3_bad hc, fin3_bad hc, res3_bad hc, res3_bad hc]; exact ⟨rfl, rfl⟩
theorem res_bad {c : Int} {M : List Rq} (h : fin3 c M ≠ 0) : res3 c M = [] := by unfold res3; rw [if_neg h]
theorem res_ok {c : Int} {M : List Rq} (h : fin3 c M = 0) : res3 c M = M := by unfold res3; rw [if_pos h]
theorem fin_zero {c : Int} {M : List Rq} (h : c = 0) (hl : M.length <= 4096) : fin3 c M = 0 := by subst h; exact fin3_small (by omega)
theorem sep_take {l : List Rq} (h : Sep l) : ∀ k, Sep (l.take k) := by
 intro k
 induction l generalizing k with
 | nil => simpa using h
 | cons x t ih =>
   cases k with
   | zero => simp [Sep]
   | succ k =>
     simp only [List.take_succ_cons]; obtain ⟨h1, h2, h3⟩ := h; exact ⟨h1, fun y hy => h2 y (List.mem_of_mem_take hy), ih h3 k⟩
theorem wo_len {a b : List Rq} (ha : Sep a) (hb : Sep b) : (woL a b).length <= a.length + b.length + 1 := by
 rw [<- without_eq ha hb]
 have h1 := jn_len a (cplL b)
 have h2 := cplL_len b
 omega
theorem wo_bound {a b : List Rq} (ha : Sep a) (hb : Sep b) (k : Nat) : (woL a (b.take k)).length <= a.length + b.length + 1 := by
 have := wo_len ha (sep_take hb k)
 have h2 : (b.take k).length <= b.length := by simp; omega
 omega
theorem cm_len {a b : List Rq} (ha : Sep a) (hb : Sep b) : (cmL a b).length <= a.length + b.length := by rw [<- common_eq ha hb]; exact jn_len a b
theorem un_len (a b : List Rq) : (b.foldl putL a).length <= a.length + b.length := foldP_len b a
theorem i6_sep {L : List Rq} (h : Sep L) : I6 L := sep_i6 (Sep.all h)
theorem sep_union {a b : List Rq} (ha : Sep a) (hb : Sep b) : Sep (b.foldl putL a) := (putAll_law ha (Sep.all hb)).1
theorem sep_common {a b : List Rq} (ha : Sep a) (hb : Sep b) : Sep (cmL a b) := (cmL_law (Sep.all ha) (Sep.all hb)).1
theorem sep_without {a b : List Rq} (ha : Sep a) (hb : Sep b) : Sep (woL a b) := (wo_law ha (Sep.all hb)).1
theorem chk_of {L : List Rq} (hI : I6 L) (h : Sep L) (hl : L.length <= 4096) : chkL L = 0 := by unfold chkL; rw [if_neg (by omega)]; exact sep_chk h
theorem hasL_iff {L : List Rq} (h : Sep L) {k : Int} : HasL L k ↔ Mem k L := hasL_mem (Sep.all h)
theorem dec_iff {p q : Prop} [Decidable p] [Decidable q] (h : p ↔ q) : decide p = decide q := by simp [h]
theorem has_union {a b : List Rq} (ha : Sep a) (hb : Sep b) (k : Int) : decide (HasL (b.foldl putL a) k) = (decide (HasL a k) || decide (HasL b k)) := by
 have : HasL (b.foldl putL a) k ↔ HasL a k \/ HasL b k := by rw [hasL_iff (sep_union ha hb), hasL_iff ha, hasL_iff hb]; exact union_day ha hb
 simp [this]
theorem has_common {a b : List Rq} (ha : Sep a) (hb : Sep b) (k : Int) : decide (HasL (cmL a b) k) = (decide (HasL a k) && decide (HasL b k)) := by
 have : HasL (cmL a b) k ↔ HasL a k /\ HasL b k := by rw [hasL_iff (sep_common ha hb), hasL_iff ha, hasL_iff hb]; exact common_day ha hb
 simp [this]
theorem has_without {a b : List Rq} (ha : Sep a) (hb : Sep b) {k : Int} (hk : I64 k) : decide (HasL (woL a b) k) = (decide (HasL a k) && !decide (HasL b k)) := by
 have : HasL (woL a b) k ↔ HasL a k /\ ¬ HasL b k := by rw [hasL_iff (sep_without ha hb), hasL_iff ha, hasL_iff hb]; exact without_day ha hb hk
 simp [this]
theorem has_cpl {l : List Rq} (h : Sep l) {k : Int} (hk : I64 k) : decide (HasL (cplL l) k) = !decide (HasL l k) := by
 have : HasL (cplL l) k ↔ ¬ HasL l k := by rw [hasL_iff (cpl_law h).1, hasL_iff h]; exact cpl_day h hk
 simp [this]
theorem within_same {a b : List Rq} (ha : Sep a) (hb : Sep b) : wtn a b = decide (WtP a b) := by
 have := wtn_law ha hb
 cases h : wtn a b with
 | true => simp [this.1 h]
 | false =>
   have : ¬ WtP a b := fun hw => by rw [this.2 hw] at h; cases h
   simp [this]
theorem within_union {a b : List Rq} (ha : Sep a) (hb : Sep b) : decide (WtP a b) = decide (b.foldl putL a = b) := dec_iff (wt_union ha hb)
set_option maxHeartbeats 4000000
set_option maxRecDepth 100000
structure Stop (s : ByteArray) (N : Nat) : Prop where
 go : ∀ j, j < N -> ∃ h : j + 1 < s.size, ¬ (s[j] = 46 /\ s[j + 1] = 46)
theorem ne46 {s : ByteArray} {k : Nat} (h : k < s.size) (hne : s[k] ≠ 46) : ((s[k].toNat : Int) != 46) = true := by
 rw [bne_iff_ne]; intro e; exact hne (UInt8.toNat_inj.1 (by simpa using (by exact_mod_cast e : s[k].toNat = 46)))
theorem eq46 {s : ByteArray} {k : Nat} (h : k < s.size) (he : s[k] = 46) : ((s[k].toNat : Int) != 46) = false := by
 rw [he]; rfl
theorem occ_dd (s : ByteArray) (i : Nat) (h : i + 1 < s.size) : Lib.occAt s.data.toList [46, 46] i = true ↔ s[i] = 46 /\ s[i + 1] = 46 := by
 have h1 := Lib.data_getElem? s i (by omega)
 have h2 := Lib.data_getElem? s (i + 1) h
 have hl : s.data.toList.length = s.size := len_is s
 have e : s.data.toList.drop i = s[i] :: s[i + 1] :: s.data.toList.drop (i + 2) := by
  rw [List.drop_eq_getElem_cons (by omega), List.drop_eq_getElem_cons (by omega)]; rw [List.getElem?_eq_getElem (by omega)] at h1 h2; rw [Option.some.inj h1, Option.some.inj h2]
 unfold Lib.occAt
 rw [e]
 simp only [List.isPrefixOf, Bool.and_true, Bool.and_eq_true, beq_iff_eq]
 exact ⟨fun ⟨x, y⟩ => ⟨x.symm, y.symm⟩, fun ⟨x, y⟩ => ⟨x.symm, y.symm⟩⟩
theorem occ_short (s : ByteArray) (i : Nat) (h : ¬ i + 1 < s.size) : Lib.occAt s.data.toList [46, 46] i = false := by
 have hl : s.data.toList.length = s.size := len_is s
 unfold Lib.occAt
 have : (s.data.toList.drop i).length <= 1 := by rw [List.length_drop]; omega
 match hd : s.data.toList.drop i, this with
 | [], _ => rfl
 | [x], _ => simp [List.isPrefixOf]
 | x :: y :: l, h' => simp at h'
theorem stop_cases (s : ByteArray) : (∃ N, Stop s N /\ (¬ N + 1 < s.size /\ N <= s.size) /\ (Lib.cut s.data.toList [46, 46]).2.2 = false) \/
   (∃ N, Stop s N /\ (∃ h : N + 1 < s.size, s[N] = 46 /\ s[N + 1] = 46) /\ (Lib.cut s.data.toList [46, 46]).2.2 = true /\ (⟨(Lib.cut s.data.toList [46, 46]).1.toArray⟩ : ByteArray) = s.extract 0 N /\ (⟨(Lib.cut s.data.toList [46, 46]).2.1.toArray⟩ : ByteArray) = s.extract (N + 2) s.size) := by
 have hl : s.data.toList.length = s.size := len_is s
 rcases Lib.index_spec s.data.toList [46, 46] with ⟨h1, h2⟩ | ⟨i, h1, h2, h3, h4⟩
 · refine Or.inl ⟨s.size - 1, ⟨fun j hj => ⟨by omega, fun hc => ?_⟩⟩, ⟨by omega, by omega⟩, (Lib.cutB_miss s ⟨#[46, 46]⟩ h1).2.2⟩
   have := h2 j (by omega); rw [(occ_dd s j (by omega)).2 hc] at this
   cases this
 · have hi : i + 1 < s.size := by
    by_cases hc : i + 1 < s.size
    · exact hc
    · rw [occ_short s i hc] at h3; cases h3
   obtain ⟨c1, c2, c3⟩ := Lib.cutB_hit s ⟨#[46, 46]⟩ i h1; refine Or.inr ⟨i, ⟨fun j hj => ⟨by omega, fun hc => ?_⟩⟩, ⟨hi, (occ_dd s i hi).1 h3⟩, c3, c1, c2⟩; have := h4 j hj; rw [(occ_dd s j (by omega)).2 hc] at this
   cases this
theorem preKn78x1 (w : World) : ∃ W1, W1 = w.alloc (.cells #[.int .i8 0, .int .i64 0, .int .i8 0, .int .i64 0] 45) /\ (Dn w W1) /\ (W1.cell? ⟨w.heap.size, 0, none⟩ = some (.int .i8 0)) /\ (W1.cell? ⟨w.heap.size, 1, none⟩ = some (.int .i64 0)) /\ (W1.cell? ⟨w.heap.size, 2, none⟩ = some (.int .i8 0)) /\ (W1.cell? ⟨w.heap.size, 3, none⟩ = some (.int .i64 0)) /\ (w.heap.size < W1.heap.size) /\ (W1.frozen? ⟨w.heap.size, 0, none⟩ = false) /\ (W1.frozen? ⟨w.heap.size, 1, none⟩ = false) /\ (W1.frozen? ⟨w.heap.size, 2, none⟩ = false) /\ (W1.frozen? ⟨w.heap.size, 3, none⟩ = false) := by
 obtain ⟨W1, hW1⟩ : ∃ W1, W1 = w.alloc (.cells #[.int .i8 0, .int .i64 0, .int .i8 0, .int .i64 0] 45) := ⟨_, rfl⟩
 refine ⟨W1, hW1, (by rw [hW1]; exact (Dn.refl _).alloc _), ?_, ?_, ?_, ?_, ?_, ?_, ?_, ?_, ?_⟩ <;> rw [hW1] <;> first | (simp [go_sem]; done) | (simp <;> omega)
theorem rfP_0 (s : ByteArray) (N : Nat) (hs : s.size <= 1000) (i1 d1 r1 i2 d2 r2 m : Int) (HST : Hid (Stop s N)) (hno : ¬ N + 1 < s.size) (hN : N <= s.size) (w : World) :
  Calls Tryz.prog 79 #[.string s] w fun ro w' => ro = .returned (.tuple #[.agg #[.int .i8 0, .int .i64 0, .int .i8 0, .int .i64 0], .int .i64 5]) /\ Dn w w' := by
 go_enter Tryz.func79, Tryz.ntmps79
 go_wp2_with fail
 obtain ⟨W1, hW1, uW1, c2, c3, c4, c5, l6, f7, f8, f9, f10⟩ := preKn78x1 w 
 rw [<- hW1]
 clear hW1
 go_loopw [4] (fun av wr => ∃ (k : Nat) (j : Int), j = (k : Int) /\ av = .int .i64 j /\ k <= N /\ wr = W1) (fun av _ => N - (intOf av).toNat)
 case atStart => exact ⟨0, 0, rfl, rfl, Nat.zero_le _, rfl⟩
 case round =>
  obtain ⟨k, j, hj, rfl, hkN, hwr⟩ := hrel; subst hwr; obtain rfl : j = (k : Int) := hj
  by_cases hk : k < N
  · obtain ⟨hlt, hnd⟩ := HST.out.go k hk
    obtain ⟨k1, hk1⟩ : ∃ k1 : Nat, k1 = k + 1 := ⟨_, rfl⟩; have hw : IntKind.i64.wrap ((k : Int) + 1) = (k1 : Int) := (by rw [IntWalk.i64_in _ (by omega)]; omega); have b1 : decide ((k1 : Int) < (s.size : Int)) = true := (by simp; omega); have hks : k < s.size := (by omega); have hks1 : k1 < s.size := (by omega); have hki : (k : Int) < (s.size : Int) := (by omega); have hki1 : (k1 : Int) < (s.size : Int) := (by omega); have FIN : k1 <= N /\ N - k1 < N - k := (by omega); have FIN' := Lib.hid FIN; have HK1 := Lib.hid hk1
    by_cases h46 : s[k] = 46
    · have h47 : s[k1] ≠ 46 := by subst hk1; exact fun e => hnd ⟨h46, e⟩
      have q0 := eq46 hks h46; have q1 := ne46 hks1 h47; clear hnd h46 h47 FIN hk1 hlt hk; go_wp2_with fail; go_roundw
      case rel => exact ⟨k1, _, rfl, rfl, FIN'.out.1, by simp⟩
      case measure => simp [intOf]; exact FIN'.out.2
    · have q0 := ne46 hks h46
      clear hnd h46 FIN hk1 hlt hk; go_wp2_with fail; go_roundw
      case rel => exact ⟨k1, _, rfl, rfl, FIN'.out.1, by simp⟩
      case measure => simp [intOf]; exact FIN'.out.2
  · obtain rfl : k = N := by omega
    clear hk hkN HST; obtain ⟨k1, hk1⟩ : ∃ k1 : Nat, k1 = k + 1 := ⟨_, rfl⟩; have hw : IntKind.i64.wrap ((k : Int) + 1) = (k1 : Int) := (by rw [IntWalk.i64_in _ (by omega)]; omega); have b1 : decide ((k1 : Int) < (s.size : Int)) = false := (by simp; omega); have b2 : decide ((s.size : Int) <= (k1 : Int)) = true := (by simp; omega); have b3 : ¬ (k1 < s.size) := (by omega); have b4 : s.size <= k1 := (by omega); clear hk1 hno; go_wp2_with fail; exact bodyPost_ret (v := .tuple #[.agg #[.int .i8 0, .int .i64 0, .int .i8 0, .int .i64 0], .int .i64 5]) (by simp [results, Tryz.results79, go_sem, c2, c3, c4, c5, f7, f8, f9, f10] <;> omega) rfl ⟨rfl, ((((uW1.sC).sC).sC).sC)⟩
theorem rfP_all (s : ByteArray) (N : Nat) (hs : s.size <= 1000) (i1 d1 r1 i2 d2 r2 m : Int) (HST : Hid (Stop s N)) (HD : Hid (∃ h : N + 1 < s.size, s[N] = 46 /\ s[N + 1] = 46)) (HA : Hid (∀ W, Calls Tryz.prog 117 #[.string (s.extract 0 N)] W fun o w' => o = .returned (.tuple #[.agg #[.int .i8 i1, .int .i64 d1], .int .i64 r1]) /\ Dn W w')) (HB : Hid (∀ W, Calls Tryz.prog 117 #[.string (s.extract (N + 2) s.size)] W fun o w' => o = .returned (.tuple #[.agg #[.int .i8 i2, .int .i64 d2], .int .i64 r2]) /\ Dn W w')) (HC : Hid (∀ W, Calls Tryz.prog 44 #[.agg #[.int .i8 i1, .int .i64 d1, .int .i8 i2, .int .i64 d2]] W fun o w' => o = .returned (.int .i64 m) /\ Dn W w')) (res : Value) (HCASE : Hid ((r1 = 5 /\ res = .tuple #[.agg #[.int .i8 0, .int .i64 0, .int .i8 0, .int .i64 0], .int .i64 5]) \/ (r1 ≠ 5 /\ r2 = 5 /\ res = .tuple #[.agg #[.int .i8 0, .int .i64 0, .int .i8 0, .int .i64 0], .int .i64 5]) \/ (r1 ≠ 5 /\ r2 ≠ 5 /\ r1 ≠ 0 /\ res = .tuple #[.agg #[.int .i8 0, .int .i64 0, .int .i8 0, .int .i64 0], .int .i64 15]) \/ (r1 = 0 /\ r2 ≠ 5 /\ r2 ≠ 0 /\ res = .tuple #[.agg #[.int .i8 0, .int .i64 0, .int .i8 0, .int .i64 0], .int .i64 15]) \/ (r1 = 0 /\ r2 = 0 /\ m ≠ 0 /\ res = .tuple #[.agg #[.int .i8 0, .int .i64 0, .int .i8 0, .int .i64 0], .int .i64 m]) \/ (r1 = 0 /\ r2 = 0 /\ m = 0 /\ res = .tuple #[.agg #[.int .i8 i1, .int .i64 d1, .int .i8 i2, .int .i64 d2], .int .i64 0]))) (w : World) :
  Calls Tryz.prog 79 #[.string s] w fun ro w' => ro = .returned (res) /\ Dn w w' := by
 go_enter Tryz.func79, Tryz.ntmps79
 go_wp2_with fail
 obtain ⟨W1, hW1, uW1, c2, c3, c4, c5, l6, f7, f8, f9, f10⟩ := preKn78x1 w 
 rw [<- hW1]
 clear hW1
 go_loopw [4] (fun av wr => ∃ (k : Nat) (j : Int), j = (k : Int) /\ av = .int .i64 j /\ k <= N /\ wr = W1) (fun av _ => N - (intOf av).toNat)
 case atStart => exact ⟨0, 0, rfl, rfl, Nat.zero_le _, rfl⟩
 case round =>
  obtain ⟨k, j, hj, rfl, hkN, hwr⟩ := hrel; subst hwr; obtain rfl : j = (k : Int) := hj
  by_cases hk : k < N
  · obtain ⟨hlt, hnd⟩ := HST.out.go k hk
    obtain ⟨k1, hk1⟩ : ∃ k1 : Nat, k1 = k + 1 := ⟨_, rfl⟩; have hw : IntKind.i64.wrap ((k : Int) + 1) = (k1 : Int) := (by rw [IntWalk.i64_in _ (by omega)]; omega); have b1 : decide ((k1 : Int) < (s.size : Int)) = true := (by simp; omega); have hks : k < s.size := (by omega); have hks1 : k1 < s.size := (by omega); have hki : (k : Int) < (s.size : Int) := (by omega); have hki1 : (k1 : Int) < (s.size : Int) := (by omega); have FIN : k1 <= N /\ N - k1 < N - k := (by omega); have FIN' := Lib.hid FIN; have HK1 := Lib.hid hk1
    by_cases h46 : s[k] = 46
    · have h47 : s[k1] ≠ 46 := by subst hk1; exact fun e => hnd ⟨h46, e⟩
      have q0 := eq46 hks h46; have q1 := ne46 hks1 h47; clear hnd h46 h47 FIN hk1 hlt hk; go_wp2_with fail; go_roundw
      case rel => exact ⟨k1, _, rfl, rfl, FIN'.out.1, by simp⟩
      case measure => simp [intOf]; exact FIN'.out.2
    · have q0 := ne46 hks h46
      clear hnd h46 FIN hk1 hlt hk; go_wp2_with fail; go_roundw
      case rel => exact ⟨k1, _, rfl, rfl, FIN'.out.1, by simp⟩
      case measure => simp [intOf]; exact FIN'.out.2
  · obtain rfl : k = N := by omega
    clear hk hkN HST; obtain ⟨hlt, h46, h47⟩ := HD.out; obtain ⟨k1, hk1⟩ : ∃ k1 : Nat, k1 = k + 1 := ⟨_, rfl⟩; obtain ⟨k2, hk2⟩ : ∃ k2 : Nat, k2 = k + 2 := ⟨_, rfl⟩; have hw : IntKind.i64.wrap ((k : Int) + 1) = (k1 : Int) := (by rw [IntWalk.i64_in _ (by omega)]; omega); have hw2 : IntKind.i64.wrap ((k : Int) + 2) = (k2 : Int) := (by rw [IntWalk.i64_in _ (by omega)]; omega); have b1 : decide ((k1 : Int) < (s.size : Int)) = true := (by simp; omega); have b2 : decide ((s.size : Int) <= (k1 : Int)) = false := (by simp; omega); have hks : k < s.size := (by omega); have hks1 : k1 < s.size := (by omega); have hki : (k : Int) < (s.size : Int) := (by omega); have hki1 : (k1 : Int) < (s.size : Int) := (by omega); have hke : (k : Int) <= (s.size : Int) := (by omega); have hke2 : (k2 : Int) <= (s.size : Int) := (by omega); have q0 := eq46 hks h46; have q1 : ((s[k1].toNat : Int) != 46) = false := (by subst hk1; exact eq46 hlt h47); have HA := HA; have HB' : Hid (∀ W, Calls Tryz.prog 117 #[.string (s.extract k2 s.size)] W fun o w' => o = .returned (.tuple #[.agg #[.int .i8 i2, .int .i64 d2], .int .i64 r2]) /\ Dn W w') := (by rw [hk2]; exact HB); clear hlt h46 h47 hk1 hk2 HB HD; go_wp2_with fail; refine (HA.out _).mono ?_; rintro e w1 ⟨rfl, qw1⟩; have f11 := fz qw1 f7 l6; have f12 := fz qw1 f8 l6; have f13 := fz qw1 f9 l6; have f14 := fz qw1 f10 l6; have a6 := nlt l6 qw1.size; obtain ⟨b8, b9, bA, bB⟩ := mv4 qw1.cell c2 c3 c4 c5; clear f7 f8 f9 f10 l6 c2 c3 c4 c5; have uw1 := uW1.trans qw1; clear qw1 uW1; go_wp2_with fail; obtain ⟨W20, hW20⟩ : ∃ W20, W20 = w1.alloc (.cells #[.int .i8 i1, .int .i64 d1] 41) := ⟨_, rfl⟩; have uW20 : Dn w1 W20 := (by rw [hW20]; exact (Dn.refl _).alloc _); have n21 : w.heap.size ≠ w1.heap.size := (by have := a6; omega); have f22 := fz uW20 f11 a6; have f23 := fz uW20 f12 a6; have f24 := fz uW20 f13 a6; have f25 := fz uW20 f14 a6; have a8 := nlt a6 uW20.size; obtain ⟨bC, bD, bE, bF⟩ := mv4 uW20.cell b8 b9 bA bB; clear f11 f12 f13 f14 a6 b8 b9 bA bB; have bG : W20.cell? ⟨w1.heap.size, 0, none⟩ = some (.int .i8 i1) := (by rw [hW20]; simp [go_sem]); have bH : W20.cell? ⟨w1.heap.size, 1, none⟩ = some (.int .i64 d1) := (by rw [hW20]; simp [go_sem]); have bI : w1.heap.size < W20.heap.size := (by rw [hW20]; simp <;> omega); rw [<- hW20]; clear hW20; have vW20 := uw1.trans uW20; clear uW20 uw1; refine (HB'.out _).mono ?_; rintro e w2 ⟨rfl, qw2⟩; have f34 := fz qw2 f22 a8; have f35 := fz qw2 f23 a8; have f36 := fz qw2 f24 a8; have f37 := fz qw2 f25 a8; obtain ⟨a0, aO⟩ := nl2 qw2.size a8 bI; obtain ⟨a2, a3, a4, a5, aP, aQ⟩ := mv6 qw2.cell bC bD bE bF bG bH; clear f22 f23 f24 f25 a8 bC bD bE bF bI bG bH; have uw2 := vW20.trans qw2; clear qw2 vW20; rcases HCASE.out with ⟨rfl, rfl⟩ | ⟨h1, rfl, rfl⟩ | ⟨h1, h2, h3, rfl⟩ | ⟨rfl, h1, h2, rfl⟩ | ⟨rfl, rfl, h1, rfl⟩ | ⟨rfl, rfl, rfl, rfl⟩
    all_goals clear HCASE
    ·
      go_wp2_with fail; have hC : C4 w2 (w.heap.size) (.int .i8 0) (.int .i64 0) (.int .i8 0) (.int .i64 0) := ⟨a2, a3, a4, a5, f34, f35, f36, f37, a0⟩
      have hZ := fun o : Obj => (hC.fill (.int .i8 0) (.int .i64 0) (.int .i8 0) (.int .i64 0)).alloc o
      have z0 := fun o : Obj => (hZ o).c0
      have y0 := fun o : Obj => (hZ o).f0
      have z1 := fun o : Obj => (hZ o).c1
      have y1 := fun o : Obj => (hZ o).f1
      have z2 := fun o : Obj => (hZ o).c2
      have y2 := fun o : Obj => (hZ o).f2
      have z3 := fun o : Obj => (hZ o).c3
      have y3 := fun o : Obj => (hZ o).f3
      exact bodyPost_ret (v := .tuple #[.agg #[.int .i8 0, .int .i64 0, .int .i8 0, .int .i64 0], .int .i64 5]) (by simp [results, Tryz.results79, go_sem, z0, z1, z2, z3, y0, y1, y2, y3, a2, a3, a4, a5, f34, f35, f36, f37] <;> omega) rfl ⟨rfl, (((((uw2.sC).sC).sC).sC).alloc _)⟩
    ·
      have t1 : (r1 == 5) = false := (by simpa using h1); clear h1; go_wp2_with fail; have hC : C4 w2 (w.heap.size) (.int .i8 0) (.int .i64 0) (.int .i8 0) (.int .i64 0) := ⟨a2, a3, a4, a5, f34, f35, f36, f37, a0⟩
      have hZ := fun o : Obj => (hC.fill (.int .i8 0) (.int .i64 0) (.int .i8 0) (.int .i64 0)).alloc o
      have z0 := fun o : Obj => (hZ o).c0
      have y0 := fun o : Obj => (hZ o).f0
      have z1 := fun o : Obj => (hZ o).c1
      have y1 := fun o : Obj => (hZ o).f1
      have z2 := fun o : Obj => (hZ o).c2
      have y2 := fun o : Obj => (hZ o).f2
      have z3 := fun o : Obj => (hZ o).c3
      have y3 := fun o : Obj => (hZ o).f3
      exact bodyPost_ret (v := .tuple #[.agg #[.int .i8 0, .int .i64 0, .int .i8 0, .int .i64 0], .int .i64 5]) (by simp [results, Tryz.results79, go_sem, z0, z1, z2, z3, y0, y1, y2, y3, a2, a3, a4, a5, f34, f35, f36, f37] <;> omega) rfl ⟨rfl, (((((uw2.sC).sC).sC).sC).alloc _)⟩
    ·
      have t1 : (r1 == 5) = false := (by simpa using h1); have t2 : (r2 == 5) = false := (by simpa using h2); have t3 : (r1 != 0) = true := (by simpa using h3); clear h1 h2 h3; go_wp2_with fail; have hC : C4 w2 (w.heap.size) (.int .i8 0) (.int .i64 0) (.int .i8 0) (.int .i64 0) := ⟨a2, a3, a4, a5, f34, f35, f36, f37, a0⟩
      have hZ := fun o : Obj => (hC.fill (.int .i8 0) (.int .i64 0) (.int .i8 0) (.int .i64 0)).alloc o
      have z0 := fun o : Obj => (hZ o).c0
      have y0 := fun o : Obj => (hZ o).f0
      have z1 := fun o : Obj => (hZ o).c1
      have y1 := fun o : Obj => (hZ o).f1
      have z2 := fun o : Obj => (hZ o).c2
      have y2 := fun o : Obj => (hZ o).f2
      have z3 := fun o : Obj => (hZ o).c3
      have y3 := fun o : Obj => (hZ o).f3
      exact bodyPost_ret (v := .tuple #[.agg #[.int .i8 0, .int .i64 0, .int .i8 0, .int .i64 0], .int .i64 15]) (by simp [results, Tryz.results79, go_sem, z0, z1, z2, z3, y0, y1, y2, y3, a2, a3, a4, a5, f34, f35, f36, f37] <;> omega) rfl ⟨rfl, (((((uw2.sC).sC).sC).sC).alloc _)⟩
    ·
      have t1 : (r2 == 5) = false := (by simpa using h1); have t2 : (r2 != 0) = true := (by simpa using h2); clear h1 h2; go_wp2_with fail; have hC : C4 w2 (w.heap.size) (.int .i8 0) (.int .i64 0) (.int .i8 0) (.int .i64 0) := ⟨a2, a3, a4, a5, f34, f35, f36, f37, a0⟩
      have hZ := fun o : Obj => (hC.fill (.int .i8 0) (.int .i64 0) (.int .i8 0) (.int .i64 0)).alloc o
      have z0 := fun o : Obj => (hZ o).c0
      have y0 := fun o : Obj => (hZ o).f0
      have z1 := fun o : Obj => (hZ o).c1
      have y1 := fun o : Obj => (hZ o).f1
      have z2 := fun o : Obj => (hZ o).c2
      have y2 := fun o : Obj => (hZ o).f2
      have z3 := fun o : Obj => (hZ o).c3
      have y3 := fun o : Obj => (hZ o).f3
      exact bodyPost_ret (v := .tuple #[.agg #[.int .i8 0, .int .i64 0, .int .i8 0, .int .i64 0], .int .i64 15]) (by simp [results, Tryz.results79, go_sem, z0, z1, z2, z3, y0, y1, y2, y3, a2, a3, a4, a5, f34, f35, f36, f37] <;> omega) rfl ⟨rfl, (((((uw2.sC).sC).sC).sC).alloc _)⟩
    ·
      have t1 : (m != 0) = true := (by simpa using h1); clear h1; go_wp2_with fail; obtain ⟨W46, hW46⟩ : ∃ W46, W46 = (w2.alloc (.cells #[.int .i8 i2, .int .i64 d2] 41)).alloc (.cells #[.int .i8 i1, .int .i64 d1, .int .i8 i2, .int .i64 d2] 45) := ⟨_, rfl⟩; have uW46 : Dn w2 W46 := (by rw [hW46]; exact ((Dn.refl _).alloc _).alloc _); have n47 : w.heap.size ≠ w2.heap.size := (by have := a0; omega); have n48 : w.heap.size ≠ w2.heap.size + 1 := (by have := a0; omega); have f49 := fz uW46 f34 a0; have f50 := fz uW46 f35 a0; have f51 := fz uW46 f36 a0; have f52 := fz uW46 f37 a0; obtain ⟨a1, aD⟩ := nl2 uW46.size a0 aO; obtain ⟨a9, aA, aB, aC, aE, aF⟩ := mv6 uW46.cell a2 a3 a4 a5 aP aQ; clear f34 f35 f36 f37 a0 a2 a3 a4 a5 aO aP aQ; have aG : W46.cell? ⟨w2.heap.size, 0, none⟩ = some (.int .i8 i2) := (by rw [hW46]; simp [go_sem]); have aH : W46.cell? ⟨w2.heap.size, 1, none⟩ = some (.int .i64 d2) := (by rw [hW46]; simp [go_sem]); have aI : w2.heap.size < W46.heap.size := (by rw [hW46]; simp <;> omega); have aJ : W46.cell? ⟨w2.heap.size + 1, 0, none⟩ = some (.int .i8 i1) := (by rw [hW46]; simp [go_sem]); have aK : W46.cell? ⟨w2.heap.size + 1, 1, none⟩ = some (.int .i64 d1) := (by rw [hW46]; simp [go_sem]); have aL : W46.cell? ⟨w2.heap.size + 1, 2, none⟩ = some (.int .i8 i2) := (by rw [hW46]; simp [go_sem]); have aM : W46.cell? ⟨w2.heap.size + 1, 3, none⟩ = some (.int .i64 d2) := (by rw [hW46]; simp [go_sem]); have aN : w2.heap.size + 1 < W46.heap.size := (by rw [hW46]; simp <;> omega); rw [<- hW46]; clear hW46; have vW46 := uw2.trans uW46; clear uW46 uw2; refine (HC.out _).mono ?_; rintro e w3 ⟨rfl, qw3⟩; have f69 := fz qw3 f49 a1; have f70 := fz qw3 f50 a1; have f71 := fz qw3 f51 a1; have f72 := fz qw3 f52 a1; obtain ⟨a7, b5, b6, b7⟩ := nl4 qw3.size a1 aD aI aN; obtain ⟨aR, aS, aT, aU, aV, aW, aX, aY, aZ, b0, b3, b4⟩ := mv12 qw3.cell a9 aA aB aC aE aF aG aH aJ aK aL aM; clear f49 f50 f51 f52 a1 a9 aA aB aC aD aE aF aI aG aH aN aJ aK aL aM; have uw3 := vW46.trans qw3; clear qw3 vW46; go_wp2_with fail; refine (HC.out _).mono ?_; rintro e w4 ⟨rfl, qw4⟩; have f89 := fz qw4 f69 a7; have f90 := fz qw4 f70 a7; have f91 := fz qw4 f71 a7; have f92 := fz qw4 f72 a7; obtain ⟨bV, bW, bX, bY⟩ := nl4 qw4.size a7 b5 b6 b7; obtain ⟨bJ, bK, bL, bM, bN, bO, bP, bQ, bR, bS, bT, bU⟩ := mv12 qw4.cell aR aS aT aU aV aW aX aY aZ b0 b3 b4; clear f69 f70 f71 f72 a7 aR aS aT aU b5 aV aW b6 aX aY b7 aZ b0 b3 b4; have uw4 := uw3.trans qw4; clear qw4 uw3; go_wp2_with fail; exact bodyPost_ret (v := .tuple #[.agg #[.int .i8 0, .int .i64 0, .int .i8 0, .int .i64 0], .int .i64 m]) (by simp [results, Tryz.results79, go_sem, bJ, bK, bL, bM, bN, bO, bP, bQ, bR, bS, bT, bU, f89, f90, f91, f92] <;> omega) rfl ⟨rfl, ((((uw4.sC).sC).sC).sC)⟩
    ·
      go_wp2_with fail; obtain ⟨W46, hW46⟩ : ∃ W46, W46 = (w2.alloc (.cells #[.int .i8 i2, .int .i64 d2] 41)).alloc (.cells #[.int .i8 i1, .int .i64 d1, .int .i8 i2, .int .i64 d2] 45) := ⟨_, rfl⟩; have uW46 : Dn w2 W46 := (by rw [hW46]; exact ((Dn.refl _).alloc _).alloc _); have n47 : w.heap.size ≠ w2.heap.size := (by have := a0; omega); have n48 : w.heap.size ≠ w2.heap.size + 1 := (by have := a0; omega); have f49 := fz uW46 f34 a0; have f50 := fz uW46 f35 a0; have f51 := fz uW46 f36 a0; have f52 := fz uW46 f37 a0; obtain ⟨a1, aD⟩ := nl2 uW46.size a0 aO; obtain ⟨a9, aA, aB, aC, aE, aF⟩ := mv6 uW46.cell a2 a3 a4 a5 aP aQ; clear f34 f35 f36 f37 a0 a2 a3 a4 a5 aO aP aQ; have aG : W46.cell? ⟨w2.heap.size, 0, none⟩ = some (.int .i8 i2) := (by rw [hW46]; simp [go_sem]); have aH : W46.cell? ⟨w2.heap.size, 1, none⟩ = some (.int .i64 d2) := (by rw [hW46]; simp [go_sem]); have aI : w2.heap.size < W46.heap.size := (by rw [hW46]; simp <;> omega); have aJ : W46.cell? ⟨w2.heap.size + 1, 0, none⟩ = some (.int .i8 i1) := (by rw [hW46]; simp [go_sem]); have aK : W46.cell? ⟨w2.heap.size + 1, 1, none⟩ = some (.int .i64 d1) := (by rw [hW46]; simp [go_sem]); have aL : W46.cell? ⟨w2.heap.size + 1, 2, none⟩ = some (.int .i8 i2) := (by rw [hW46]; simp [go_sem]); have aM : W46.cell? ⟨w2.heap.size + 1, 3, none⟩ = some (.int .i64 d2) := (by rw [hW46]; simp [go_sem]); have aN : w2.heap.size + 1 < W46.heap.size := (by rw [hW46]; simp <;> omega); rw [<- hW46]; clear hW46; have vW46 := uw2.trans uW46; clear uW46 uw2; refine (HC.out _).mono ?_; rintro e w3 ⟨rfl, qw3⟩; have f69 := fz qw3 f49 a1; have f70 := fz qw3 f50 a1; have f71 := fz qw3 f51 a1; have f72 := fz qw3 f52 a1; obtain ⟨a7, b5, b6, b7⟩ := nl4 qw3.size a1 aD aI aN; obtain ⟨aR, aS, aT, aU, aV, aW, aX, aY, aZ, b0, b3, b4⟩ := mv12 qw3.cell a9 aA aB aC aE aF aG aH aJ aK aL aM; clear f49 f50 f51 f52 a1 a9 aA aB aC aD aE aF aI aG aH aN aJ aK aL aM; have uw3 := vW46.trans qw3; clear qw3 vW46; go_wp2_with fail; exact bodyPost_ret (v := .tuple #[.agg #[.int .i8 i1, .int .i64 d1, .int .i8 i2, .int .i64 d2], .int .i64 0]) (by simp [results, Tryz.results79, go_sem, aR, aS, aT, aU, aV, aW, aX, aY, aZ, b0, b3, b4, f69, f70, f71, f72] <;> omega) rfl ⟨rfl, ((((uw3.sC).sC).sC).sC)⟩
theorem ext_size (s : ByteArray) (a b : Nat) : (s.extract a b).size <= s.size := by
 simp [ByteArray.size_extract]; omega
theorem rfParse (s : ByteArray) (q0 q1 q2 q3 r : Int) (w : World) (hs : s.size <= 1000) (h : RP s q0 q1 q2 q3 r) :
   Calls Tryz.prog 79 #[.string s] w fun ro w' => ro = .returned (.tuple #[.agg #[.int .i8 q0, .int .i64 q1, .int .i8 q2, .int .i64 q3], .int .i64 r]) /\ Dn w w' := by
 rcases stop_cases s with ⟨N, hS, hno, hc⟩ | ⟨N, hS, hd, hc, c1, c2⟩
 · rcases h with ⟨_, rfl, rfl, rfl, rfl, rfl⟩ | ⟨h1, _⟩
   · exact rfP_0 s N hs 0 0 0 0 0 0 0 (Lib.hid hS) hno.1 hno.2 w
   · rw [hc] at h1; cases h1
 · rcases h with ⟨h1, _⟩ | ⟨_, i1, d1, r1, i2, d2, r2, h1, h2, hx⟩
   · rw [hc] at h1; cases h1
   · rw [c1] at h1
     rw [c2] at h2; have e1 := ep_err h1; have e2 := ep_err h2; have HA := Lib.hid (fun W => rParse8 _ i1 d1 r1 W (Nat.le_trans (ext_size s _ _) hs) h1); have HB := Lib.hid (fun W => rParse8 _ i2 d2 r2 W (Nat.le_trans (ext_size s _ _) hs) h2); have HC := Lib.hid (rfChk i1 d1 i2 d2); have HS := Lib.hid hS; have HD := Lib.hid hd; rcases hx with ⟨h5, rfl, rfl, rfl, rfl, rfl⟩ | ⟨n1, n2, h0, rfl, rfl, rfl, rfl, rfl⟩ | ⟨rfl, rfl, hk, rfl, rfl, rfl, rfl, rfl⟩ | ⟨rfl, rfl, hk, rfl, rfl, rfl, rfl, rfl⟩
     · by_cases h51 : r1 = 5
       · subst h51; exact rfP_all s N hs i1 d1 _ i2 d2 r2 _ HS HD HA HB HC _ (Lib.hid (.inl ⟨rfl, rfl⟩)) w
       · have h52 : r2 = 5 := by omega
         subst h52; exact rfP_all s N hs i1 d1 r1 i2 d2 _ _ HS HD HA HB HC _ (Lib.hid (.inr (.inl ⟨h51, rfl, rfl⟩))) w
     · by_cases z1 : r1 = 0
       · subst z1; exact rfP_all s N hs i1 d1 _ i2 d2 r2 _ HS HD HA HB HC _ (Lib.hid (.inr (.inr (.inr (.inl ⟨rfl, n2, by omega, rfl⟩))))) w
       · exact rfP_all s N hs i1 d1 r1 i2 d2 r2 _ HS HD HA HB HC _ (Lib.hid (.inr (.inr (.inl ⟨n1, n2, z1, rfl⟩)))) w
     · exact rfP_all s N hs i1 d1 _ i2 d2 _ _ HS HD HA HB HC _ (Lib.hid (.inr (.inr (.inr (.inr (.inl ⟨rfl, rfl, hk, rfl⟩)))))) w
     · rw [hk] at HC
       exact rfP_all s N hs _ _ _ _ _ _ _ HS HD HA HB HC _ (Lib.hid (.inr (.inr (.inr (.inr (.inr ⟨rfl, rfl, rfl, rfl⟩)))))) w
set_option maxHeartbeats 20000000
set_option maxRecDepth 100000
def AtP (s : ByteArray) (k f i : Nat) : Prop :=
 (i <= s.size /\ f <= i /\ (∀ j, f <= j -> j < i -> s.data.toList[j]? ≠ some 44) /\ spl (s.data.toList.drop f) = (spl s.data.toList).drop k /\ k < (spl s.data.toList).length) \/ (i = s.size + 1 /\ f <= i /\ k = (spl s.data.toList).length)
theorem atP_start (s : ByteArray) : AtP s 0 0 0 :=
 .inl ⟨Nat.zero_le _, Nat.le_refl _, fun j h1 h2 => by omega, rfl, List.length_pos_iff.2 (spl_ne _)⟩
theorem atP_skip {s : ByteArray} {k f i : Nat} (h : AtP s k f i) (hi : i < s.size) (hc : s[i] ≠ 44) : AtP s k f (i + 1) := by
 rcases h with ⟨h1, h2, h3, h4, h5⟩ | ⟨h1, _⟩
 · refine .inl ⟨by omega, by omega, fun j hj1 hj2 => ?_, h4, h5⟩
   by_cases e : j = i
   · subst e; rw [dl_at s j hi]; intro e2; exact hc (Option.some.inj e2)
   · exact h3 j hj1 (by omega)
 · omega
theorem atP_comma {s : ByteArray} {k f i : Nat} (h : AtP s k f i) (hi : i < s.size) (hc : s[i] = 44) : (spl s.data.toList)[k]? = some (s.extract f i).data.toList /\ k + 1 < (spl s.data.toList).length /\ AtP s (k + 1) (i + 1) (i + 1) := by
 rcases h with ⟨h1, h2, h3, h4, h5⟩ | ⟨h1, _⟩
 · have h6 := spl_at h2 (by rw [dl_len]; exact hi) h3 (by rw [dl_at s i hi, hc])
   rw [h4] at h6; obtain ⟨g1, g2, g3⟩ := drop_cons h6
   have g4 : k + 1 < (spl s.data.toList).length := by
    by_cases hk : k + 1 < (spl s.data.toList).length
    · exact hk
    · rw [List.drop_eq_nil_of_le (by omega)] at g2; exact absurd g2.symm (spl_ne _)
   exact ⟨by rw [part_list]; exact g1, g4, .inl ⟨by omega, Nat.le_refl _, fun j a b => by omega, g2.symm, g4⟩⟩
 · omega
theorem atP_last {s : ByteArray} {k f i : Nat} (h : AtP s k f i) (hi : i = s.size) : (spl s.data.toList)[k]? = some (s.extract f i).data.toList /\ AtP s (k + 1) (i + 1) (i + 1) := by
 subst hi
 rcases h with ⟨h1, h2, h3, h4, h5⟩ | ⟨h1, _⟩
 · have h6 := spl_last (l := s.data.toList) (a := f) (fun j a b => h3 j a (by rw [<- dl_len]; exact b))
   rw [h4] at h6; obtain ⟨g1, g2, g3⟩ := drop_cons h6; refine ⟨?_, .inr ⟨rfl, Nat.le_refl _, ?_⟩⟩
   · rw [part_list, g1]
     congr 1; rw [List.take_of_length_le (by simp)]
   · have := congrArg List.length g2
     simp at this; omega
 · omega
theorem atP_le {s : ByteArray} {k f i : Nat} (h : AtP s k f i) (hi : i <= s.size) : f <= i := by
 rcases h with ⟨_, h2, _⟩ | ⟨h1, _⟩
 · exact h2
 · omega
theorem atP_b {s : ByteArray} {k f i : Nat} (h : AtP s k f i) : f <= i /\ i <= s.size + 1 := by
 rcases h with ⟨h1, h2, _⟩ | ⟨h1, h2, _⟩ <;> omega
theorem atP_end {s : ByteArray} {k f i : Nat} (h : AtP s k f i) (hi : ¬ i <= s.size) : i = s.size + 1 /\ k = (spl s.data.toList).length := by
 rcases h with ⟨h1, _⟩ | ⟨h1, _, h3⟩
 · omega
 · exact ⟨h1, h3⟩
theorem ne44 {s : ByteArray} {k : Nat} (h : k < s.size) (hne : s[k] ≠ 44) : ((s[k].toNat : Int) != 44) = true := by
 rw [bne_iff_ne]; intro e; exact hne (UInt8.toNat_inj.1 (by simpa using (by exact_mod_cast e : s[k].toNat = 44)))
theorem eq44 {s : ByteArray} {k : Nat} (h : k < s.size) (he : s[k] = 44) : ((s[k].toNat : Int) != 44) = false := by
 rw [he]; rfl
theorem rfParseS (s : ByteArray) (R : List Rq) (E : Int) (w : World) (hs : s.size <= 60000) (hsp : ∀ f ∈ spl s.data.toList, f.length <= 1000) (h : SP s R E) :
   Calls Tryz.prog 35 #[.string s] w fun ro w' => ∃ p' cap', ro = .returned (.tuple #[.slice p' R.length cap', .int .i64 E]) /\ Row w' p' R /\ Dn w w' := by
 rcases h with ⟨rfl, rfl, rfl⟩ | ⟨hne, ys, hy, rfl, rfl⟩
 · unfold noneS at *
   go_enter Tryz.func35, Tryz.ntmps35; go_wp2_with fail; go_ret2
   first | exact ⟨none, 0, rfl, rownil _, Dn.refl _⟩ | exact ⟨none, by simp, rownil _, Dn.refl _⟩
 have e0 : (s.toList == [110, 111, 110, 101]) = false := by
   rw [Bool.eq_false_iff]; intro e; apply hne; apply ByteArray.ext; apply Array.toList_inj.1; rw [<- Lib.toList_data]; exact eq_of_beq e
 have hlen := hy.len
 have hn1 : (spl s.data.toList).length <= s.size + 1 := by have := spl_len s.data.toList; rw [dl_len] at this; exact this
 have HLE := Lib.hid hlen
 clear hlen
 have HY := Lib.hid hy
 have HI6 := Lib.hid (psL_i6 hy)
 have HSP := Lib.hid hsp
 clear hy hsp hne
 go_enter Tryz.func35, Tryz.ntmps35
 go_wp2_with fail
 go_loopw [2, 3, 4, 5, 6, 7] (fun r2 r3 ov ev fv iv wr => r2 = .slice none 0 0 /\ r3 = .int .i64 0 /\ ∃ (k f i : Nat), AtP s k f i /\ k <= ys.length /\ iv = .int .i64 i /\ fv = .int .i64 f /\ ev = .int .i64 (firstE (ys.take k)) /\ Gat ys k /\ OwnQ wr w.heap.size ov ((ys.take k).map (·.1)) /\ Dn w wr) (fun _ _ _ _ _ iv _ => s.size + 1 - (intOf iv).toNat)
 case atStart => exact ⟨rfl, rfl, 0, 0, 0, atP_start s, Nat.zero_le _, rfl, rfl, rfl, (fun y hy => by simp at hy), OwnQ.nil _ _, Dn.refl _⟩
 case round =>
   obtain ⟨rfl, rfl, k, f, i, hat, hk, rfl, rfl, rfl, hg, hown, hu⟩ := hrel; have hfi := atP_b hat; have HAT := Lib.hid hat; have HG := Lib.hid hg; have hfe : firstE (ys.take k) = firstE (ys.take k) := rfl; clear hat hg hfe
   by_cases hle : i <= s.size
   · have d1 : decide ((i : Int) <= s.size) = true := by simp; omega
     have hle2 : f <= i := atP_le HAT.out hle
     by_cases hlt : i < s.size
     · have d2 : decide ((i : Int) < s.size) = true := by simp; omega
       by_cases hec : s[i] = 44
       rotate_left
       · have d3 := ne44 hlt hec
         have HA2 := Lib.hid (atP_skip HAT.out hlt hec); clear hec HAT; go_wp2_with fail; go_roundw
         case rel => exact ⟨rfl, rfl, k, f, i + 1, HA2.out, hk, by simp, rfl, rfl, HG.out, hown, hu⟩
         case measure => simp [intOf]; omega
       · have d3 := eq44 hlt hec
         obtain ⟨hf, hk2, hat2⟩ := atP_comma HAT.out hlt hec; have hkl : k < ys.length := (by have := (List.getElem?_eq_some_iff.1 hf).1; have := HLE.out; omega); obtain ⟨y, hy⟩ : ∃ y, ys[k]? = some y := ⟨ys[k], by simp [hkl]⟩
         have hrp : RP (s.extract f i) y.1.a y.1.b y.1.c y.1.d y.2 := by
           have := HY.out.at_ k _ y hf hy; unfold PsP at this; rwa [toArrS] at this
         have hsz : (s.extract f i).size <= 1000 := by
           have := HSP.out _ (List.mem_of_getElem? hf); rw [Lib.size_eq]; simpa using this
         have HP := Lib.hid (fun W => rfParse (s.extract f i) y.1.a y.1.b y.1.c y.1.d y.2 W hsz hrp); have HYK := Lib.hid hy; have HA2 := Lib.hid hat2; obtain ⟨⟨xa, xb, xc, xd⟩, r⟩ := y; dsimp only at HP; have hol : ((ys.take k).map (·.1)).length <= 1000000 := (by have := HLE.out; simp; omega); obtain ⟨fe, hfe0⟩ : ∃ fe, fe = firstE (ys.take k) := ⟨_, rfl⟩; have hfe := firstE_at HYK.out; rw [<- hfe0] at hfe ⊢; clear hf hrp hsz hy hat2 hfe0
         by_cases h5 : r = 5
         · subst h5
           have HBAD := Lib.hid (gat_bad HYK.out rfl); clear hfe hown; go_wp2_with fail; refine (HP.out _).mono ?_; rintro e w1 ⟨rfl, qw1⟩; have uw1 := hu.trans qw1; clear qw1 hu; go_wp2_with fail; rw [HBAD.out.1, HBAD.out.2]; go_ret2
           first | exact ⟨none, 0, rfl, rownil _, (uw1).alloc _⟩ | exact ⟨none, by simp, rownil _, (uw1).alloc _⟩
         have d5 : (r == 5) = false := (by simpa using h5); have d5' : decide (r = 5) = false := (by simpa using h5); have H5 := Lib.hid h5; clear h5
         by_cases hf0 : fe = 0
         · subst hf0
           rw [if_pos rfl] at hfe; have HFE := Lib.hid hfe; clear hfe; go_wp2_with fail; refine (HP.out _).mono ?_; rintro e w1 ⟨rfl, qw1⟩; replace hown := hown.dn qw1; have uw1 := hu.trans qw1; clear qw1 hu; go_upto_region 10 with fail; obtain ⟨W1, hW1⟩ : ∃ W1, W1 = w1.alloc (.cells #[.int .i8 xa, .int .i64 xb, .int .i8 xc, .int .i64 xd] 45) := ⟨_, rfl⟩; have uW1 : Dn w1 W1 := (by rw [hW1]; exact (Dn.refl _).alloc _); replace hown := hown.dn uW1; have c2 : W1.cell? ⟨w1.heap.size, 0, none⟩ = some (.int .i8 xa) := (by rw [hW1]; simp [go_sem]); have c3 : W1.cell? ⟨w1.heap.size, 1, none⟩ = some (.int .i64 xb) := (by rw [hW1]; simp [go_sem]); have c4 : W1.cell? ⟨w1.heap.size, 2, none⟩ = some (.int .i8 xc) := (by rw [hW1]; simp [go_sem]); have c5 : W1.cell? ⟨w1.heap.size, 3, none⟩ = some (.int .i64 xd) := (by rw [hW1]; simp [go_sem]); have l6 : w1.heap.size < W1.heap.size := (by rw [hW1]; simp <;> omega); rw [<- hW1]; clear hW1; have vW1 := uw1.trans uW1; clear uW1 uw1; go_wp2_with (at_builtin; refine list_run rfl _ _ rfl W1 w.heap.size u4 _ xa xb xc xd rfl hown rfl hol vW1.size ?_); intro v' w' hown' hold hdn; replace hdn := hdn w vW1 rfl; clear hold vW1 hown; go_wp2_with fail; go_roundw
           case rel => exact ⟨rfl, rfl, k + 1, i + 1, i + 1, HA2.out, by omega, by simp, by simp, by rw [HFE.out], gat_step HG.out HYK.out H5.out, by rw [fst_at HYK.out, List.map_take]; exact hown', hdn⟩
           case measure => simp [intOf]; omega
         · rw [if_neg hf0] at hfe
           have HFE := Lib.hid hfe; have d6 : (fe == 0) = false := (by simpa using hf0); have d6' : decide (fe = 0) = false := (by simpa using hf0); clear hfe hf0; go_wp2_with fail; refine (HP.out _).mono ?_; rintro e w1 ⟨rfl, qw1⟩; replace hown := hown.dn qw1; have uw1 := hu.trans qw1; clear qw1 hu; go_upto_region 10 with fail; obtain ⟨W1, hW1⟩ : ∃ W1, W1 = w1.alloc (.cells #[.int .i8 xa, .int .i64 xb, .int .i8 xc, .int .i64 xd] 45) := ⟨_, rfl⟩; have uW1 : Dn w1 W1 := (by rw [hW1]; exact (Dn.refl _).alloc _); replace hown := hown.dn uW1; have c2 : W1.cell? ⟨w1.heap.size, 0, none⟩ = some (.int .i8 xa) := (by rw [hW1]; simp [go_sem]); have c3 : W1.cell? ⟨w1.heap.size, 1, none⟩ = some (.int .i64 xb) := (by rw [hW1]; simp [go_sem]); have c4 : W1.cell? ⟨w1.heap.size, 2, none⟩ = some (.int .i8 xc) := (by rw [hW1]; simp [go_sem]); have c5 : W1.cell? ⟨w1.heap.size, 3, none⟩ = some (.int .i64 xd) := (by rw [hW1]; simp [go_sem]); have l6 : w1.heap.size < W1.heap.size := (by rw [hW1]; simp <;> omega); rw [<- hW1]; clear hW1; have vW1 := uw1.trans uW1; clear uW1 uw1; go_wp2_with (at_builtin; refine list_run rfl _ _ rfl W1 w.heap.size u4 _ xa xb xc xd rfl hown rfl hol vW1.size ?_); intro v' w' hown' hold hdn; replace hdn := hdn w vW1 rfl; clear hold vW1 hown; go_wp2_with fail; go_roundw
           case rel => exact ⟨rfl, rfl, k + 1, i + 1, i + 1, HA2.out, by omega, by simp, by simp, by rw [HFE.out], gat_step HG.out HYK.out H5.out, by rw [fst_at HYK.out, List.map_take]; exact hown', hdn⟩
           case measure => simp [intOf]; omega
     · have d2 : decide ((i : Int) < s.size) = false := by simp; omega
       have HEI := Lib.hid (show i = s.size by omega); obtain ⟨hf, hat2⟩ := atP_last HAT.out HEI.out; have hkl : k < ys.length := (by have := (List.getElem?_eq_some_iff.1 hf).1; have := HLE.out; omega); obtain ⟨y, hy⟩ : ∃ y, ys[k]? = some y := ⟨ys[k], by simp [hkl]⟩
       have hrp : RP (s.extract f i) y.1.a y.1.b y.1.c y.1.d y.2 := by
         have := HY.out.at_ k _ y hf hy; unfold PsP at this; rwa [toArrS] at this
       have hsz : (s.extract f i).size <= 1000 := by
         have := HSP.out _ (List.mem_of_getElem? hf); rw [Lib.size_eq]; simpa using this
       have HP := Lib.hid (fun W => rfParse (s.extract f i) y.1.a y.1.b y.1.c y.1.d y.2 W hsz hrp); have HYK := Lib.hid hy; have HA2 := Lib.hid hat2; obtain ⟨⟨xa, xb, xc, xd⟩, r⟩ := y; dsimp only at HP; have hol : ((ys.take k).map (·.1)).length <= 1000000 := (by have := HLE.out; simp; omega); obtain ⟨fe, hfe0⟩ : ∃ fe, fe = firstE (ys.take k) := ⟨_, rfl⟩; have hfe := firstE_at HYK.out; rw [<- hfe0] at hfe ⊢; clear hf hrp hsz hy hat2 hfe0
       by_cases h5 : r = 5
       · subst h5
         have HBAD := Lib.hid (gat_bad HYK.out rfl); clear hfe hown; go_wp2_with fail; refine (HP.out _).mono ?_; rintro e w1 ⟨rfl, qw1⟩; have uw1 := hu.trans qw1; clear qw1 hu; go_wp2_with fail; rw [HBAD.out.1, HBAD.out.2]; go_ret2
         first | exact ⟨none, 0, rfl, rownil _, (uw1).alloc _⟩ | exact ⟨none, by simp, rownil _, (uw1).alloc _⟩
       have d5 : (r == 5) = false := (by simpa using h5); have d5' : decide (r = 5) = false := (by simpa using h5); have H5 := Lib.hid h5; clear h5
       by_cases hf0 : fe = 0
       · subst hf0
         rw [if_pos rfl] at hfe; have HFE := Lib.hid hfe; clear hfe; go_wp2_with fail; refine (HP.out _).mono ?_; rintro e w1 ⟨rfl, qw1⟩; replace hown := hown.dn qw1; have uw1 := hu.trans qw1; clear qw1 hu; go_upto_region 10 with fail; obtain ⟨W1, hW1⟩ : ∃ W1, W1 = w1.alloc (.cells #[.int .i8 xa, .int .i64 xb, .int .i8 xc, .int .i64 xd] 45) := ⟨_, rfl⟩; have uW1 : Dn w1 W1 := (by rw [hW1]; exact (Dn.refl _).alloc _); replace hown := hown.dn uW1; have c2 : W1.cell? ⟨w1.heap.size, 0, none⟩ = some (.int .i8 xa) := (by rw [hW1]; simp [go_sem]); have c3 : W1.cell? ⟨w1.heap.size, 1, none⟩ = some (.int .i64 xb) := (by rw [hW1]; simp [go_sem]); have c4 : W1.cell? ⟨w1.heap.size, 2, none⟩ = some (.int .i8 xc) := (by rw [hW1]; simp [go_sem]); have c5 : W1.cell? ⟨w1.heap.size, 3, none⟩ = some (.int .i64 xd) := (by rw [hW1]; simp [go_sem]); have l6 : w1.heap.size < W1.heap.size := (by rw [hW1]; simp <;> omega); rw [<- hW1]; clear hW1; have vW1 := uw1.trans uW1; clear uW1 uw1; go_wp2_with (at_builtin; refine list_run rfl _ _ rfl W1 w.heap.size u4 _ xa xb xc xd rfl hown rfl hol vW1.size ?_); intro v' w' hown' hold hdn; replace hdn := hdn w vW1 rfl; clear hold vW1 hown; go_wp2_with fail; go_roundw
         case rel => exact ⟨rfl, rfl, k + 1, i + 1, i + 1, HA2.out, by omega, by simp, by simp, by rw [HFE.out], gat_step HG.out HYK.out H5.out, by rw [fst_at HYK.out, List.map_take]; exact hown', hdn⟩
         case measure => simp [intOf]; omega
       · rw [if_neg hf0] at hfe
         have HFE := Lib.hid hfe; have d6 : (fe == 0) = false := (by simpa using hf0); have d6' : decide (fe = 0) = false := (by simpa using hf0); clear hfe hf0; go_wp2_with fail; refine (HP.out _).mono ?_; rintro e w1 ⟨rfl, qw1⟩; replace hown := hown.dn qw1; have uw1 := hu.trans qw1; clear qw1 hu; go_upto_region 10 with fail; obtain ⟨W1, hW1⟩ : ∃ W1, W1 = w1.alloc (.cells #[.int .i8 xa, .int .i64 xb, .int .i8 xc, .int .i64 xd] 45) := ⟨_, rfl⟩; have uW1 : Dn w1 W1 := (by rw [hW1]; exact (Dn.refl _).alloc _); replace hown := hown.dn uW1; have c2 : W1.cell? ⟨w1.heap.size, 0, none⟩ = some (.int .i8 xa) := (by rw [hW1]; simp [go_sem]); have c3 : W1.cell? ⟨w1.heap.size, 1, none⟩ = some (.int .i64 xb) := (by rw [hW1]; simp [go_sem]); have c4 : W1.cell? ⟨w1.heap.size, 2, none⟩ = some (.int .i8 xc) := (by rw [hW1]; simp [go_sem]); have c5 : W1.cell? ⟨w1.heap.size, 3, none⟩ = some (.int .i64 xd) := (by rw [hW1]; simp [go_sem]); have l6 : w1.heap.size < W1.heap.size := (by rw [hW1]; simp <;> omega); rw [<- hW1]; clear hW1; have vW1 := uw1.trans uW1; clear uW1 uw1; go_wp2_with (at_builtin; refine list_run rfl _ _ rfl W1 w.heap.size u4 _ xa xb xc xd rfl hown rfl hol vW1.size ?_); intro v' w' hown' hold hdn; replace hdn := hdn w vW1 rfl; clear hold vW1 hown; go_wp2_with fail; go_roundw
         case rel => exact ⟨rfl, rfl, k + 1, i + 1, i + 1, HA2.out, by omega, by simp, by simp, by rw [HFE.out], gat_step HG.out HYK.out H5.out, by rw [fst_at HYK.out, List.map_take]; exact hown', hdn⟩
         case measure => simp [intOf]; omega
   · have d1 : decide ((i : Int) <= s.size) = false := by simp; omega
     obtain ⟨hie, hke⟩ := atP_end HAT.out hle; have hkk : k = ys.length := (by rw [hke, HLE.out]); have hol : (ys.map (·.1)).length <= 1000000 := (by have := HLE.out; simp; omega); rw [hkk, List.take_length] at hown ⊢; have hg : NoF ys := (by have := HG.out; unfold Gat at this; rwa [hkk, List.take_length] at this); obtain ⟨fe, hfe⟩ : ∃ fe, fe = firstE ys := ⟨_, rfl⟩; rw [<- hfe]; clear hie hkk hfi hke
     by_cases hf0 : fe = 0
     · have he := prsE_chk hg (hfe.symm.trans hf0)
       subst hf0; have hI6 := HI6.out
       have hr0 : prsE ys = 0 -> prsR ys = ys.map (·.1) := fun h => by unfold prsR; rw [if_pos h]
       generalize ys.map (·.1) = M at hown hI6 hol he hr0; have HR0 := Lib.hid hr0; clear hr0; obtain ⟨p', cap', rfl, hpc, hrow⟩ := hown.rowOf; have HB := Lib.hid (fun W (q : Dn wr W) => rfCheck p' cap' M W hol hI6 (hrow.dn q)); obtain ⟨c, hc⟩ : ∃ c, c = chkL M := ⟨_, rfl⟩; rw [<- hc] at he HB; have HRW := Lib.hid hrow; clear hown hg hfe hrow hc HG HAT hpc hI6
       by_cases hc0 : c = 0
       · subst hc0
         have hr : prsR ys = M := HR0.out he; have HEE := Lib.hid he; have HRR := Lib.hid hr; clear he hr; go_wp2_with fail; refine (HB.out _ (Dn.refl _)).mono ?_; rintro e w1 ⟨rfl, q1⟩; have u1 := hu.trans q1; go_wp2_with fail; rw [HEE.out, HRR.out]; go_ret2
         first | exact ⟨_, _, rfl, HRW.out.dn q1, u1⟩ | exact ⟨_, ⟨_, rfl⟩, HRW.out.dn q1, u1⟩ | exact ⟨_, ⟨_, rfl, rfl⟩, HRW.out.dn q1, u1⟩
       · have hr : prsR ys = [] := prsR_bad (by rw [he]; exact hc0)
         have d6 : (c != 0) = true := (by simpa using hc0); have HEE := Lib.hid he; have HRR := Lib.hid hr; clear he hr hc0; go_wp2_with fail; refine (HB.out _ (Dn.refl _)).mono ?_; rintro e w1 ⟨rfl, q1⟩; have u1 := hu.trans q1; go_wp2_with fail; rw [HEE.out, HRR.out]; go_ret2
         first | exact ⟨none, 0, rfl, rownil _, u1⟩ | exact ⟨none, by simp, rownil _, u1⟩
     · have he := prsE_first hg (by rw [<- hfe]; exact hf0)
       rw [<- hfe] at he; have hr : prsR ys = [] := prsR_bad (by rw [he]; exact hf0); have d6 : (fe == 0) = false := (by simpa using hf0); have d7 : (fe != 0) = true := (by simpa using hf0); have HEE := Lib.hid he; have HRR := Lib.hid hr; clear he hr hfe hf0 hg hown HG HAT; go_wp2_with fail; rw [HEE.out, HRR.out]; go_ret2
       first | exact ⟨none, 0, rfl, rownil _, hu⟩ | exact ⟨none, by simp, rownil _, hu⟩
end Go.Proofs.YtoghoddjkdoohaaGreatDoor
