/-
  circa/runs.Touch: its leaves joined.
-/
import Derived.Test.YtcdkeiolblifkaaDoorRunB
namespace Go.Proofs.YtcdkeiolblifkaaDoor
open Go.RowKit
theorem rnTouch (a b c d e f g h : Int) (w : World) (hb : I64 b) (hd : I64 d) (hf : I64 f) (hh : I64 h) :
    Calls Tryd.prog 12 #[.agg #[.int .i8 a, .int .i64 b, .int .i8 c, .int .i64 d], .agg #[.int .i8 e, .int .i64 f, .int .i8 g, .int .i64 h]] w fun r w' => r = .returned (.bool (decide (Tch a b c d e f g h))) ∧ Dn w w' := by
  have HR := Lib.hid (fun W => rnRight a b c d e f g h W hb hd hf hh)
  by_cases h0 : RnOk a b c d ∧ RnOk e f g h
  · rw [decide_eq_true h0] at HR
    obtain ⟨⟨o1, o2, o3, o4, o5⟩, p1, p2, p3, p4, p5⟩ := h0
    have hT : Tch a b c d e f g h ↔ key e f ≤ key c d + 1 ∧ key a b ≤ key g h + 1 := ⟨fun hc => hc.2.2, fun hc => ⟨⟨o1, o2, o3, o4, o5⟩, ⟨p1, p2, p3, p4, p5⟩, hc⟩⟩
    have k1 := eC_lt (i := e) (j := a) hf hb
    have H1 := Lib.hid (fun W => eCmp e f a b W)
    by_cases hm : eC e f a b < 0
    · have k2 := eC_le (i := a) (j := g) hb hh
      have H2 := Lib.hid (fun W => eCmp a b g h W)
      by_cases hn : eC a b g h ≤ 0
      · rw [decide_eq_true (hT.2 (by unfold key at *; omega))]
        exact rnTch_1le a b c d e f g h _ _ HR H1 H2 hm hn w
      · have hg : g = 0 := by unfold eOk key I64 at *; omega
        subst hg
        have hfit : I64 (h + 1) := by unfold eOk key I64 at *; omega
        have HN := Lib.hid (fun W => eNext 0 h 0 (h + 1) 0 W hh (Or.inr (Or.inr ⟨rfl, rfl, Or.inl ⟨hfit, rfl, rfl⟩⟩)))
        by_cases hq : a = 0 ∧ h + 1 = b
        · rw [decide_eq_true (hT.2 (by unfold key at *; omega))]
          exact rnTch_1eq a b c d e f 0 h _ _ HR H1 H2 hm hn HN hq.1 hq.2 w
        · have ha : a = 0 := by unfold eOk key I64 at *; omega
          rw [decide_eq_false (fun hc => by have := hT.1 hc; unfold key at *; omega)]
          exact rnTch_1nd a b c d e f 0 h _ _ HR H1 H2 hm hn HN (fun hc => hq ⟨ha, hc⟩) w
    · have k2 := eC_le (i := e) (j := c) hf hd
      have H2 := Lib.hid (fun W => eCmp e f c d W)
      by_cases hn : eC e f c d ≤ 0
      · rw [decide_eq_true (hT.2 (by unfold key at *; omega))]
        exact rnTch_0le a b c d e f g h _ _ HR H1 H2 hm hn w
      · have hg : c = 0 := by unfold eOk key I64 at *; omega
        subst hg
        have hfit : I64 (d + 1) := by unfold eOk key I64 at *; omega
        have HN := Lib.hid (fun W => eNext 0 d 0 (d + 1) 0 W hd (Or.inr (Or.inr ⟨rfl, rfl, Or.inl ⟨hfit, rfl, rfl⟩⟩)))
        by_cases hq : e = 0 ∧ d + 1 = f
        · rw [decide_eq_true (hT.2 (by unfold key at *; omega))]
          exact rnTch_0eq a b 0 d e f g h _ _ HR H1 H2 hm hn HN hq.1 hq.2 w
        · have ha : e = 0 := by unfold eOk key I64 at *; omega
          rw [decide_eq_false (fun hc => by have := hT.1 hc; unfold key at *; omega)]
          exact rnTch_0nd a b 0 d e f g h _ _ HR H1 H2 hm hn HN (fun hc => hq ⟨ha, hc⟩) w
  · rw [decide_eq_false h0] at HR
    rw [decide_eq_false (fun hc : Tch a b c d e f g h => h0 ⟨hc.1, hc.2.1⟩)]
    exact rnTch_no a b c d e f g h HR w
end Go.Proofs.YtcdkeiolblifkaaDoor
