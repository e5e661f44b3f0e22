/-
  WALKS OF circalaw08: lives. (Printed by wip/gen/law8.py.)
-/
import Derived.Test.YtnibmofbalgobaaDoorEndE
namespace Go.Proofs.YtnibmofbalgobaaDoor
open Go.RowKit
def G8 (i d r j f b : Int) : Prop := (b = 0 ∧ r = 0 ∧ i = j ∧ d = f) ∨ (b ≠ 0 ∧ r = b ∧ i = 0 ∧ d = 0)
instance decG8 (i d r j f b : Int) : Decidable (G8 i d r j f b) := by unfold G8; infer_instance
theorem g8_any (i d r j f b : Int) (w : World) (h : G8 i d r j f b) :
    Calls Tryd.prog 50 #[.agg #[.int .i8 i, .int .i64 d], .int .i64 r, .agg #[.int .i8 j, .int .i64 f], .int .i64 b] w fun e w' => e = .returned (.bool true) ∧ Up w w' := by
  rcases h with ⟨rfl, rfl, rfl, rfl⟩ | ⟨hb, rfl, rfl, rfl⟩
  · exact g8_ok _ _ w
  · exact g8_bad _ _ _ w hb
theorem eCmp_at (i d j f r : Int) (w : World) (h : eC i d j f = r) : Calls Tryd.prog 39 #[.agg #[.int .i8 i, .int .i64 d], .agg #[.int .i8 j, .int .i64 f]] w fun e w' => e = .returned (.int .i64 r) ∧ Up w w' := by
  subst h; exact eCmp i d j f w
theorem eText_at (i d : Int) (s : ByteArray) (w : World) (h : eOk i d) (hd : I64 d) (hs : eStr i d = s) (hE : EnvI w) :
    Calls Tryd.prog 52 #[.agg #[.int .i8 i, .int .i64 d]] w fun e w' => e = .returned (.tuple #[.string s, .int .i64 0]) ∧ Up w w' := by
  subst hs; exact eText_ok i d w h hd hE
theorem kd_12 {W w1 w2 : World} {a0 a1 a2 a3 a4 a5 a6 a7 a8 a9 a10 a11 : Addr} {v0 v1 v2 v3 v4 v5 v6 v7 v8 v9 v10 v11 : Value} (k : Dn w1 w2) (h : Dn W w1 ∧ w1.cell? a0 = some v0 ∧ w1.cell? a1 = some v1 ∧ w1.cell? a2 = some v2 ∧ w1.cell? a3 = some v3 ∧ w1.cell? a4 = some v4 ∧ w1.cell? a5 = some v5 ∧ w1.cell? a6 = some v6 ∧ w1.cell? a7 = some v7 ∧ w1.cell? a8 = some v8 ∧ w1.cell? a9 = some v9 ∧ w1.cell? a10 = some v10 ∧ w1.cell? a11 = some v11) :
    Dn W w2 ∧ w2.cell? a0 = some v0 ∧ w2.cell? a1 = some v1 ∧ w2.cell? a2 = some v2 ∧ w2.cell? a3 = some v3 ∧ w2.cell? a4 = some v4 ∧ w2.cell? a5 = some v5 ∧ w2.cell? a6 = some v6 ∧ w2.cell? a7 = some v7 ∧ w2.cell? a8 = some v8 ∧ w2.cell? a9 = some v9 ∧ w2.cell? a10 = some v10 ∧ w2.cell? a11 = some v11 := by
  obtain ⟨h1, c0, c1, c2, c3, c4, c5, c6, c7, c8, c9, c10, c11⟩ := h
  exact ⟨h1.trans k, k.cell c0, k.cell c1, k.cell c2, k.cell c3, k.cell c4, k.cell c5, k.cell c6, k.cell c7, k.cell c8, k.cell c9, k.cell c10, k.cell c11⟩
set_option maxHeartbeats 8000000 in
set_option maxRecDepth 100000 in
theorem lives8 (w : World) (hE : EnvI w) :
    Calls Tryd.prog 43 #[] w fun e w' => e = .returned (.bool true) ∧ Dn w w' := by
  go_enter Tryd.func43, Tryd.ntmps43
  go_wp2_with fail
  obtain ⟨W1, hW1⟩ : ∃ W1, W1 = (w.alloc (.cells #[.int .i8 (-1), .int .i64 0] 50)).alloc (.cells #[.int .i8 1, .int .i64 0] 50) := ⟨_, rfl⟩
  have uW1 : Dn w W1 := by rw [hW1]; exact ((Dn.refl _).alloc _).alloc _
  have c2 : W1.cell? ⟨w.heap.size, 0, none⟩ = some (.int .i8 (-1)) := by rw [hW1]; simp [go_sem]
  have c3 : W1.cell? ⟨w.heap.size, 1, none⟩ = some (.int .i64 0) := by rw [hW1]; simp [go_sem]
  have l4 : w.heap.size < W1.heap.size := by rw [hW1]; simp <;> omega
  have c5 : W1.cell? ⟨w.heap.size + 1, 0, none⟩ = some (.int .i8 1) := by rw [hW1]; simp [go_sem]
  have c6 : W1.cell? ⟨w.heap.size + 1, 1, none⟩ = some (.int .i64 0) := by rw [hW1]; simp [go_sem]
  have l7 : w.heap.size + 1 < W1.heap.size := by rw [hW1]; simp <;> omega
  rw [← hW1]
  clear hW1
  refine (eOf 9223372036854775807 _).mono ?_
  rintro e w1 ⟨rfl, qw1⟩
  replace qw1 := qw1.dn
  have l8 := Nat.lt_of_lt_of_le l4 qw1.size
  have c9 := qw1.cell c2
  have c10 := qw1.cell c3
  have l11 := Nat.lt_of_lt_of_le l7 qw1.size
  have c12 := qw1.cell c5
  have c13 := qw1.cell c6
  clear l4 c2 c3 l7 c5 c6
  have uw1 := uW1.trans qw1
  clear qw1 uW1
  go_wp2_with fail
  refine (eOf (-9223372036854775808) _).mono ?_
  rintro e w2 ⟨rfl, qw2⟩
  replace qw2 := qw2.dn
  have l14 := Nat.lt_of_lt_of_le l8 qw2.size
  have c15 := qw2.cell c9
  have c16 := qw2.cell c10
  have l17 := Nat.lt_of_lt_of_le l11 qw2.size
  have c18 := qw2.cell c12
  have c19 := qw2.cell c13
  clear l8 c9 c10 l11 c12 c13
  have uw2 := uw1.trans qw2
  clear qw2 uw1
  go_wp2_with fail
  obtain ⟨W20, hW20⟩ : ∃ W20, W20 = (w2.alloc (.cells #[.int .i8 0, .int .i64 9223372036854775807] 50)).alloc (.cells #[.int .i8 0, .int .i64 (-9223372036854775808)] 50) := ⟨_, rfl⟩
  have uW20 : Dn w2 W20 := by rw [hW20]; exact ((Dn.refl _).alloc _).alloc _
  have l21 := Nat.lt_of_lt_of_le l14 uW20.size
  have c22 := uW20.cell c15
  have c23 := uW20.cell c16
  have l24 := Nat.lt_of_lt_of_le l17 uW20.size
  have c25 := uW20.cell c18
  have c26 := uW20.cell c19
  clear l14 c15 c16 l17 c18 c19
  have c27 : W20.cell? ⟨w2.heap.size, 0, none⟩ = some (.int .i8 0) := by rw [hW20]; simp [go_sem]
  have c28 : W20.cell? ⟨w2.heap.size, 1, none⟩ = some (.int .i64 9223372036854775807) := by rw [hW20]; simp [go_sem]
  have l29 : w2.heap.size < W20.heap.size := by rw [hW20]; simp <;> omega
  have c30 : W20.cell? ⟨w2.heap.size + 1, 0, none⟩ = some (.int .i8 0) := by rw [hW20]; simp [go_sem]
  have c31 : W20.cell? ⟨w2.heap.size + 1, 1, none⟩ = some (.int .i64 (-9223372036854775808)) := by rw [hW20]; simp [go_sem]
  have l32 : w2.heap.size + 1 < W20.heap.size := by rw [hW20]; simp <;> omega
  rw [← hW20]
  clear hW20
  have vW20 := uw2.trans uW20
  clear uW20 uw2
  refine (eCmp_at (-1) 0 0 (-9223372036854775808) (-1) _ (by decide)).mono ?_
  rintro e w3 ⟨rfl, qw3⟩
  replace qw3 := qw3.dn
  have l33 := Nat.lt_of_lt_of_le l21 qw3.size
  have c34 := qw3.cell c22
  have c35 := qw3.cell c23
  have l36 := Nat.lt_of_lt_of_le l24 qw3.size
  have c37 := qw3.cell c25
  have c38 := qw3.cell c26
  have l39 := Nat.lt_of_lt_of_le l29 qw3.size
  have c40 := qw3.cell c27
  have c41 := qw3.cell c28
  have l42 := Nat.lt_of_lt_of_le l32 qw3.size
  have c43 := qw3.cell c30
  have c44 := qw3.cell c31
  clear l21 c22 c23 l24 c25 c26 l29 c27 c28 l32 c30 c31
  have uw3 := vW20.trans qw3
  clear qw3 vW20
  go_wp2_with fail
  refine (eCmp_at 1 0 0 9223372036854775807 1 _ (by decide)).mono ?_
  rintro e w4 ⟨rfl, qw4⟩
  replace qw4 := qw4.dn
  have l45 := Nat.lt_of_lt_of_le l33 qw4.size
  have c46 := qw4.cell c34
  have c47 := qw4.cell c35
  have l48 := Nat.lt_of_lt_of_le l36 qw4.size
  have c49 := qw4.cell c37
  have c50 := qw4.cell c38
  have l51 := Nat.lt_of_lt_of_le l39 qw4.size
  have c52 := qw4.cell c40
  have c53 := qw4.cell c41
  have l54 := Nat.lt_of_lt_of_le l42 qw4.size
  have c55 := qw4.cell c43
  have c56 := qw4.cell c44
  clear l33 c34 c35 l36 c37 c38 l39 c40 c41 l42 c43 c44
  have uw4 := uw3.trans qw4
  clear qw4 uw3
  go_wp2_with fail
  refine (eOf 3 _).mono ?_
  rintro e w5 ⟨rfl, qw5⟩
  replace qw5 := qw5.dn
  have l57 := Nat.lt_of_lt_of_le l45 qw5.size
  have c58 := qw5.cell c46
  have c59 := qw5.cell c47
  have l60 := Nat.lt_of_lt_of_le l48 qw5.size
  have c61 := qw5.cell c49
  have c62 := qw5.cell c50
  have l63 := Nat.lt_of_lt_of_le l51 qw5.size
  have c64 := qw5.cell c52
  have c65 := qw5.cell c53
  have l66 := Nat.lt_of_lt_of_le l54 qw5.size
  have c67 := qw5.cell c55
  have c68 := qw5.cell c56
  clear l45 c46 c47 l48 c49 c50 l51 c52 c53 l54 c55 c56
  have uw5 := uw4.trans qw5
  clear qw5 uw4
  go_wp2_with fail
  refine (eOf 3 _).mono ?_
  rintro e w6 ⟨rfl, qw6⟩
  replace qw6 := qw6.dn
  have l69 := Nat.lt_of_lt_of_le l57 qw6.size
  have c70 := qw6.cell c58
  have c71 := qw6.cell c59
  have l72 := Nat.lt_of_lt_of_le l60 qw6.size
  have c73 := qw6.cell c61
  have c74 := qw6.cell c62
  have l75 := Nat.lt_of_lt_of_le l63 qw6.size
  have c76 := qw6.cell c64
  have c77 := qw6.cell c65
  have l78 := Nat.lt_of_lt_of_le l66 qw6.size
  have c79 := qw6.cell c67
  have c80 := qw6.cell c68
  clear l57 c58 c59 l60 c61 c62 l63 c64 c65 l66 c67 c68
  have uw6 := uw5.trans qw6
  clear qw6 uw5
  go_wp2_with fail
  refine (eCmp_at 0 3 0 3 0 _ (by decide)).mono ?_
  rintro e w7 ⟨rfl, qw7⟩
  replace qw7 := qw7.dn
  have l81 := Nat.lt_of_lt_of_le l69 qw7.size
  have c82 := qw7.cell c70
  have c83 := qw7.cell c71
  have l84 := Nat.lt_of_lt_of_le l72 qw7.size
  have c85 := qw7.cell c73
  have c86 := qw7.cell c74
  have l87 := Nat.lt_of_lt_of_le l75 qw7.size
  have c88 := qw7.cell c76
  have c89 := qw7.cell c77
  have l90 := Nat.lt_of_lt_of_le l78 qw7.size
  have c91 := qw7.cell c79
  have c92 := qw7.cell c80
  clear l69 c70 c71 l72 c73 c74 l75 c76 c77 l78 c79 c80
  have uw7 := uw6.trans qw7
  clear qw7 uw6
  go_wp2_with fail
  refine (eOf 5 _).mono ?_
  rintro e w8 ⟨rfl, qw8⟩
  replace qw8 := qw8.dn
  have l93 := Nat.lt_of_lt_of_le l81 qw8.size
  have c94 := qw8.cell c82
  have c95 := qw8.cell c83
  have l96 := Nat.lt_of_lt_of_le l84 qw8.size
  have c97 := qw8.cell c85
  have c98 := qw8.cell c86
  have l99 := Nat.lt_of_lt_of_le l87 qw8.size
  have c100 := qw8.cell c88
  have c101 := qw8.cell c89
  have l102 := Nat.lt_of_lt_of_le l90 qw8.size
  have c103 := qw8.cell c91
  have c104 := qw8.cell c92
  clear l81 c82 c83 l84 c85 c86 l87 c88 c89 l90 c91 c92
  have uw8 := uw7.trans qw8
  clear qw8 uw7
  go_wp2_with fail
  refine (eNext 0 5 0 6 0 _ (by decide) (Or.inr (Or.inr ⟨rfl, rfl, Or.inl ⟨by decide, rfl, rfl⟩⟩))).mono ?_
  rintro e w9 ⟨rfl, qw9⟩
  replace qw9 := qw9.dn
  have l105 := Nat.lt_of_lt_of_le l93 qw9.size
  have c106 := qw9.cell c94
  have c107 := qw9.cell c95
  have l108 := Nat.lt_of_lt_of_le l96 qw9.size
  have c109 := qw9.cell c97
  have c110 := qw9.cell c98
  have l111 := Nat.lt_of_lt_of_le l99 qw9.size
  have c112 := qw9.cell c100
  have c113 := qw9.cell c101
  have l114 := Nat.lt_of_lt_of_le l102 qw9.size
  have c115 := qw9.cell c103
  have c116 := qw9.cell c104
  clear l93 c94 c95 l96 c97 c98 l99 c100 c101 l102 c103 c104
  have uw9 := uw8.trans qw9
  clear qw9 uw8
  go_wp2_with fail
  obtain ⟨W117, hW117⟩ : ∃ W117, W117 = w9.alloc (.cells #[.int .i8 0, .int .i64 6] 50) := ⟨_, rfl⟩
  have uW117 : Dn w9 W117 := by rw [hW117]; exact (Dn.refl _).alloc _
  have l118 := Nat.lt_of_lt_of_le l105 uW117.size
  have c119 := uW117.cell c106
  have c120 := uW117.cell c107
  have l121 := Nat.lt_of_lt_of_le l108 uW117.size
  have c122 := uW117.cell c109
  have c123 := uW117.cell c110
  have l124 := Nat.lt_of_lt_of_le l111 uW117.size
  have c125 := uW117.cell c112
  have c126 := uW117.cell c113
  have l127 := Nat.lt_of_lt_of_le l114 uW117.size
  have c128 := uW117.cell c115
  have c129 := uW117.cell c116
  clear l105 c106 c107 l108 c109 c110 l111 c112 c113 l114 c115 c116
  have c130 : W117.cell? ⟨w9.heap.size, 0, none⟩ = some (.int .i8 0) := by rw [hW117]; simp [go_sem]
  have c131 : W117.cell? ⟨w9.heap.size, 1, none⟩ = some (.int .i64 6) := by rw [hW117]; simp [go_sem]
  have l132 : w9.heap.size < W117.heap.size := by rw [hW117]; simp <;> omega
  rw [← hW117]
  clear hW117
  have vW117 := uw9.trans uW117
  clear uW117 uw9
  refine (eNext 1 0 1 0 0 _ (by decide) (Or.inr (Or.inl ⟨by decide, by decide, rfl, rfl, rfl⟩))).mono ?_
  rintro e w10 ⟨rfl, qw10⟩
  replace qw10 := qw10.dn
  have l133 := Nat.lt_of_lt_of_le l118 qw10.size
  have c134 := qw10.cell c119
  have c135 := qw10.cell c120
  have l136 := Nat.lt_of_lt_of_le l121 qw10.size
  have c137 := qw10.cell c122
  have c138 := qw10.cell c123
  have l139 := Nat.lt_of_lt_of_le l124 qw10.size
  have c140 := qw10.cell c125
  have c141 := qw10.cell c126
  have l142 := Nat.lt_of_lt_of_le l127 qw10.size
  have c143 := qw10.cell c128
  have c144 := qw10.cell c129
  have l145 := Nat.lt_of_lt_of_le l132 qw10.size
  have c146 := qw10.cell c130
  have c147 := qw10.cell c131
  clear l118 c119 c120 l121 c122 c123 l124 c125 c126 l127 c128 c129 l132 c130 c131
  have uw10 := vW117.trans qw10
  clear qw10 vW117
  go_wp2_with fail
  obtain ⟨W148, hW148⟩ : ∃ W148, W148 = w10.alloc (.cells #[.int .i8 1, .int .i64 0] 50) := ⟨_, rfl⟩
  have uW148 : Dn w10 W148 := by rw [hW148]; exact (Dn.refl _).alloc _
  have l149 := Nat.lt_of_lt_of_le l133 uW148.size
  have c150 := uW148.cell c134
  have c151 := uW148.cell c135
  have l152 := Nat.lt_of_lt_of_le l136 uW148.size
  have c153 := uW148.cell c137
  have c154 := uW148.cell c138
  have l155 := Nat.lt_of_lt_of_le l139 uW148.size
  have c156 := uW148.cell c140
  have c157 := uW148.cell c141
  have l158 := Nat.lt_of_lt_of_le l142 uW148.size
  have c159 := uW148.cell c143
  have c160 := uW148.cell c144
  have l161 := Nat.lt_of_lt_of_le l145 uW148.size
  have c162 := uW148.cell c146
  have c163 := uW148.cell c147
  clear l133 c134 c135 l136 c137 c138 l139 c140 c141 l142 c143 c144 l145 c146 c147
  have c164 : W148.cell? ⟨w10.heap.size, 0, none⟩ = some (.int .i8 1) := by rw [hW148]; simp [go_sem]
  have c165 : W148.cell? ⟨w10.heap.size, 1, none⟩ = some (.int .i64 0) := by rw [hW148]; simp [go_sem]
  have l166 : w10.heap.size < W148.heap.size := by rw [hW148]; simp <;> omega
  rw [← hW148]
  clear hW148
  have vW148 := uw10.trans uW148
  clear uW148 uw10
  refine (eNext 0 9223372036854775807 0 0 15 _ (by decide) (Or.inr (Or.inr ⟨rfl, rfl, Or.inr ⟨by decide, rfl, rfl⟩⟩))).mono ?_
  rintro e w11 ⟨rfl, qw11⟩
  replace qw11 := qw11.dn
  have l167 := Nat.lt_of_lt_of_le l149 qw11.size
  have c168 := qw11.cell c150
  have c169 := qw11.cell c151
  have l170 := Nat.lt_of_lt_of_le l152 qw11.size
  have c171 := qw11.cell c153
  have c172 := qw11.cell c154
  have l173 := Nat.lt_of_lt_of_le l155 qw11.size
  have c174 := qw11.cell c156
  have c175 := qw11.cell c157
  have l176 := Nat.lt_of_lt_of_le l158 qw11.size
  have c177 := qw11.cell c159
  have c178 := qw11.cell c160
  have l179 := Nat.lt_of_lt_of_le l161 qw11.size
  have c180 := qw11.cell c162
  have c181 := qw11.cell c163
  have l182 := Nat.lt_of_lt_of_le l166 qw11.size
  have c183 := qw11.cell c164
  have c184 := qw11.cell c165
  clear l149 c150 c151 l152 c153 c154 l155 c156 c157 l158 c159 c160 l161 c162 c163 l166 c164 c165
  have uw11 := vW148.trans qw11
  clear qw11 vW148
  go_wp2_with fail
  obtain ⟨W185, hW185⟩ : ∃ W185, W185 = w11.alloc (.cells #[.int .i8 0, .int .i64 0] 50) := ⟨_, rfl⟩
  have uW185 : Dn w11 W185 := by rw [hW185]; exact (Dn.refl _).alloc _
  have l186 := Nat.lt_of_lt_of_le l167 uW185.size
  have c187 := uW185.cell c168
  have c188 := uW185.cell c169
  have l189 := Nat.lt_of_lt_of_le l170 uW185.size
  have c190 := uW185.cell c171
  have c191 := uW185.cell c172
  have l192 := Nat.lt_of_lt_of_le l173 uW185.size
  have c193 := uW185.cell c174
  have c194 := uW185.cell c175
  have l195 := Nat.lt_of_lt_of_le l176 uW185.size
  have c196 := uW185.cell c177
  have c197 := uW185.cell c178
  have l198 := Nat.lt_of_lt_of_le l179 uW185.size
  have c199 := uW185.cell c180
  have c200 := uW185.cell c181
  have l201 := Nat.lt_of_lt_of_le l182 uW185.size
  have c202 := uW185.cell c183
  have c203 := uW185.cell c184
  clear l167 c168 c169 l170 c171 c172 l173 c174 c175 l176 c177 c178 l179 c180 c181 l182 c183 c184
  have c204 : W185.cell? ⟨w11.heap.size, 0, none⟩ = some (.int .i8 0) := by rw [hW185]; simp [go_sem]
  have c205 : W185.cell? ⟨w11.heap.size, 1, none⟩ = some (.int .i64 0) := by rw [hW185]; simp [go_sem]
  have l206 : w11.heap.size < W185.heap.size := by rw [hW185]; simp <;> omega
  rw [← hW185]
  clear hW185
  have vW185 := uw11.trans uW185
  clear uW185 uw11
  refine (ePrev 0 (-9223372036854775808) 0 0 15 _ (by decide) (Or.inr (Or.inr ⟨rfl, rfl, Or.inr ⟨by decide, rfl, rfl⟩⟩))).mono ?_
  rintro e w12 ⟨rfl, qw12⟩
  replace qw12 := qw12.dn
  have l207 := Nat.lt_of_lt_of_le l186 qw12.size
  have c208 := qw12.cell c187
  have c209 := qw12.cell c188
  have l210 := Nat.lt_of_lt_of_le l189 qw12.size
  have c211 := qw12.cell c190
  have c212 := qw12.cell c191
  have l213 := Nat.lt_of_lt_of_le l192 qw12.size
  have c214 := qw12.cell c193
  have c215 := qw12.cell c194
  have l216 := Nat.lt_of_lt_of_le l195 qw12.size
  have c217 := qw12.cell c196
  have c218 := qw12.cell c197
  have l219 := Nat.lt_of_lt_of_le l198 qw12.size
  have c220 := qw12.cell c199
  have c221 := qw12.cell c200
  have l222 := Nat.lt_of_lt_of_le l201 qw12.size
  have c223 := qw12.cell c202
  have c224 := qw12.cell c203
  have l225 := Nat.lt_of_lt_of_le l206 qw12.size
  have c226 := qw12.cell c204
  have c227 := qw12.cell c205
  clear l186 c187 c188 l189 c190 c191 l192 c193 c194 l195 c196 c197 l198 c199 c200 l201 c202 c203 l206 c204 c205
  have uw12 := vW185.trans qw12
  clear qw12 vW185
  go_wp2_with fail
  obtain ⟨W228, hW228⟩ : ∃ W228, W228 = w12.alloc (.cells #[.int .i8 0, .int .i64 0] 50) := ⟨_, rfl⟩
  have uW228 : Dn w12 W228 := by rw [hW228]; exact (Dn.refl _).alloc _
  have l229 := Nat.lt_of_lt_of_le l207 uW228.size
  have c230 := uW228.cell c208
  have c231 := uW228.cell c209
  have l232 := Nat.lt_of_lt_of_le l210 uW228.size
  have c233 := uW228.cell c211
  have c234 := uW228.cell c212
  have l235 := Nat.lt_of_lt_of_le l213 uW228.size
  have c236 := uW228.cell c214
  have c237 := uW228.cell c215
  have l238 := Nat.lt_of_lt_of_le l216 uW228.size
  have c239 := uW228.cell c217
  have c240 := uW228.cell c218
  have l241 := Nat.lt_of_lt_of_le l219 uW228.size
  have c242 := uW228.cell c220
  have c243 := uW228.cell c221
  have l244 := Nat.lt_of_lt_of_le l222 uW228.size
  have c245 := uW228.cell c223
  have c246 := uW228.cell c224
  have l247 := Nat.lt_of_lt_of_le l225 uW228.size
  have c248 := uW228.cell c226
  have c249 := uW228.cell c227
  clear l207 c208 c209 l210 c211 c212 l213 c214 c215 l216 c217 c218 l219 c220 c221 l222 c223 c224 l225 c226 c227
  have c250 : W228.cell? ⟨w12.heap.size, 0, none⟩ = some (.int .i8 0) := by rw [hW228]; simp [go_sem]
  have c251 : W228.cell? ⟨w12.heap.size, 1, none⟩ = some (.int .i64 0) := by rw [hW228]; simp [go_sem]
  have l252 : w12.heap.size < W228.heap.size := by rw [hW228]; simp <;> omega
  rw [← hW228]
  clear hW228
  have vW228 := uw12.trans uW228
  clear uW228 uw12
  clear c236 c237 l235
  clear c239 c240 l238
  have hS253 := kd_12 (W := W228) (Dn.refl _) ⟨Dn.refl _, c230, c231, c233, c234, c242, c243, c245, c246, c248, c249, c250, c251⟩
  have HShS253 := Lib.hid hS253
  clear c230 c231 c233 c234 c242 c243 c245 c246 c248 c249 c250 c251
  go_region_held3 (fun w' => Dn W228 w' ∧ w'.cell? ⟨w.heap.size, 0, none⟩ = some (.int .i8 (-1)) ∧ w'.cell? ⟨w.heap.size, 1, none⟩ = some (.int .i64 0) ∧ w'.cell? ⟨w.heap.size + 1, 0, none⟩ = some (.int .i8 1) ∧ w'.cell? ⟨w.heap.size + 1, 1, none⟩ = some (.int .i64 0) ∧ w'.cell? ⟨w9.heap.size, 0, none⟩ = some (.int .i8 0) ∧ w'.cell? ⟨w9.heap.size, 1, none⟩ = some (.int .i64 6) ∧ w'.cell? ⟨w10.heap.size, 0, none⟩ = some (.int .i8 1) ∧ w'.cell? ⟨w10.heap.size, 1, none⟩ = some (.int .i64 0) ∧ w'.cell? ⟨w11.heap.size, 0, none⟩ = some (.int .i8 0) ∧ w'.cell? ⟨w11.heap.size, 1, none⟩ = some (.int .i64 0) ∧ w'.cell? ⟨w12.heap.size, 0, none⟩ = some (.int .i8 0) ∧ w'.cell? ⟨w12.heap.size, 1, none⟩ = some (.int .i64 0))
    (first | exact kd_12 ((Dn.refl _).drew) hS253 | exact kd_12 ‹Dn _ _› ‹_› | exact kd_12 (Up.dn ‹Up _ _›) ‹_› | assumption)
    (first
      | (go_at_call 51; refine (eOf _ _).mono ?_; rintro e wa ⟨rfl, qa⟩; replace qa := Up.dn qa)
      | (go_at_call 50; refine (g8_any _ _ _ _ _ _ _ ?_).mono ?_; decide; rintro e wa ⟨rfl, qa⟩; replace qa := Up.dn qa)
      | (go_at_call 41; refine (eMin_1 (-1) 0 0 3 _ (by decide)).mono ?_; rintro e wa ⟨rfl, qa⟩; replace qa := Up.dn qa)
      | (go_at_call 42; refine (eMax_2 0 4 1 0 _ (by decide)).mono ?_; rintro e wa ⟨rfl, qa⟩; replace qa := Up.dn qa))
  all_goals
    clear hS253
    obtain ⟨uf266, c254, c255, c256, c257, c258, c259, c260, c261, c262, c263, c264, c265⟩ := (‹Dn W228 _ ∧ _› : _ ∧ _)
    obtain ⟨w267, rfl⟩ : ∃ w267 : World, w267 = wa := ⟨_, rfl⟩
    have l268 := Nat.lt_of_lt_of_le l229 uf266.size
    clear l229
    have l269 := Nat.lt_of_lt_of_le l232 uf266.size
    clear l232
    have l270 := Nat.lt_of_lt_of_le l241 uf266.size
    clear l241
    have l271 := Nat.lt_of_lt_of_le l244 uf266.size
    clear l244
    have l272 := Nat.lt_of_lt_of_le l247 uf266.size
    clear l247
    have l273 := Nat.lt_of_lt_of_le l252 uf266.size
    clear l252
    have vuf266 := vW228.trans uf266
    clear uf266 vW228 HShS253
    clear c258 c259 l270
    clear c260 c261 l271
    clear c262 c263 l272
    clear c264 c265 l273
    go_wp2_with fail
    refine (eOf (-7) _).mono ?_
    rintro e w13 ⟨rfl, qw13⟩
    replace qw13 := qw13.dn
    have l274 := Nat.lt_of_lt_of_le l268 qw13.size
    have c275 := qw13.cell c254
    have c276 := qw13.cell c255
    have l277 := Nat.lt_of_lt_of_le l269 qw13.size
    have c278 := qw13.cell c256
    have c279 := qw13.cell c257
    clear l268 c254 c255 l269 c256 c257
    have uw13 := vuf266.trans qw13
    clear qw13 vuf266
    go_wp2_with fail
    refine (eText_at 0 (-7) ⟨#[45, 55]⟩ _ (by decide) (by decide) (by decide +kernel) (hE.dn uw13)).mono ?_
    rintro e w14 ⟨rfl, qw14⟩
    replace qw14 := qw14.dn
    have l280 := Nat.lt_of_lt_of_le l274 qw14.size
    have c281 := qw14.cell c275
    have c282 := qw14.cell c276
    have l283 := Nat.lt_of_lt_of_le l277 qw14.size
    have c284 := qw14.cell c278
    have c285 := qw14.cell c279
    clear l274 c275 c276 l277 c278 c279
    have uw14 := uw13.trans qw14
    clear qw14 uw13
    go_wp2_with fail
    refine (eText_at (-1) 0 ⟨#[45, 105, 110, 102]⟩ _ (by decide) (by decide) (by decide +kernel) (hE.dn uw14)).mono ?_
    rintro e w15 ⟨rfl, qw15⟩
    replace qw15 := qw15.dn
    have l286 := Nat.lt_of_lt_of_le l280 qw15.size
    have c287 := qw15.cell c281
    have c288 := qw15.cell c282
    have l289 := Nat.lt_of_lt_of_le l283 qw15.size
    have c290 := qw15.cell c284
    have c291 := qw15.cell c285
    clear l280 c281 c282 l283 c284 c285
    have uw15 := uw14.trans qw15
    clear qw15 uw14
    go_wp2_with fail
    refine (eParse ⟨#[105, 110, 102]⟩ 1 0 0 _ (by decide) (Or.inl ⟨rfl, rfl, rfl, rfl⟩) (hE.dn uw15)).mono ?_
    rintro e w16 ⟨rfl, qw16⟩
    have l292 := Nat.lt_of_lt_of_le l286 qw16.size
    have c293 := qw16.cell c287
    have c294 := qw16.cell c288
    have l295 := Nat.lt_of_lt_of_le l289 qw16.size
    have c296 := qw16.cell c290
    have c297 := qw16.cell c291
    clear l286 c287 c288 l289 c290 c291
    have uw16 := uw15.trans qw16
    clear qw16 uw15
    go_wp2_with fail
    obtain ⟨W298, hW298⟩ : ∃ W298, W298 = w16.alloc (.cells #[.int .i8 1, .int .i64 0] 50) := ⟨_, rfl⟩
    have uW298 : Dn w16 W298 := by rw [hW298]; exact (Dn.refl _).alloc _
    have l299 := Nat.lt_of_lt_of_le l292 uW298.size
    have c300 := uW298.cell c293
    have c301 := uW298.cell c294
    have l302 := Nat.lt_of_lt_of_le l295 uW298.size
    have c303 := uW298.cell c296
    have c304 := uW298.cell c297
    clear l292 c293 c294 l295 c296 c297
    have c305 : W298.cell? ⟨w16.heap.size, 0, none⟩ = some (.int .i8 1) := by rw [hW298]; simp [go_sem]
    have c306 : W298.cell? ⟨w16.heap.size, 1, none⟩ = some (.int .i64 0) := by rw [hW298]; simp [go_sem]
    have l307 : w16.heap.size < W298.heap.size := by rw [hW298]; simp <;> omega
    rw [← hW298]
    clear hW298
    have vW298 := uw16.trans uW298
    clear uW298 uw16
    refine (eParse ⟨#[43, 105, 110, 102]⟩ 0 0 5 _ (by decide) (Or.inr (Or.inr ⟨by decide, by decide, rfl, Or.inr ⟨by decide +kernel, rfl, rfl⟩⟩)) (hE.dn vW298)).mono ?_
    rintro e w17 ⟨rfl, qw17⟩
    have l308 := Nat.lt_of_lt_of_le l299 qw17.size
    have c309 := qw17.cell c300
    have c310 := qw17.cell c301
    have l311 := Nat.lt_of_lt_of_le l302 qw17.size
    have c312 := qw17.cell c303
    have c313 := qw17.cell c304
    have l314 := Nat.lt_of_lt_of_le l307 qw17.size
    have c315 := qw17.cell c305
    have c316 := qw17.cell c306
    clear l299 c300 c301 l302 c303 c304 l307 c305 c306
    have uw17 := vW298.trans qw17
    clear qw17 vW298
    go_wp2_with fail
    obtain ⟨W317, hW317⟩ : ∃ W317, W317 = w17.alloc (.cells #[.int .i8 0, .int .i64 0] 50) := ⟨_, rfl⟩
    have uW317 : Dn w17 W317 := by rw [hW317]; exact (Dn.refl _).alloc _
    have l318 := Nat.lt_of_lt_of_le l308 uW317.size
    have c319 := uW317.cell c309
    have c320 := uW317.cell c310
    have l321 := Nat.lt_of_lt_of_le l311 uW317.size
    have c322 := uW317.cell c312
    have c323 := uW317.cell c313
    have l324 := Nat.lt_of_lt_of_le l314 uW317.size
    have c325 := uW317.cell c315
    have c326 := uW317.cell c316
    clear l308 c309 c310 l311 c312 c313 l314 c315 c316
    have c327 : W317.cell? ⟨w17.heap.size, 0, none⟩ = some (.int .i8 0) := by rw [hW317]; simp [go_sem]
    have c328 : W317.cell? ⟨w17.heap.size, 1, none⟩ = some (.int .i64 0) := by rw [hW317]; simp [go_sem]
    have l329 : w17.heap.size < W317.heap.size := by rw [hW317]; simp <;> omega
    rw [← hW317]
    clear hW317
    have vW317 := uw17.trans uW317
    clear uW317 uw17
    refine (eParse ⟨#[57, 50, 50, 51, 51, 55, 50, 48, 51, 54, 56, 53, 52, 55, 55, 53, 56, 48, 56]⟩ 0 0 15 _ (by decide) (Or.inr (Or.inr ⟨by decide, by decide, rfl, Or.inl ⟨by decide +kernel, Or.inr ⟨by decide +kernel, rfl, rfl⟩⟩⟩)) (hE.dn vW317)).mono ?_
    rintro e w18 ⟨rfl, qw18⟩
    have l330 := Nat.lt_of_lt_of_le l318 qw18.size
    have c331 := qw18.cell c319
    have c332 := qw18.cell c320
    have l333 := Nat.lt_of_lt_of_le l321 qw18.size
    have c334 := qw18.cell c322
    have c335 := qw18.cell c323
    have l336 := Nat.lt_of_lt_of_le l324 qw18.size
    have c337 := qw18.cell c325
    have c338 := qw18.cell c326
    have l339 := Nat.lt_of_lt_of_le l329 qw18.size
    have c340 := qw18.cell c327
    have c341 := qw18.cell c328
    clear l318 c319 c320 l321 c322 c323 l324 c325 c326 l329 c327 c328
    have uw18 := vW317.trans qw18
    clear qw18 vW317
    go_wp2_with fail
    obtain ⟨W342, hW342⟩ : ∃ W342, W342 = w18.alloc (.cells #[.int .i8 0, .int .i64 0] 50) := ⟨_, rfl⟩
    have uW342 : Dn w18 W342 := by rw [hW342]; exact (Dn.refl _).alloc _
    have l343 := Nat.lt_of_lt_of_le l330 uW342.size
    have c344 := uW342.cell c331
    have c345 := uW342.cell c332
    have l346 := Nat.lt_of_lt_of_le l333 uW342.size
    have c347 := uW342.cell c334
    have c348 := uW342.cell c335
    have l349 := Nat.lt_of_lt_of_le l336 uW342.size
    have c350 := uW342.cell c337
    have c351 := uW342.cell c338
    have l352 := Nat.lt_of_lt_of_le l339 uW342.size
    have c353 := uW342.cell c340
    have c354 := uW342.cell c341
    clear l330 c331 c332 l333 c334 c335 l336 c337 c338 l339 c340 c341
    have c355 : W342.cell? ⟨w18.heap.size, 0, none⟩ = some (.int .i8 0) := by rw [hW342]; simp [go_sem]
    have c356 : W342.cell? ⟨w18.heap.size, 1, none⟩ = some (.int .i64 0) := by rw [hW342]; simp [go_sem]
    have l357 : w18.heap.size < W342.heap.size := by rw [hW342]; simp <;> omega
    rw [← hW342]
    clear hW342
    have vW342 := uw18.trans uW342
    clear uW342 uw18
    refine (g8_ok 1 0 _).mono ?_
    rintro e w19 ⟨rfl, qw19⟩
    replace qw19 := qw19.dn
    have l358 := Nat.lt_of_lt_of_le l343 qw19.size
    have c359 := qw19.cell c344
    have c360 := qw19.cell c345
    have l361 := Nat.lt_of_lt_of_le l346 qw19.size
    have c362 := qw19.cell c347
    have c363 := qw19.cell c348
    have l364 := Nat.lt_of_lt_of_le l349 qw19.size
    have c365 := qw19.cell c350
    have c366 := qw19.cell c351
    have l367 := Nat.lt_of_lt_of_le l352 qw19.size
    have c368 := qw19.cell c353
    have c369 := qw19.cell c354
    have l370 := Nat.lt_of_lt_of_le l357 qw19.size
    have c371 := qw19.cell c355
    have c372 := qw19.cell c356
    clear l343 c344 c345 l346 c347 c348 l349 c350 c351 l352 c353 c354 l357 c355 c356
    have uw19 := vW342.trans qw19
    clear qw19 vW342
    go_wp2_with fail
    refine (g8_bad (-1) 0 5 _ (by decide)).mono ?_
    rintro e w20 ⟨rfl, qw20⟩
    replace qw20 := qw20.dn
    have l373 := Nat.lt_of_lt_of_le l358 qw20.size
    have c374 := qw20.cell c359
    have c375 := qw20.cell c360
    have l376 := Nat.lt_of_lt_of_le l361 qw20.size
    have c377 := qw20.cell c362
    have c378 := qw20.cell c363
    have l379 := Nat.lt_of_lt_of_le l364 qw20.size
    have c380 := qw20.cell c365
    have c381 := qw20.cell c366
    have l382 := Nat.lt_of_lt_of_le l367 qw20.size
    have c383 := qw20.cell c368
    have c384 := qw20.cell c369
    have l385 := Nat.lt_of_lt_of_le l370 qw20.size
    have c386 := qw20.cell c371
    have c387 := qw20.cell c372
    clear l358 c359 c360 l361 c362 c363 l364 c365 c366 l367 c368 c369 l370 c371 c372
    have uw20 := uw19.trans qw20
    clear qw20 uw19
    go_wp2_with fail
    refine (g8_bad (-1) 0 15 _ (by decide)).mono ?_
    rintro e w21 ⟨rfl, qw21⟩
    replace qw21 := qw21.dn
    have l388 := Nat.lt_of_lt_of_le l373 qw21.size
    have c389 := qw21.cell c374
    have c390 := qw21.cell c375
    have l391 := Nat.lt_of_lt_of_le l376 qw21.size
    have c392 := qw21.cell c377
    have c393 := qw21.cell c378
    have l394 := Nat.lt_of_lt_of_le l379 qw21.size
    have c395 := qw21.cell c380
    have c396 := qw21.cell c381
    have l397 := Nat.lt_of_lt_of_le l382 qw21.size
    have c398 := qw21.cell c383
    have c399 := qw21.cell c384
    have l400 := Nat.lt_of_lt_of_le l385 qw21.size
    have c401 := qw21.cell c386
    have c402 := qw21.cell c387
    clear l373 c374 c375 l376 c377 c378 l379 c380 c381 l382 c383 c384 l385 c386 c387
    have uw21 := uw20.trans qw21
    clear qw21 uw20
    go_wp2_with fail
    refine (eChk_bad 2 0 _ (by decide)).mono ?_
    rintro e w22 ⟨rfl, qw22⟩
    replace qw22 := qw22.dn
    have l403 := Nat.lt_of_lt_of_le l388 qw22.size
    have c404 := qw22.cell c389
    have c405 := qw22.cell c390
    have l406 := Nat.lt_of_lt_of_le l391 qw22.size
    have c407 := qw22.cell c392
    have c408 := qw22.cell c393
    have l409 := Nat.lt_of_lt_of_le l394 qw22.size
    have c410 := qw22.cell c395
    have c411 := qw22.cell c396
    have l412 := Nat.lt_of_lt_of_le l397 qw22.size
    have c413 := qw22.cell c398
    have c414 := qw22.cell c399
    have l415 := Nat.lt_of_lt_of_le l400 qw22.size
    have c416 := qw22.cell c401
    have c417 := qw22.cell c402
    clear l388 c389 c390 l391 c392 c393 l394 c395 c396 l397 c398 c399 l400 c401 c402
    have uw22 := uw21.trans qw22
    clear qw22 uw21
    go_wp2_with fail
    refine (eChk_bad 1 5 _ (by decide)).mono ?_
    rintro e w23 ⟨rfl, qw23⟩
    replace qw23 := qw23.dn
    have l418 := Nat.lt_of_lt_of_le l403 qw23.size
    have c419 := qw23.cell c404
    have c420 := qw23.cell c405
    have l421 := Nat.lt_of_lt_of_le l406 qw23.size
    have c422 := qw23.cell c407
    have c423 := qw23.cell c408
    have l424 := Nat.lt_of_lt_of_le l409 qw23.size
    have c425 := qw23.cell c410
    have c426 := qw23.cell c411
    have l427 := Nat.lt_of_lt_of_le l412 qw23.size
    have c428 := qw23.cell c413
    have c429 := qw23.cell c414
    have l430 := Nat.lt_of_lt_of_le l415 qw23.size
    have c431 := qw23.cell c416
    have c432 := qw23.cell c417
    clear l403 c404 c405 l406 c407 c408 l409 c410 c411 l412 c413 c414 l415 c416 c417
    have uw23 := uw22.trans qw23
    clear qw23 uw22
    go_wp2_with fail
    go_ret
    exact ⟨rfl, uw23⟩
end Go.Proofs.YtnibmofbalgobaaDoor
