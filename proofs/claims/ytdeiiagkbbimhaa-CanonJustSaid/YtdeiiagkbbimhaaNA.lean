/- Part of the proof that is named in YtdeiiagkbbimhaaNRowCanJust: a library for walks, or a function's walk. -/
import Derived.Test.YtdeiiagkbbimhaaNFacts
set_option maxRecDepth 20000
set_option linter.unusedSimpArgs false
set_option linter.unusedVariables false
namespace Go.Proofs.Ytdeiiagkbbimhaa
open Go.RowKit Go.Gw
theorem kid_any {va : Value} {l : List Nd} {F : Nat → Prop} {w : World} (hl : Sl Kd.node w F va l) {i c : Int} (h0 : 0 ≤ i) (hi : i < l.length) (hv : 1 ≤ (ix l i).lv ∧ (ix l i).lv ≤ 1329) :
    Calls Try.prog 25 [va, .int .i64 i, .int .i64 c].toArray w (Pure w fun v _ => v = .bool (kidB l i c)) := by
  have hb0 := Below.refl w.heap.size w
  have hln1 := hl.lenle
  refine enter Try.func25 rfl rfl ?_
  refine w_seq ?_
  refine w_region ?_
  refine st (s_assign rfl ?_)
  refine r_end ?_
  refine n_then ?_
  refine w_seq ?_
  refine w_region ?_
  refine st (s_move rfl ?_)
  refine st (s_move rfl ?_)
  refine st (s_idx sl22 rfl rfl (hl.at0 hb0) (by omega) (by omega) ?_)
  rintro b1 o1 _ ⟨rfl, _⟩ hc1 hF1 hlt1
  have hl_1 := Loc.lt hF1
  refine st (s_loadW row35 rfl hc1 rfl ?_)
  refine st (s_alloc zero35 ?_)
  intro g1 w1 hg1 hB1 k1 hs1
  have hb1 := below_g0 hb0 k1
  refine st0 (s_storeN row35 rfl rfl hB1 rfl rfl rfl ?_)
  intro w2 hB2 k2 hs2
  have hb2 := below_g hb1 k2 (by omega)
  clear hB1
  refine r_end ?_
  refine n_then ?_
  refine w_seq ?_
  refine w_block ?_
  refine w_seq ?_
  refine w_region ?_
  refine st (s_move rfl ?_)
  refine st (s_eq rfl rfl ?_)
  refine st (s_assign rfl ?_)
  refine r_end ?_
  refine n_then ?_
  refine w_condP rfl (fun h1 => ?_) (fun h1 => ?_)
  · refine w_seq ?_
    refine w_region ?_
    refine st (s_assign rfl ?_)
    refine r_end ?_
    refine n_then ?_
    refine w_ret1 rfl rfl ?_
    exact ⟨_, rfl, hb2, by simp [kidB, h1]⟩
  · refine w_seq ?_
    refine w_region ?_
    refine st (s_faddr fld35_0 rfl ?_)
    refine st (s_load one3 rfl hB2.range (j := 0) rfl ?_)
    refine st (s_eq rfl rfl ?_)
    refine st (s_assign rfl ?_)
    refine r_end ?_
    refine n_then ?_
    refine w_condP rfl (fun h2 => ?_) (fun h2 => ?_)
    · refine w_seq ?_
      refine w_region ?_
      refine st (s_move rfl ?_)
      refine st (s_gt rfl rfl ?_)
      refine st (s_move rfl ?_)
      refine r_caseP 21 rfl (fun h3 => ?_) (fun h3 => ?_)
      · refine stg (s_move rfl ?_)
        refine stg (s_le rfl rfl ?_)
        refine st (s_pick rfl rfl ?_)
        refine st (s_assign rfl ?_)
        refine r_end ?_
        refine n_then ?_
        refine w_ret1 rfl rfl ?_
        exact ⟨_, rfl, hb2, by simp [kidB, h1, h2, h3]⟩
      · refine s_pass rfl rfl ?_
        refine s_pass rfl rfl ?_
        refine st (s_pick rfl rfl ?_)
        refine st (s_assign rfl ?_)
        refine r_end ?_
        refine n_then ?_
        refine w_ret1 rfl rfl ?_
        exact ⟨_, rfl, hb2, by simp [kidB, h1, h2, h3]⟩
    · refine w_skip' ?_
      refine n_block ?_
      refine n_then ?_
      refine w_seq ?_
      by_cases h4 : 0 < c
      · by_cases h5 : c ≤ i
        · obtain ⟨b2, o2, _, hat1, ⟨rfl, _⟩, hc2, hF2, hlt2⟩ := (hl.at0 hb2).elem (c - 1) (by omega) (by omega)
          have hl_2 := Loc.lt hF2
          refine w_draw 19 (fun a b => a.grownBy b none) [(some 25, fun v _ => v = .int .i64 c), (some 26, fun v _ => v = .bool (decide (0 < c))), (some 27, fun v _ => v = .bool true), (some 28, fun v _ => v = .int .i64 c), (some 29, fun v _ => v = .int .i64 i), (some 30, fun v _ => v = .bool (decide (c ≤ i))), (some 31, fun v _ => v = .bool (decide (c ≤ i))), (some 32, fun v _ => v = .bool true), (some 33, fun v _ => v = va), (some 34, fun v _ => v = .int .i64 c), (some 35, fun v _ => v = .int .i64 (c - 1)), (some 36, fun v _ => v = .pointer (some ⟨b2, o2, none⟩)), (some 37, fun v _ => v = .pointer (some ⟨b2, o2 + 0, none⟩)), (some 38, fun v _ => v = .int .i64 ((ix l (c - 1)).lv)), (some 39, fun v _ => v = .pointer (some ⟨g1, 0 + 0, none⟩)), (some 40, fun v _ => v = .int .i64 ((ix l i).lv)), (some 41, fun v _ => v = .int .i64 ((ix l i).lv - 1)), (some 42, fun v _ => v = .bool (decide ((ix l (c - 1)).lv = ((ix l i).lv - 1)))), (some 43, fun v _ => v = .bool (decide ((ix l (c - 1)).lv = ((ix l i).lv - 1))))] [[], [0], [1], [2], [2], [2, 3, 4], [2, 5], [6], [7], [7], [7, 9], [7, 8, 10], [7, 11], [7, 12], [7], [7, 14], [7, 15], [7, 13, 16], [7, 17]] [(0, va), (1, .int .i64 i), (2, .int .i64 c), (6, .bool false), (7, .pointer (some ⟨g1, 0, none⟩))] (by exact ⟨rfl, rfl, rfl, rfl, rfl, trivial⟩) (by kernel_rfl) (by kernel_rfl) grown_none_refl (fun _ _ _ => grown_none_trans) ⟨fun _ _ _ h _ => h, fun _ _ _ h _ => h, fun _ _ _ h _ => h, fun _ _ _ h _ => h, fun _ _ _ h _ => h, fun _ _ _ h _ => h, fun _ _ _ h _ => h, fun _ _ _ h _ => h, fun _ _ _ h _ => h, fun _ _ _ h _ => h, fun _ _ _ h _ => h, fun _ _ _ h _ => h, fun _ _ _ h _ => h, fun _ _ _ h _ => h, fun _ _ _ h _ => h, fun _ _ _ h _ => h, fun _ _ _ h _ => h, fun _ _ _ h _ => h, fun _ _ _ h _ => h, trivial⟩ ?_
          intro w3 k3 hs3
          have hb3 := below_g0 hb2 k3
          refine ⟨⟨?_, ?_, ?_, ?_, ?_, ?_, ?_, ?_, ?_, ?_, ?_, ?_, ?_, ?_, ?_, ?_, ?_, ?_, ?_, trivial⟩, ?_⟩
          · intro w4 k4
            have hb4 := below_g0 hb3 k4
            refine op1 (s_move rfl ?_)
            exact ⟨rfl, grown_none_refl _⟩
          · intro w5 k5
            have hb5 := below_g0 hb3 k5
            rintro _ rfl
            refine op1 (s_gt rfl rfl ?_)
            exact ⟨rfl, grown_none_refl _⟩
          · intro w6 k6
            have hb6 := below_g0 hb3 k6
            rintro _ rfl
            refine op1 (s_move rfl ?_)
            exact ⟨(by rw [decide_eq_true h4]), grown_none_refl _⟩
          · intro w7 k7
            have hb7 := below_g0 hb3 k7
            rintro _ rfl
            refine op1g (s_move rfl ?_)
            exact ⟨rfl, grown_none_refl _⟩
          · intro w8 k8
            have hb8 := below_g0 hb3 k8
            rintro _ rfl
            refine op1g (s_move rfl ?_)
            exact ⟨rfl, grown_none_refl _⟩
          · intro w9 k9
            have hb9 := below_g0 hb3 k9
            rintro _ rfl
            rintro _ rfl
            rintro _ rfl
            refine op1g (s_le rfl rfl ?_)
            exact ⟨rfl, grown_none_refl _⟩
          · intro w10 k10
            have hb10 := below_g0 hb3 k10
            rintro _ rfl
            rintro _ rfl
            refine op1 (s_pick rfl rfl ?_)
            exact ⟨rfl, grown_none_refl _⟩
          · intro w11 k11
            have hb11 := below_g0 hb3 k11
            rintro _ rfl
            refine op1 (s_move rfl ?_)
            exact ⟨(by rw [decide_eq_true h5]), grown_none_refl _⟩
          · intro w12 k12
            have hb12 := below_g0 hb3 k12
            rintro _ rfl
            refine op1g (s_move rfl ?_)
            exact ⟨rfl, grown_none_refl _⟩
          · intro w13 k13
            have hb13 := below_g0 hb3 k13
            rintro _ rfl
            refine op1g (s_move rfl ?_)
            exact ⟨rfl, grown_none_refl _⟩
          · intro w14 k14
            have hb14 := below_g0 hb3 k14
            rintro _ rfl
            rintro _ rfl
            refine op1g (s_sub rfl rfl (by omega) ?_)
            exact ⟨rfl, grown_none_refl _⟩
          · intro w15 k15
            have hb15 := below_g0 hb3 k15
            rintro _ rfl
            intro v_ hv_; subst v_
            rintro _ rfl
            refine op1g (s_idxat sl22 rfl rfl hat1 ?_)
            exact ⟨rfl, grown_none_refl _⟩
          · intro w16 k16
            have hb16 := below_g0 hb3 k16
            rintro _ rfl
            rintro _ rfl
            refine op1g (s_faddr fld35_0 rfl ?_)
            exact ⟨rfl, grown_none_refl _⟩
          · intro w17 k17
            have hb17 := below_g0 hb3 k17
            rintro _ rfl
            rintro _ rfl
            refine op1g (s_load one3 rfl (range_g0 (range_g0 hc2 k3) k17) (j := 0) rfl ?_)
            exact ⟨rfl, grown_none_refl _⟩
          · intro w18 k18
            have hb18 := below_g0 hb3 k18
            rintro _ rfl
            refine op1g (s_faddr fld35_0 rfl ?_)
            exact ⟨rfl, grown_none_refl _⟩
          · intro w19 k19
            have hb19 := below_g0 hb3 k19
            rintro _ rfl
            rintro _ rfl
            refine op1g (s_load one3 rfl ((hB2.g0 k3).g0 k19).range (j := 0) rfl ?_)
            exact ⟨rfl, grown_none_refl _⟩
          · intro w20 k20
            have hb20 := below_g0 hb3 k20
            rintro _ rfl
            rintro _ rfl
            refine op1g (s_sub rfl rfl (by omega) ?_)
            exact ⟨rfl, grown_none_refl _⟩
          · intro w21 k21
            have hb21 := below_g0 hb3 k21
            rintro _ rfl
            rintro _ rfl
            rintro _ rfl
            refine op1g (s_eq rfl rfl ?_)
            exact ⟨rfl, grown_none_refl _⟩
          · intro w22 k22
            have hb22 := below_g0 hb3 k22
            rintro _ rfl
            rintro _ rfl
            refine op1 (s_pick rfl rfl ?_)
            exact ⟨rfl, grown_none_refl _⟩
          · intro w23 k23
            have hb23 := below_g0 hb3 k23
            rintro _ rfl
            rintro _ rfl
            rintro _ rfl
            rintro _ rfl
            rintro _ rfl
            rintro _ rfl
            rintro _ rfl
            rintro _ rfl
            intro v_ hv_; subst v_
            rintro _ rfl
            rintro _ rfl
            rintro _ rfl
            rintro _ rfl
            rintro _ rfl
            rintro _ rfl
            rintro _ rfl
            rintro _ rfl
            rintro _ rfl
            rintro _ rfl
            refine st (s_assign rfl ?_)
            refine r_end ?_
            refine n_then ?_
            refine w_ret1 rfl rfl ?_
            exact ⟨_, rfl, hb23, by simp [kidB, h1, h2, h4, h5]⟩
        · refine w_draw 19 (fun a b => a.grownBy b none) [(some 25, fun v _ => v = .int .i64 c), (some 26, fun v _ => v = .bool (decide (0 < c))), (some 27, fun v _ => v = .bool true), (some 28, fun v _ => v = .int .i64 c), (some 29, fun v _ => v = .int .i64 i), (some 30, fun v _ => v = .bool (decide (c ≤ i))), (some 31, fun v _ => v = .bool (decide (c ≤ i))), (some 32, fun v _ => v = .bool false), (some 33, fun v _ => v = undef), (some 34, fun v _ => v = undef), (some 35, fun v _ => v = undef), (some 36, fun v _ => v = undef), (some 37, fun v _ => v = undef), (some 38, fun v _ => v = undef), (some 39, fun v _ => v = undef), (some 40, fun v _ => v = undef), (some 41, fun v _ => v = undef), (some 42, fun v _ => v = undef), (some 43, fun v _ => v = .bool false)] [[], [0], [1], [2], [2], [2, 3, 4], [2, 5], [6], [7], [7], [7, 9], [7, 8, 10], [7, 11], [7, 12], [7], [7, 14], [7, 15], [7, 13, 16], [7, 17]] [(0, va), (1, .int .i64 i), (2, .int .i64 c), (6, .bool false), (7, .pointer (some ⟨g1, 0, none⟩))] (by exact ⟨rfl, rfl, rfl, rfl, rfl, trivial⟩) (by kernel_rfl) (by kernel_rfl) grown_none_refl (fun _ _ _ => grown_none_trans) ⟨fun _ _ _ h _ => h, fun _ _ _ h _ => h, fun _ _ _ h _ => h, fun _ _ _ h _ => h, fun _ _ _ h _ => h, fun _ _ _ h _ => h, fun _ _ _ h _ => h, fun _ _ _ h _ => h, fun _ _ _ h _ => h, fun _ _ _ h _ => h, fun _ _ _ h _ => h, fun _ _ _ h _ => h, fun _ _ _ h _ => h, fun _ _ _ h _ => h, fun _ _ _ h _ => h, fun _ _ _ h _ => h, fun _ _ _ h _ => h, fun _ _ _ h _ => h, fun _ _ _ h _ => h, trivial⟩ ?_
          intro w24 k24 hs4
          have hb24 := below_g0 hb2 k24
          refine ⟨⟨?_, ?_, ?_, ?_, ?_, ?_, ?_, ?_, ?_, ?_, ?_, ?_, ?_, ?_, ?_, ?_, ?_, ?_, ?_, trivial⟩, ?_⟩
          · intro w25 k25
            have hb25 := below_g0 hb24 k25
            refine op1 (s_move rfl ?_)
            exact ⟨rfl, grown_none_refl _⟩
          · intro w26 k26
            have hb26 := below_g0 hb24 k26
            rintro _ rfl
            refine op1 (s_gt rfl rfl ?_)
            exact ⟨rfl, grown_none_refl _⟩
          · intro w27 k27
            have hb27 := below_g0 hb24 k27
            rintro _ rfl
            refine op1 (s_move rfl ?_)
            exact ⟨(by rw [decide_eq_true h4]), grown_none_refl _⟩
          · intro w28 k28
            have hb28 := below_g0 hb24 k28
            rintro _ rfl
            refine op1g (s_move rfl ?_)
            exact ⟨rfl, grown_none_refl _⟩
          · intro w29 k29
            have hb29 := below_g0 hb24 k29
            rintro _ rfl
            refine op1g (s_move rfl ?_)
            exact ⟨rfl, grown_none_refl _⟩
          · intro w30 k30
            have hb30 := below_g0 hb24 k30
            rintro _ rfl
            rintro _ rfl
            rintro _ rfl
            refine op1g (s_le rfl rfl ?_)
            exact ⟨rfl, grown_none_refl _⟩
          · intro w31 k31
            have hb31 := below_g0 hb24 k31
            rintro _ rfl
            rintro _ rfl
            refine op1 (s_pick rfl rfl ?_)
            exact ⟨rfl, grown_none_refl _⟩
          · intro w32 k32
            have hb32 := below_g0 hb24 k32
            rintro _ rfl
            refine op1 (s_move rfl ?_)
            exact ⟨(by rw [decide_eq_false h5]), grown_none_refl _⟩
          · intro w33 k33
            have hb33 := below_g0 hb24 k33
            rintro _ rfl
            refine op1p ⟨rfl, grown_none_refl _⟩
          · intro w34 k34
            have hb34 := below_g0 hb24 k34
            rintro _ rfl
            refine op1p ⟨rfl, grown_none_refl _⟩
          · intro w35 k35
            have hb35 := below_g0 hb24 k35
            rintro _ rfl
            intro v_ hv_; subst v_
            refine op1p ⟨rfl, grown_none_refl _⟩
          · intro w36 k36
            have hb36 := below_g0 hb24 k36
            rintro _ rfl
            intro v_ hv_; subst v_
            intro v_ hv_; subst v_
            refine op1p ⟨rfl, grown_none_refl _⟩
          · intro w37 k37
            have hb37 := below_g0 hb24 k37
            rintro _ rfl
            intro v_ hv_; subst v_
            refine op1p ⟨rfl, grown_none_refl _⟩
          · intro w38 k38
            have hb38 := below_g0 hb24 k38
            rintro _ rfl
            intro v_ hv_; subst v_
            refine op1p ⟨rfl, grown_none_refl _⟩
          · intro w39 k39
            have hb39 := below_g0 hb24 k39
            rintro _ rfl
            refine op1p ⟨rfl, grown_none_refl _⟩
          · intro w40 k40
            have hb40 := below_g0 hb24 k40
            rintro _ rfl
            intro v_ hv_; subst v_
            refine op1p ⟨rfl, grown_none_refl _⟩
          · intro w41 k41
            have hb41 := below_g0 hb24 k41
            rintro _ rfl
            intro v_ hv_; subst v_
            refine op1p ⟨rfl, grown_none_refl _⟩
          · intro w42 k42
            have hb42 := below_g0 hb24 k42
            rintro _ rfl
            intro v_ hv_; subst v_
            intro v_ hv_; subst v_
            refine op1p ⟨rfl, grown_none_refl _⟩
          · intro w43 k43
            have hb43 := below_g0 hb24 k43
            rintro _ rfl
            intro v_ hv_; subst v_
            refine op1 (s_pick rfl rfl ?_)
            exact ⟨rfl, grown_none_refl _⟩
          · intro w44 k44
            have hb44 := below_g0 hb24 k44
            rintro _ rfl
            rintro _ rfl
            rintro _ rfl
            rintro _ rfl
            rintro _ rfl
            rintro _ rfl
            rintro _ rfl
            rintro _ rfl
            intro v_ hv_; subst v_
            intro v_ hv_; subst v_
            intro v_ hv_; subst v_
            intro v_ hv_; subst v_
            intro v_ hv_; subst v_
            intro v_ hv_; subst v_
            intro v_ hv_; subst v_
            intro v_ hv_; subst v_
            intro v_ hv_; subst v_
            intro v_ hv_; subst v_
            rintro _ rfl
            refine st (s_assign rfl ?_)
            refine r_end ?_
            refine n_then ?_
            refine w_ret1 rfl rfl ?_
            exact ⟨_, rfl, hb44, by simp [kidB, h1, h2, h4, h5]⟩
      · refine w_draw 19 (fun a b => a.grownBy b none) [(some 25, fun v _ => v = .int .i64 c), (some 26, fun v _ => v = .bool (decide (0 < c))), (some 27, fun v _ => v = .bool false), (some 28, fun v _ => v = undef), (some 29, fun v _ => v = undef), (some 30, fun v _ => v = undef), (some 31, fun v _ => v = .bool false), (some 32, fun v _ => v = .bool false), (some 33, fun v _ => v = undef), (some 34, fun v _ => v = undef), (some 35, fun v _ => v = undef), (some 36, fun v _ => v = undef), (some 37, fun v _ => v = undef), (some 38, fun v _ => v = undef), (some 39, fun v _ => v = undef), (some 40, fun v _ => v = undef), (some 41, fun v _ => v = undef), (some 42, fun v _ => v = undef), (some 43, fun v _ => v = .bool false)] [[], [0], [1], [2], [2], [2, 3, 4], [2, 5], [6], [7], [7], [7, 9], [7, 8, 10], [7, 11], [7, 12], [7], [7, 14], [7, 15], [7, 13, 16], [7, 17]] [(0, va), (1, .int .i64 i), (2, .int .i64 c), (6, .bool false), (7, .pointer (some ⟨g1, 0, none⟩))] (by exact ⟨rfl, rfl, rfl, rfl, rfl, trivial⟩) (by kernel_rfl) (by kernel_rfl) grown_none_refl (fun _ _ _ => grown_none_trans) ⟨fun _ _ _ h _ => h, fun _ _ _ h _ => h, fun _ _ _ h _ => h, fun _ _ _ h _ => h, fun _ _ _ h _ => h, fun _ _ _ h _ => h, fun _ _ _ h _ => h, fun _ _ _ h _ => h, fun _ _ _ h _ => h, fun _ _ _ h _ => h, fun _ _ _ h _ => h, fun _ _ _ h _ => h, fun _ _ _ h _ => h, fun _ _ _ h _ => h, fun _ _ _ h _ => h, fun _ _ _ h _ => h, fun _ _ _ h _ => h, fun _ _ _ h _ => h, fun _ _ _ h _ => h, trivial⟩ ?_
        intro w45 k45 hs5
        have hb45 := below_g0 hb2 k45
        refine ⟨⟨?_, ?_, ?_, ?_, ?_, ?_, ?_, ?_, ?_, ?_, ?_, ?_, ?_, ?_, ?_, ?_, ?_, ?_, ?_, trivial⟩, ?_⟩
        · intro w46 k46
          have hb46 := below_g0 hb45 k46
          refine op1 (s_move rfl ?_)
          exact ⟨rfl, grown_none_refl _⟩
        · intro w47 k47
          have hb47 := below_g0 hb45 k47
          rintro _ rfl
          refine op1 (s_gt rfl rfl ?_)
          exact ⟨rfl, grown_none_refl _⟩
        · intro w48 k48
          have hb48 := below_g0 hb45 k48
          rintro _ rfl
          refine op1 (s_move rfl ?_)
          exact ⟨(by rw [decide_eq_false h4]), grown_none_refl _⟩
        · intro w49 k49
          have hb49 := below_g0 hb45 k49
          rintro _ rfl
          refine op1p ⟨rfl, grown_none_refl _⟩
        · intro w50 k50
          have hb50 := below_g0 hb45 k50
          rintro _ rfl
          refine op1p ⟨rfl, grown_none_refl _⟩
        · intro w51 k51
          have hb51 := below_g0 hb45 k51
          rintro _ rfl
          intro v_ hv_; subst v_
          intro v_ hv_; subst v_
          refine op1p ⟨rfl, grown_none_refl _⟩
        · intro w52 k52
          have hb52 := below_g0 hb45 k52
          rintro _ rfl
          intro v_ hv_; subst v_
          refine op1 (s_pick rfl rfl ?_)
          exact ⟨rfl, grown_none_refl _⟩
        · intro w53 k53
          have hb53 := below_g0 hb45 k53
          rintro _ rfl
          refine op1 (s_move rfl ?_)
          exact ⟨rfl, grown_none_refl _⟩
        · intro w54 k54
          have hb54 := below_g0 hb45 k54
          rintro _ rfl
          refine op1p ⟨rfl, grown_none_refl _⟩
        · intro w55 k55
          have hb55 := below_g0 hb45 k55
          rintro _ rfl
          refine op1p ⟨rfl, grown_none_refl _⟩
        · intro w56 k56
          have hb56 := below_g0 hb45 k56
          rintro _ rfl
          intro v_ hv_; subst v_
          refine op1p ⟨rfl, grown_none_refl _⟩
        · intro w57 k57
          have hb57 := below_g0 hb45 k57
          rintro _ rfl
          intro v_ hv_; subst v_
          intro v_ hv_; subst v_
          refine op1p ⟨rfl, grown_none_refl _⟩
        · intro w58 k58
          have hb58 := below_g0 hb45 k58
          rintro _ rfl
          intro v_ hv_; subst v_
          refine op1p ⟨rfl, grown_none_refl _⟩
        · intro w59 k59
          have hb59 := below_g0 hb45 k59
          rintro _ rfl
          intro v_ hv_; subst v_
          refine op1p ⟨rfl, grown_none_refl _⟩
        · intro w60 k60
          have hb60 := below_g0 hb45 k60
          rintro _ rfl
          refine op1p ⟨rfl, grown_none_refl _⟩
        · intro w61 k61
          have hb61 := below_g0 hb45 k61
          rintro _ rfl
          intro v_ hv_; subst v_
          refine op1p ⟨rfl, grown_none_refl _⟩
        · intro w62 k62
          have hb62 := below_g0 hb45 k62
          rintro _ rfl
          intro v_ hv_; subst v_
          refine op1p ⟨rfl, grown_none_refl _⟩
        · intro w63 k63
          have hb63 := below_g0 hb45 k63
          rintro _ rfl
          intro v_ hv_; subst v_
          intro v_ hv_; subst v_
          refine op1p ⟨rfl, grown_none_refl _⟩
        · intro w64 k64
          have hb64 := below_g0 hb45 k64
          rintro _ rfl
          intro v_ hv_; subst v_
          refine op1 (s_pick rfl rfl ?_)
          exact ⟨rfl, grown_none_refl _⟩
        · intro w65 k65
          have hb65 := below_g0 hb45 k65
          rintro _ rfl
          rintro _ rfl
          rintro _ rfl
          intro v_ hv_; subst v_
          intro v_ hv_; subst v_
          intro v_ hv_; subst v_
          rintro _ rfl
          rintro _ rfl
          intro v_ hv_; subst v_
          intro v_ hv_; subst v_
          intro v_ hv_; subst v_
          intro v_ hv_; subst v_
          intro v_ hv_; subst v_
          intro v_ hv_; subst v_
          intro v_ hv_; subst v_
          intro v_ hv_; subst v_
          intro v_ hv_; subst v_
          intro v_ hv_; subst v_
          rintro _ rfl
          refine st (s_assign rfl ?_)
          refine r_end ?_
          refine n_then ?_
          refine w_ret1 rfl rfl ?_
          exact ⟨_, rfl, hb65, by simp [kidB, h1, h2, h4]⟩

theorem loose_any {va : Value} {l : List Nd} {F : Nat → Prop} {w : World} (hl : Sl Kd.node w F va l) :
    Calls Try.prog 9 [va].toArray w (Pure w fun v _ => v = .bool (looseB l)) := by
  have hb0 := Below.refl w.heap.size w
  have hln1 := hl.lenle
  refine enter Try.func9 rfl rfl ?_
  refine w_seq ?_
  refine w_region ?_
  refine st (s_assign rfl ?_)
  refine r_end ?_
  refine n_then ?_
  refine w_seq ?_
  refine w_seq ?_
  refine w_region ?_
  refine st (s_move rfl ?_)
  refine st (s_len sl22 rfl (hl.at0 hb0) ?_)
  refine st (s_move rfl ?_)
  refine r_end ?_
  refine n_then ?_
  refine w_block ?_
  refine w_loop (α := Int) (fun (i : Int) => [(0, va), (7, va), (8, .int .i64 (l.length : Int)), (9, .int .i64 i)]) (fun (i : Int) W => Below w.heap.size w W ∧ (0 ≤ i ∧ i ≤ l.length) ∧ (∀ j : Int, 0 ≤ j → j < i → okAt l j = true)) (fun (i : Int) => (l.length - i).toNat) (0) ⟨hb0, by omega, fun j _ _ => by omega⟩ (by exact ⟨rfl, rfl, rfl, rfl, trivial⟩) ?_
  rintro i w1 ⟨hb1, hi, ha⟩
  have hz1 := hb1.size
  refine w_seq ?_
  refine w_region ?_
  refine st (s_lt rfl rfl ?_)
  refine r_end ?_
  refine n_then ?_
  refine w_seq ?_
  refine w_condP rfl (fun h1 => ?_) (fun h1 => ?_)
  · refine w_skip' ?_
    refine n_then ?_
    refine w_seq ?_
    refine w_block ?_
    refine w_seq ?_
    refine w_region ?_
    refine st (s_move rfl ?_)
    refine st (s_idx sl22 rfl rfl (hl.at0 hb1) (by omega) (by omega) ?_)
    rintro b1 o1 _ ⟨rfl, _⟩ hc1 hF1 hlt1
    have hl_1 := Loc.lt hF1
    refine st (s_loadW row35 rfl hc1 rfl ?_)
    refine st (s_alloc zero35 ?_)
    intro g1 w2 hg1 hB1 k1 hs1
    have hb2 := below_g0 hb1 k1
    refine st (s_assign rfl ?_)
    refine st0 (s_storeN row35 rfl rfl hB1 rfl rfl rfl ?_)
    intro w3 hB2 k2 hs2
    have hb3 := below_g hb2 k2 (by omega)
    clear hB1
    refine r_end ?_
    refine n_then ?_
    refine w_seq ?_
    refine w_seq ?_
    refine w_region ?_
    refine st (s_faddr fld35_0 rfl ?_)
    refine st (s_load one3 rfl hB2.range (j := 0) rfl ?_)
    refine st (s_lt rfl rfl ?_)
    refine st (s_move rfl ?_)
    refine r_caseP 17 rfl (fun h2 => ?_) (fun h2 => ?_)
    · refine s_pass rfl rfl ?_
      refine s_pass rfl rfl ?_
      refine s_pass rfl rfl ?_
      refine st (s_pick rfl rfl ?_)
      refine r_end ?_
      refine n_then ?_
      refine w_condT rfl ?_
      refine w_seq ?_
      refine w_region ?_
      refine st (s_assign rfl ?_)
      refine r_end ?_
      refine n_then ?_
      refine w_ret1 rfl rfl ?_
      refine ⟨_, rfl, hb3, ?_⟩
      rw [loose_no i (by omega) (by omega)]
      rw [ne_eq, okAt_iff]
      rintro ⟨e1, e2⟩
      first | omega | (have e3 := e2 k (by omega) (by omega); unfold Nd.kid at e3; simp [e3] at h2)
    · refine stg (s_faddr fld35_0 rfl ?_)
      refine stg (s_load one3 rfl hB2.range (j := 0) rfl ?_)
      refine stg (s_gt rfl rfl ?_)
      refine st (s_pick rfl rfl ?_)
      refine r_end ?_
      refine n_then ?_
      refine w_condP rfl (fun h3 => ?_) (fun h3 => ?_)
      · refine w_seq ?_
        refine w_region ?_
        refine st (s_assign rfl ?_)
        refine r_end ?_
        refine n_then ?_
        refine w_ret1 rfl rfl ?_
        refine ⟨_, rfl, hb3, ?_⟩
        rw [loose_no i (by omega) (by omega)]
        rw [ne_eq, okAt_iff]
        rintro ⟨e1, e2⟩
        first | omega | (have e3 := e2 k (by omega) (by omega); unfold Nd.kid at e3; simp [e3] at h3)
      · refine w_skip' ?_
        refine n_then ?_
        refine w_seq ?_
        refine w_region ?_
        refine st (s_faddr fld35_1 rfl ?_)
        refine st (s_loadN (us := [.int .i64 ((ix l i).k0), .int .i64 ((ix l i).k1), .int .i64 ((ix l i).k2), .int .i64 ((ix l i).k3)]) row33 rfl hB2.range (j := 1) rfl rfl ?_)
        refine st (s_move rfl ?_)
        refine r_end ?_
        refine n_then ?_
        refine w_block ?_
        refine w_loop (α := Int) (fun (k : Int) => [(0, va), (3, .int .i64 i), (7, va), (8, .int .i64 (l.length : Int)), (9, .int .i64 i), (23, .agg [.int .i64 ((ix l i).k0), .int .i64 ((ix l i).k1), .int .i64 ((ix l i).k2), .int .i64 ((ix l i).k3)].toArray), (24, .int .i64 k)]) (fun (k : Int) W => Below w.heap.size w W ∧ (0 ≤ k ∧ k ≤ 4) ∧ (∀ j : Int, 0 ≤ j → j < k → kidB l i ((ix l i).kid j) = true)) (fun (k : Int) => (4 - k).toNat) (0) ⟨hb3, by omega, fun j _ _ => by omega⟩ (by exact ⟨rfl, rfl, rfl, rfl, rfl, rfl, rfl, trivial⟩) ?_
        rintro k w4 ⟨hb4, hk, hk2⟩
        have hz2 := hb4.size
        refine w_seq ?_
        refine w_region ?_
        refine st (s_lt rfl rfl ?_)
        refine r_end ?_
        refine n_then ?_
        refine w_seq ?_
        refine w_condP rfl (fun h4 => ?_) (fun h4 => ?_)
        · refine w_skip' ?_
          refine n_then ?_
          refine w_seq ?_
          refine w_block ?_
          refine w_seq ?_
          refine w_region ?_
          refine st (s_iarr4 arr33 one3 rfl rfl (by omega) (by omega) ?_)
          refine st (s_assign rfl ?_)
          refine r_end ?_
          refine n_then ?_
          refine w_seq ?_
          refine w_region ?_
          refine st (s_move rfl ?_)
          refine st (s_move rfl ?_)
          refine st (s_move rfl ?_)
          refine st (s_call fn25 rfl (kid_any (hl.at0 hb4) (by omega) (by omega) (by omega)) ?_)
          rintro _ w5 ⟨hq1, rfl⟩
          have k3 := grown_of_below hq1 none
          have hz3 := hq1.size
          have hb5 := below_g0 hb4 k3
          have hz4 := hb5.size
          refine st (s_not rfl ?_)
          refine r_end ?_
          refine n_then ?_
          refine w_cond rfl (fun h5 => ?_) (fun h5 => ?_)
          · refine w_seq ?_
            refine w_region ?_
            refine st (s_assign rfl ?_)
            refine r_end ?_
            refine n_then ?_
            refine w_ret1 rfl rfl ?_
            refine ⟨_, rfl, hb5, ?_⟩
            rw [loose_no i (by omega) (by omega)]
            rw [ne_eq, okAt_iff]
            rintro ⟨e1, e2⟩
            first | omega | (have e3 := e2 k (by omega) (by omega); unfold Nd.kid at e3; simp [e3] at h5)
          · refine w_skip' ?_
            refine n_block ?_
            refine n_then ?_
            refine w_region ?_
            refine st (s_add rfl rfl (by omega) ?_)
            refine st (s_move rfl ?_)
            refine r_end ?_
            exact n_round ((k + 1)) ⟨hb5, by omega, fun j j0 j1 => if e : j = k then by rw [e]; simpa [Nd.kid] using h5 else hk2 j j0 (by omega)⟩ (by omega) (by exact ⟨rfl, rfl, rfl, rfl, rfl, rfl, rfl, trivial⟩)
        · refine w_exit' ?_
          refine n_then_exit ?_
          refine n_then_exit ?_
          refine n_block_exit ?_
          refine n_block ?_
          refine n_then ?_
          refine w_region ?_
          refine st (s_add rfl rfl (by omega) ?_)
          refine st (s_move rfl ?_)
          refine r_end ?_
          exact n_round ((i + 1)) ⟨hb4, by omega, fun j j0 j1 => if e : j = i then by rw [e, okAt_iff]; exact ⟨by omega, fun k k0 k1 => hk2 k k0 (by omega)⟩ else ha j j0 (by omega)⟩ (by omega) (by exact ⟨rfl, rfl, rfl, rfl, trivial⟩)
  · refine w_exit' ?_
    refine n_then_exit ?_
    refine n_then_exit ?_
    refine n_block_exit ?_
    refine n_then ?_
    refine w_seq ?_
    refine w_region ?_
    refine st (s_assign rfl ?_)
    refine r_end ?_
    refine n_then ?_
    refine w_ret1 rfl rfl ?_
    exact ⟨_, rfl, hb1, by rw [(looseB_iff l).2]; intro j j0 j1; exact ha j j0 (by omega)⟩

theorem full1_any {w : World} {gx go : Nat} {x : Nd} {vo : Value} {out : List Bool} {F : Nat → Prop} {c : Int} (hx : w.rangeAt gx 0 x.cells) (ho : w.rangeAt go 0 [vo]) (hs : Sl Kd.bool w F vo out) (hc : c ≠ 0 → x.lv ≠ 1 → 0 ≤ c ∧ c < out.length) :
    Calls Try.prog 40 [.int .i64 c, .pointer (some ⟨gx, 0, none⟩), .pointer (some ⟨go, 0, none⟩)].toArray w (Pure w fun v _ => v = .bool (hasK x out c)) := by
  have hb0 := Below.refl w.heap.size w
  refine enter Try.func40 rfl rfl ?_
  refine w_seq ?_
  refine w_region ?_
  refine st (s_assign rfl ?_)
  refine r_end ?_
  refine n_then ?_
  refine w_seq ?_
  refine w_region ?_
  refine st (s_move rfl ?_)
  refine st (s_ne rfl rfl ?_)
  refine st (s_move rfl ?_)
  refine r_caseP 7 rfl (fun h1 => ?_) (fun h1 => ?_)
  · refine stg (s_faddr fld35_0 rfl ?_)
    refine stg (s_load one3 rfl hx (j := 0) rfl ?_)
    refine stg (s_eq rfl rfl ?_)
    refine stg (s_move rfl ?_)
    refine r_caseP 11 rfl (fun h2 => ?_) (fun h2 => ?_)
    · refine s_pass rfl rfl ?_
      refine s_pass rfl rfl ?_
      refine s_pass rfl rfl ?_
      refine s_pass rfl rfl ?_
      refine stg (s_pick rfl rfl ?_)
      refine st (s_pick rfl rfl ?_)
      refine st (s_assign rfl ?_)
      refine r_end ?_
      refine n_then ?_
      refine w_ret1 rfl rfl ?_
      exact ⟨_, rfl, hb0, by simp [hasK, h1, h2]⟩
    · refine stg (s_load one43 rfl ho (j := 0) rfl ?_)
      refine stg (s_move rfl ?_)
      refine stg (s_idx sl43 rfl rfl (hs.at0 hb0) (by omega) (by omega) ?_)
      rintro b1 o1 _ ⟨rfl, _⟩ hc1 hF1 hlt1
      have hl_1 := Loc.lt hF1
      refine stg (s_load one4 rfl hc1 (j := 0) rfl ?_)
      refine stg (s_pick rfl rfl ?_)
      refine st (s_pick rfl rfl ?_)
      refine st (s_assign rfl ?_)
      refine r_end ?_
      refine n_then ?_
      refine w_ret1 rfl rfl ?_
      exact ⟨_, rfl, hb0, by simp [hasK, h1, h2]⟩
  · refine s_pass rfl rfl ?_
    refine s_pass rfl rfl ?_
    refine s_pass rfl rfl ?_
    refine s_pass rfl rfl ?_
    refine s_passU rfl rfl ?_
    refine s_passU rfl rfl ?_
    refine s_passU rfl rfl ?_
    refine s_passU rfl rfl ?_
    refine s_pass rfl rfl ?_
    refine st (s_pick rfl rfl ?_)
    refine st (s_assign rfl ?_)
    refine r_end ?_
    refine n_then ?_
    refine w_ret1 rfl rfl ?_
    exact ⟨_, rfl, hb0, by simp [hasK, h1]⟩

theorem idxfunc_any {w : World} {va : Value} {xs : List Int} {F : Nat → Prop} {f : Nat} {caps : List Value} {p : Int → Bool} (hl : Sl (Kd.num .i64) w F va xs) (hf : FunF Try.prog f) (hcl : ∀ w', w.grownBy w' none → ∀ i : Int, 0 ≤ i → i < xs.length → Calls Try.prog f ([] ++ [Value.int .i64 (ix xs i)] ++ caps).toArray w' (Pure w' fun v _ => v = .bool (p (ix xs i)))) :
    Calls Try.prog 46 [va, .func (.func f) [].toArray caps.toArray].toArray w (Pure w fun v _ => v = .int .i64 (idxF p xs)) := by
  have hb0 := Below.refl w.heap.size w
  have hln1 := hl.lenle
  refine enter Try.func46 rfl rfl ?_
  refine w_seq ?_
  refine w_region ?_
  refine st (s_assign rfl ?_)
  refine r_end ?_
  refine n_then ?_
  refine w_seq ?_
  refine w_seq ?_
  refine w_region ?_
  refine st (s_move rfl ?_)
  refine st (s_len sl46 rfl (hl.at0 hb0) ?_)
  refine st (s_move rfl ?_)
  refine r_end ?_
  refine n_then ?_
  refine w_block ?_
  refine w_loop (α := Int) (fun (i : Int) => [(0, va), (1, .func (.func f) [].toArray caps.toArray), (7, .int .i64 (xs.length : Int)), (8, .int .i64 i)]) (fun (i : Int) W => Below w.heap.size w W ∧ (0 ≤ i ∧ i ≤ xs.length) ∧ (∀ j : Int, 0 ≤ j → j < i → p (ix xs j) = false)) (fun (i : Int) => (xs.length - i).toNat) (0) ⟨hb0, by omega, fun j _ _ => by omega⟩ (by exact ⟨rfl, rfl, rfl, rfl, trivial⟩) ?_
  rintro i w1 ⟨hb1, hi, ha⟩
  have hz1 := hb1.size
  refine w_seq ?_
  refine w_region ?_
  refine st (s_lt rfl rfl ?_)
  refine r_end ?_
  refine n_then ?_
  refine w_seq ?_
  refine w_condP rfl (fun h1 => ?_) (fun h1 => ?_)
  · have hlt := h1
    refine w_skip' ?_
    refine n_then ?_
    refine w_seq ?_
    refine w_block ?_
    refine w_seq ?_
    refine w_region ?_
    refine st (s_move rfl ?_)
    refine st (s_assign rfl ?_)
    refine r_end ?_
    refine n_then ?_
    refine w_seq ?_
    refine w_region ?_
    refine st (s_move rfl ?_)
    refine st (s_move rfl ?_)
    refine st (s_move rfl ?_)
    refine st (s_idx sl46 rfl rfl (hl.at0 hb1) (by omega) (by omega) ?_)
    rintro b1 o1 _ ⟨rfl, _⟩ hc1 hF1 hlt1
    have hl_1 := Loc.lt hF1
    refine st (s_load one3 rfl hc1 (j := 0) rfl ?_)
    refine st (s_callc hf rfl rfl (hcl _ (grown_of_below hb1 none) _ hi.1 hlt) ?_)
    rintro _ w2 ⟨hq1, rfl⟩
    have k1 := grown_of_below hq1 none
    have hb2 := below_g0 hb1 k1
    have hz2 := hb2.size
    refine r_end ?_
    refine n_then ?_
    refine w_cond rfl (fun h2 => ?_) (fun h2 => ?_)
    · refine w_seq ?_
      refine w_region ?_
      refine st (s_move rfl ?_)
      refine st (s_assign rfl ?_)
      refine r_end ?_
      refine n_then ?_
      refine w_ret1 rfl rfl ?_
      exact ⟨_, rfl, hb2, by rw [idxF_at p xs i hi.1 hlt ha h2]⟩
    · refine w_skip' ?_
      refine n_block ?_
      refine n_then ?_
      refine w_region ?_
      refine st (s_add rfl rfl (by omega) ?_)
      refine st (s_move rfl ?_)
      refine r_end ?_
      exact n_round ((i + 1)) ⟨hb2, by omega, fun j j0 j1 => if e : j = i then by rw [e]; exact h2 else ha j j0 (by omega)⟩ (by omega) (by exact ⟨rfl, rfl, rfl, rfl, trivial⟩)
  · refine w_exit' ?_
    refine n_then_exit ?_
    refine n_then_exit ?_
    refine n_block_exit ?_
    refine n_then ?_
    refine w_seq ?_
    refine w_region ?_
    refine st (s_assign rfl ?_)
    refine r_end ?_
    refine n_then ?_
    refine w_ret1 rfl rfl ?_
    exact ⟨_, rfl, hb1, by rw [idxF_none p xs (fun j j0 j1 => ha j j0 (by omega))]⟩

theorem confunc_any {w : World} {va : Value} {xs : List Int} {F : Nat → Prop} {f : Nat} {caps : List Value} {p : Int → Bool} (hl : Sl (Kd.num .i64) w F va xs) (hf : FunF Try.prog f) (hcl : ∀ w', w.grownBy w' none → ∀ i : Int, 0 ≤ i → i < xs.length → Calls Try.prog f ([] ++ [Value.int .i64 (ix xs i)] ++ caps).toArray w' (Pure w' fun v _ => v = .bool (p (ix xs i)))) :
    Calls Try.prog 39 [va, .func (.func f) [].toArray caps.toArray].toArray w (Pure w fun v _ => v = .bool (xs.any p)) := by
  have hb0 := Below.refl w.heap.size w
  have hln1 := hl.lenle
  refine enter Try.func39 rfl rfl ?_
  refine w_seq ?_
  refine w_region ?_
  refine st (s_assign rfl ?_)
  refine r_end ?_
  refine n_then ?_
  refine w_seq ?_
  refine w_region ?_
  refine st (s_move rfl ?_)
  refine st (s_move rfl ?_)
  refine st (s_call fn46 rfl (idxfunc_any (hl.at0 hb0) hf hcl) ?_)
  rintro _ w1 ⟨hq1, rfl⟩
  have k1 := grown_of_below hq1 none
  have hb1 := below_g0 hb0 k1
  have hz1 := hb1.size
  refine st (s_ge rfl rfl ?_)
  refine st (s_assign rfl ?_)
  refine r_end ?_
  refine n_then ?_
  refine w_ret1 rfl rfl ?_
  exact ⟨_, rfl, hb1, by rw [idxF_ge]⟩

theorem full_any {va : Value} {l : List Nd} {F : Nat → Prop} {w : World} (hl : Sl Kd.node w F va l) (hl_ok : looseB l = true) (hll : l.length ≤ 1000000) :
    Calls Try.prog 27 [va].toArray w (Pure w fun v w' => Sl Kd.bool w' (fun _ => False) v (hasL l)) := by
  have hb0 := Below.refl w.heap.size w
  have hln1 := hl.lenle
  refine enter Try.func27 rfl rfl ?_
  refine w_seq ?_
  refine w_region ?_
  refine st (s_assign rfl ?_)
  refine r_end ?_
  refine n_then ?_
  refine w_seq ?_
  refine w_region ?_
  refine st (s_move rfl ?_)
  refine st (s_len sl22 rfl (hl.at0 hb0) ?_)
  refine st (s_add rfl rfl (by omega) ?_)
  refine st (s_make (K := Kd.bool) (base := w.heap.size) (F := (fun _ => False)) sl43 rfl (by omega) (by omega) (by omega) (fun _ _ => ⟨rfl, trivial⟩) (by omega) (fun _ h => h.elim) ?_)
  intro v1 w1 hO1 k1
  have hb1 := below_g0 hb0 k1
  have hz1 := hb1.size
  refine st (s_alloc zero43 ?_)
  intro g1 w2 hg1 hB1 k2 hs1
  have hb2 := below_g0 hb1 k2
  have hO2 := hO1.g0 k2
  refine st0 (s_store one43 rfl rfl (hO2.one) hB1 (of_decide_eq_true rfl) ?_)
  intro w3 hB2 k3 hs2
  have hb3 := below_g hb2 k3 (by omega)
  have hO3 := Own.keptF bool_flat hO2 k3 (hO2.ne_blk hB1 (by decide))
  clear hB1
  refine r_end ?_
  refine n_then ?_
  refine w_seq ?_
  refine w_seq ?_
  refine w_region ?_
  refine st (s_move rfl ?_)
  refine st (s_len sl22 rfl (hl.at0 hb3) ?_)
  refine st (s_move rfl ?_)
  refine r_end ?_
  refine n_then ?_
  refine w_block ?_
  refine w_loop (α := Int) (fun (i : Int) => [(2, .slice none 0 0), (3, .pointer (some ⟨g1, 0, none⟩)), (10, va), (11, .int .i64 (l.length : Int)), (12, .int .i64 i)]) (fun (i : Int) W => Below w.heap.size w W ∧ (0 ≤ i ∧ i ≤ l.length) ∧ (Blk W g1 43 #[v1]) ∧ (Own Kd.bool 4 w.heap.size W (fun _ => False) v1 (partL l i)) ∧ (g1 < W.heap.size)) (fun (i : Int) => (l.length - i).toNat) (0) ⟨hb3, by omega, hB2, by rw [← partL_zero]; exact hO3, hB2.lt⟩ (by exact ⟨rfl, rfl, rfl, rfl, rfl, trivial⟩) ?_
  rintro i w4 ⟨hb4, hi, hB, hO, hgz⟩
  have hz2 := hb4.size
  refine w_seq ?_
  refine w_region ?_
  refine st (s_lt rfl rfl ?_)
  refine r_end ?_
  refine n_then ?_
  refine w_seq ?_
  refine w_condP rfl (fun h1 => ?_) (fun h1 => ?_)
  · have hlt := h1
    refine w_skip' ?_
    refine n_then ?_
    refine w_seq ?_
    refine w_block ?_
    refine w_seq ?_
    refine w_region ?_
    refine st (s_move rfl ?_)
    refine st (s_idx sl22 rfl rfl (hl.at0 hb4) (by omega) (by omega) ?_)
    rintro b1 o1 _ ⟨rfl, _⟩ hc1 hF1 hlt1
    have hl_1 := Loc.lt hF1
    refine st (s_loadW row35 rfl hc1 rfl ?_)
    refine st (s_alloc zero35 ?_)
    intro g2 w5 hg2 hB3 k4 hs3
    have hb5 := below_g0 hb4 k4
    have hO4 := hO.g0 k4
    refine st (s_assign rfl ?_)
    refine st0 (s_storeN row35 rfl rfl hB3 rfl rfl rfl ?_)
    intro w6 hB4 k5 hs4
    have hb6 := below_g hb5 k5 (by omega)
    have hO5 := Own.keptF bool_flat hO4 k5 (hO4.ne_blk hB3 (by decide))
    clear hB3
    refine r_end ?_
    refine n_then ?_
    have hS1 : Sl (Kd.num .i64) w6 (fun _ => False) (.slice (some ⟨g2, 0 + 1, none⟩) 4 4) [(ix l i).k0, (ix l i).k1, (ix l i).k2, (ix l i).k3] := sl_of_range (us := [.int .i64 ((ix l i).k0), .int .i64 ((ix l i).k1), .int .i64 ((ix l i).k2), .int .i64 ((ix l i).k3)]) rfl (range_sub 1 hB4.range rfl) rfl rfl (fun h => h) (hB4.lt) (by omega) (num_reps (k := .i64) (xs := [(ix l i).k0, (ix l i).k1, (ix l i).k2, (ix l i).k3]))
    refine w_draw 7 (fun a b => a.grownBy b none) [(some 17, fun v _ => v = v1), (some 18, fun v _ => v = .int .i64 i), (some 19, fun v _ => v = .int .i64 (i + 1)), (some 20, fun v _ => v = .pointer (some ⟨g2, 0 + 1, none⟩)), (some 21, fun v _ => v = .slice (some ⟨g2, 0 + 1, none⟩) 4 4), (some 22, fun v _ => v = .func (.func 40) [].toArray [.pointer (some ⟨g2, 0, none⟩), .pointer (some ⟨g1, 0, none⟩)].toArray), (some 23, fun v _ => v = .bool ([(ix l i).k0, (ix l i).k1, (ix l i).k2, (ix l i).k3].any (hasK (ix l i) (partL l i))))] [[], [], [1], [], [3], [], [4, 5]] [(2, .slice none 0 0), (3, .pointer (some ⟨g1, 0, none⟩)), (4, .int .i64 i), (5, .pointer (some ⟨g2, 0, none⟩)), (10, va), (11, .int .i64 (l.length : Int)), (12, .int .i64 i)] (by exact ⟨rfl, rfl, rfl, rfl, rfl, rfl, rfl, trivial⟩) (by kernel_rfl) (by kernel_rfl) grown_none_refl (fun _ _ _ => grown_none_trans) ⟨fun _ _ _ h _ => h, fun _ _ _ h _ => h, fun _ _ _ h _ => h, fun _ _ _ h _ => h, fun _ _ _ h _ => h, fun _ _ _ h _ => h, fun _ _ _ h _ => h, trivial⟩ ?_
    intro w8 k7 hs5
    have hb7 := below_g0 hb6 k7
    have hO6 := hO5.g0 k7
    refine ⟨⟨?_, ?_, ?_, ?_, ?_, ?_, ?_, trivial⟩, ?_⟩
    · intro w9 k8
      have hb8 := below_g0 hb7 k8
      have hO7 := hO6.g0 k8
      refine op1 (s_load one43 rfl ((((hB.g0 k4).gne k5 (by omega)).g0 k7).g0 k8).range (j := 0) rfl ?_)
      exact ⟨rfl, grown_none_refl _⟩
    · intro w10 k9
      have hb9 := below_g0 hb7 k9
      have hO8 := hO6.g0 k9
      refine op1 (s_move rfl ?_)
      exact ⟨rfl, grown_none_refl _⟩
    · intro w11 k10
      have hb10 := below_g0 hb7 k10
      have hO9 := hO6.g0 k10
      rintro _ rfl
      refine op1 (s_add rfl rfl (by omega) ?_)
      exact ⟨rfl, grown_none_refl _⟩
    · intro w12 k11
      have hb11 := below_g0 hb7 k11
      have hO10 := hO6.g0 k11
      refine op1 (s_faddr fld35_1 rfl ?_)
      exact ⟨rfl, grown_none_refl _⟩
    · intro w13 k12
      have hb12 := below_g0 hb7 k12
      have hO11 := hO6.g0 k12
      rintro _ rfl
      refine op1 (s_arrsl arr33 rfl ?_)
      exact ⟨rfl, grown_none_refl _⟩
    · intro w14 k13
      have hb13 := below_g0 hb7 k13
      have hO12 := hO6.g0 k13
      refine op1 (s_func rfl rfl ?_)
      exact ⟨rfl, grown_none_refl _⟩
    · intro w15 k14
      have hb14 := below_g0 hb7 k14
      have hO13 := hO6.g0 k14
      rintro _ rfl
      rintro _ rfl
      refine op1 (s_call fn39 rfl (confunc_any (p := hasK (ix l i) (partL l i)) ((hS1.g0 k7).g0 k14) fn40 (fun w' k' j j0 j1 => full1_any (x := (ix l i)) (((hB4.g0 k7).g0 k14).g0 k').range (((((hB.g0 k4).gne k5 (by omega)).g0 k7).g0 k14).g0 k').range (hO13.sl.g0 k') (fun e1 e2 => full_use hl_ok hi.1 hlt j0 j1 e1 e2))) ?_)
      rintro _ w16 ⟨hq2, rfl⟩
      have k15 := grown_of_below hq2 none
      have hb15 := below_g0 hb14 k15
      have hz3 := hb15.size
      have hO14 := hO13.g0 k15
      exact ⟨rfl, k15⟩
    · intro w17 k16
      have hb16 := below_g0 hb7 k16
      have hO15 := hO6.g0 k16
      intro v_ hv_; subst v_
      rintro _ rfl
      rintro _ rfl
      rintro _ rfl
      rintro _ rfl
      rintro _ rfl
      rintro _ rfl
      refine st (s_oidx sl43 rfl rfl hO15 (by omega) (by rw [partL_length l i hi.1 (by omega)]; omega) ?_)
      intro g3 hg3 hl_2 hl_3
      refine st0 (s_ostore one4 rfl rfl rfl rfl hO15 hg3 (by omega) (by rw [partL_length l i hi.1 (by omega)]; omega) ⟨rfl, trivial⟩ ?_)
      intro w18 hO16 k17 hs6
      have hb17 := below_g hb16 k17 (by omega)
      refine r_end ?_
      refine n_block ?_
      refine n_then ?_
      refine w_region ?_
      refine st (s_add rfl rfl (by omega) ?_)
      refine st (s_move rfl ?_)
      refine r_end ?_
      exact n_round ((i + 1)) ⟨hb17, by omega, (((((hB.g0 k4).gne k5 (by omega)).g0 k7).g0 k16).gne k17 (hO15.blk_ne ((((hB.g0 k4).gne k5 (by omega)).g0 k7).g0 k16) (by decide) hg3)), by rw [← partL_set l i hi.1 hlt (okAt_kids hl_ok hi.1 hlt)]; exact hO16, (((((hB.g0 k4).gne k5 (by omega)).g0 k7).g0 k16).gne k17 (hO15.blk_ne ((((hB.g0 k4).gne k5 (by omega)).g0 k7).g0 k16) (by decide) hg3)).lt⟩ (by omega) (by exact ⟨rfl, rfl, rfl, rfl, rfl, trivial⟩)
  · refine w_exit' ?_
    refine n_then_exit ?_
    refine n_then_exit ?_
    refine n_block_exit ?_
    refine n_then ?_
    refine w_seq ?_
    refine w_region ?_
    refine st (s_load one43 rfl hB.range (j := 0) rfl ?_)
    refine st (s_assign rfl ?_)
    refine r_end ?_
    refine n_then ?_
    refine w_ret1 rfl rfl ?_
    have e : i = (l.length : Int) := by omega
    refine ⟨_, rfl, hb4, ?_⟩
    rw [← partL_end l, ← e]
    exact hO.sl
end Go.Proofs.Ytdeiiagkbbimhaa
