/- Part of the proof that is named in YtdeiiagkbbimhaaNRowOnes: a library for walks, or a function's walk. -/
import Derived.Test.YtdeiiagkbbimhaaNL
set_option linter.unusedSimpArgs false
set_option linter.unusedVariables false
namespace Go.Proofs.Ytdeiiagkbbimhaa
open Go.RowKit Go.Gw
theorem levels_any {va : Value} {l : List Nd} {F : Nat → Prop} {w : World} (hl : Sl Kd.node w F va l) :
    Calls Try.prog 5 [va].toArray w (Pure w fun v _ => v = .bool true) := by
  have hb0 := Below.refl w.heap.size w
  have hln1 := hl.lenle
  refine enter Try.func5 rfl rfl ?_
  refine w_seq ?_
  refine w_region ?_
  refine st (s_assign rfl ?_)
  refine r_end ?_
  refine n_then ?_
  refine w_seq ?_
  refine w_seq ?_
  refine w_region ?_
  refine st (s_call fn8 rfl (alive_any) ?_)
  rintro _ w1 ⟨hq1, rfl⟩
  have k1 := grown_of_below hq1 none
  have hb1 := below_g0 hb0 k1
  have hz1 := hb1.size
  refine st (s_not rfl ?_)
  refine r_end ?_
  refine n_then ?_
  refine w_condF rfl ?_
  refine w_skip' ?_
  refine n_then ?_
  refine w_seq ?_
  refine w_region ?_
  refine st (s_move rfl ?_)
  refine st (s_build (ps := [(0, .tmp 9)]) (ccs := [#[va]]) (cells := [va]) rfl (by simp only [List.map_cons, List.map_nil, hl.cells1] <;> rfl) (by kernel_rfl) ?_)
  refine st (s_alloc zero27 ?_)
  intro g1 w2 hg1 hB1 k2 hs1
  have hb2 := below_g0 hb1 k2
  refine st0 (s_storeN row27 rfl rfl hB1 (by simp only [List.all_cons, List.all_nil, hl.one, Bool.and_true, Bool.and_self] <;> rfl) rfl rfl ?_)
  intro w3 hB2 k3 hs2
  have hb3 := below_g hb2 k3 (by omega)
  clear hB1
  refine r_end ?_
  refine n_then ?_
  refine w_seq ?_
  refine w_seq ?_
  refine w_region ?_
  refine st (s_move rfl ?_)
  refine st (s_len sl22 rfl (hl.at0 hb3) ?_)
  refine st (s_gt rfl rfl ?_)
  refine st (s_move rfl ?_)
  refine r_caseP 14 rfl (fun h1 => ?_) (fun h1 => ?_)
  · refine s_pass rfl rfl ?_
    refine s_pass rfl rfl ?_
    refine s_pass rfl rfl ?_
    refine st (s_pick rfl rfl ?_)
    refine r_end ?_
    refine n_then ?_
    refine w_condT rfl ?_
    refine w_seq ?_
    refine w_region ?_
    refine st (s_assign rfl ?_)
    refine r_end ?_
    refine n_then ?_
    refine w_ret1 rfl rfl ?_
    exact ⟨_, rfl, hb3, rfl⟩
  · refine stg (s_loadW row27 rfl hB2.range rfl ?_)
    refine stg (s_call fn11 rfl (right_any (hl.at0 hb3) (by omega)) ?_)
    rintro _ w4 ⟨hq2, rfl⟩
    have k4 := grown_of_below hq2 none
    have hz2 := hq2.size
    have hb4 := below_g0 hb3 k4
    have hz3 := hb4.size
    refine stg (s_not rfl ?_)
    refine st (s_pick rfl rfl ?_)
    refine r_end ?_
    refine n_then ?_
    refine w_cond rfl (fun h2 => ?_) (fun h2 => ?_)
    · refine w_seq ?_
      refine w_region ?_
      refine st (s_assign rfl ?_)
      refine r_end ?_
      refine n_then ?_
      refine w_ret1 rfl rfl ?_
      exact ⟨_, rfl, hb4, rfl⟩
    · have hr : rightB l = true := by simpa using h2
      have hl_ok := right_loose hr
      refine w_skip' ?_
      refine n_then ?_
      refine w_seq ?_
      refine w_seq ?_
      refine w_region ?_
      refine st (s_assign rfl ?_)
      refine r_end ?_
      refine n_then ?_
      refine w_block ?_
      refine w_loop (α := Int) (fun (i : Int) => [(0, va), (3, .pointer (some ⟨g1, 0, none⟩)), (4, .int .i64 i)]) (fun (i : Int) W => Below w.heap.size w W ∧ (0 ≤ i ∧ i ≤ l.length) ∧ (Blk W g1 27 [va].toArray)) (fun (i : Int) => (l.length - i).toNat) (0) ⟨hb4, by omega, (hB2.g0 k4)⟩ (by exact ⟨rfl, rfl, rfl, trivial⟩) ?_
      rintro i w5 ⟨hb5, hi, hBl1⟩
      have hz4 := hb5.size
      refine w_seq ?_
      refine w_seq ?_
      refine w_region ?_
      refine st (s_move rfl ?_)
      refine st (s_move rfl ?_)
      refine st (s_len sl22 rfl (hl.at0 hb5) ?_)
      refine st (s_lt rfl rfl ?_)
      refine r_end ?_
      refine n_then ?_
      refine w_condP rfl (fun h3 => ?_) (fun h3 => ?_)
      · have hlt := h3
        have hlv := right_lv hr i (by omega) hlt
        have hlv2 := lv_in hl_ok (by omega) hlt
        have hle := right_le hr i (by omega) hlt
        have hln : levelN l = (ix l ((l.length : Int) - 1)).lv := by unfold levelN; rw [if_neg (by omega)]
        refine w_skip' ?_
        refine n_then ?_
        refine w_seq ?_
        refine w_block ?_
        refine w_seq ?_
        refine w_seq ?_
        by_cases h4 : levelN l < (ix l i).lv
        · obtain ⟨b1, o1, _, hat1, ⟨rfl, _⟩, hc1, hF1, hlt1⟩ := (hl.at0 hb5).elem i (by omega) (by omega)
          have hl_1 := Loc.lt hF1
          refine w_draw 25 (fun a b => a.grownBy b none) [(some 25, fun v _ => v = va), (some 26, fun v _ => v = .int .i64 i), (some 27, fun v _ => v = .pointer (some ⟨b1, o1, none⟩)), (some 28, fun v _ => v = .pointer (some ⟨b1, o1 + 0, none⟩)), (some 29, fun v _ => v = .int .i64 ((ix l i).lv)), (some 30, fun v _ => v = .agg [va].toArray), (some 31, fun v _ => v = .int .i64 (levelN l)), (some 32, fun v _ => v = .bool (decide (levelN l < (ix l i).lv))), (some 33, fun v _ => v = .bool true), (some 34, fun v _ => v = undef), (some 35, fun v _ => v = undef), (some 36, fun v _ => v = undef), (some 37, fun v _ => v = undef), (some 38, fun v _ => v = undef), (some 39, fun v _ => v = undef), (some 40, fun v _ => v = undef), (some 41, fun v _ => v = undef), (some 42, fun v _ => v = undef), (some 43, fun v _ => v = undef), (some 44, fun v _ => v = undef), (some 45, fun v _ => v = undef), (some 46, fun v _ => v = undef), (some 47, fun v _ => v = undef), (some 48, fun v _ => v = undef), (some 49, fun v _ => v = .bool true)] [[], [], [0, 1], [2], [3], [], [5], [4, 6], [7], [8], [8], [8, 9, 10], [8, 11], [8, 12], [8], [8, 14], [8, 13, 15], [8, 16], [17], [17], [17, 19], [17, 20], [17, 18, 21], [8, 17, 22], [8, 23]] [(0, va), (3, .pointer (some ⟨g1, 0, none⟩)), (4, .int .i64 i)] (by exact ⟨rfl, rfl, rfl, trivial⟩) (by kernel_rfl) (by kernel_rfl) grown_none_refl (fun _ _ _ => grown_none_trans) ⟨fun _ _ _ h _ => h, fun _ _ _ h _ => h, fun _ _ _ h _ => h, fun _ _ _ h _ => h, fun _ _ _ h _ => h, fun _ _ _ h _ => h, fun _ _ _ h _ => h, fun _ _ _ h _ => h, fun _ _ _ h _ => h, fun _ _ _ h _ => h, fun _ _ _ h _ => h, fun _ _ _ h _ => h, fun _ _ _ h _ => h, fun _ _ _ h _ => h, fun _ _ _ h _ => h, fun _ _ _ h _ => h, fun _ _ _ h _ => h, fun _ _ _ h _ => h, fun _ _ _ h _ => h, fun _ _ _ h _ => h, fun _ _ _ h _ => h, fun _ _ _ h _ => h, fun _ _ _ h _ => h, fun _ _ _ h _ => h, fun _ _ _ h _ => h, trivial⟩ ?_
          intro w7 k6 hs3
          have hb6 := below_g0 hb5 k6
          refine ⟨⟨?_, ?_, ?_, ?_, ?_, ?_, ?_, ?_, ?_, ?_, ?_, ?_, ?_, ?_, ?_, ?_, ?_, ?_, ?_, ?_, ?_, ?_, ?_, ?_, ?_, trivial⟩, ?_⟩
          · intro w8 k7
            have hb7 := below_g0 hb6 k7
            refine op1 (s_move rfl ?_)
            exact ⟨rfl, grown_none_refl _⟩
          · intro w9 k8
            have hb8 := below_g0 hb6 k8
            refine op1 (s_move rfl ?_)
            exact ⟨rfl, grown_none_refl _⟩
          · intro w10 k9
            have hb9 := below_g0 hb6 k9
            intro v_ hv_; subst v_
            rintro _ rfl
            refine op1 (s_idxat sl22 rfl rfl hat1 ?_)
            exact ⟨rfl, grown_none_refl _⟩
          · intro w11 k10
            have hb10 := below_g0 hb6 k10
            rintro _ rfl
            refine op1 (s_faddr fld35_0 rfl ?_)
            exact ⟨rfl, grown_none_refl _⟩
          · intro w12 k11
            have hb11 := below_g0 hb6 k11
            rintro _ rfl
            refine op1 (s_load one3 rfl (range_g0 (range_g0 hc1 k6) k11) (j := 0) rfl ?_)
            exact ⟨rfl, grown_none_refl _⟩
          · intro w13 k12
            have hb12 := below_g0 hb6 k12
            refine op1 (s_loadW row27 rfl ((hBl1.g0 k6).g0 k12).range rfl ?_)
            exact ⟨rfl, grown_none_refl _⟩
          · intro w14 k13
            have hb13 := below_g0 hb6 k13
            rintro _ rfl
            refine op1 (s_call fn19 rfl (level_any (hl.at0 hb13)) ?_)
            rintro _ w15 ⟨hq4, rfl⟩
            have k14 := grown_of_below hq4 none
            have hz5 := hq4.size
            have hb14 := below_g0 hb13 k14
            have hz6 := hb14.size
            exact ⟨rfl, k14⟩
          · intro w16 k15
            have hb15 := below_g0 hb6 k15
            rintro _ rfl
            rintro _ rfl
            refine op1 (s_gt rfl rfl ?_)
            exact ⟨rfl, grown_none_refl _⟩
          · intro w17 k16
            have hb16 := below_g0 hb6 k16
            rintro _ rfl
            refine op1 (s_move rfl ?_)
            exact ⟨(by rw [decide_eq_true h4]), grown_none_refl _⟩
          · intro w18 k17
            have hb17 := below_g0 hb6 k17
            rintro _ rfl
            refine op1p ⟨rfl, grown_none_refl _⟩
          · intro w19 k18
            have hb18 := below_g0 hb6 k18
            rintro _ rfl
            refine op1p ⟨rfl, grown_none_refl _⟩
          · intro w20 k19
            have hb19 := below_g0 hb6 k19
            rintro _ rfl
            intro v_ hv_; subst v_
            intro v_ hv_; subst v_
            refine op1p ⟨rfl, grown_none_refl _⟩
          · intro w21 k20
            have hb20 := below_g0 hb6 k20
            rintro _ rfl
            intro v_ hv_; subst v_
            refine op1p ⟨rfl, grown_none_refl _⟩
          · intro w22 k21
            have hb21 := below_g0 hb6 k21
            rintro _ rfl
            intro v_ hv_; subst v_
            refine op1p ⟨rfl, grown_none_refl _⟩
          · intro w23 k22
            have hb22 := below_g0 hb6 k22
            rintro _ rfl
            refine op1p ⟨rfl, grown_none_refl _⟩
          · intro w24 k23
            have hb23 := below_g0 hb6 k23
            rintro _ rfl
            intro v_ hv_; subst v_
            refine op1p ⟨rfl, grown_none_refl _⟩
          · intro w25 k24
            have hb24 := below_g0 hb6 k24
            rintro _ rfl
            intro v_ hv_; subst v_
            intro v_ hv_; subst v_
            refine op1p ⟨rfl, grown_none_refl _⟩
          · intro w26 k25
            have hb25 := below_g0 hb6 k25
            rintro _ rfl
            intro v_ hv_; subst v_
            refine op1p ⟨rfl, grown_none_refl _⟩
          · intro w27 k26
            have hb26 := below_g0 hb6 k26
            intro v_ hv_; subst v_
            refine op1u ⟨rfl, grown_none_refl _⟩
          · intro w28 k27
            have hb27 := below_g0 hb6 k27
            intro v_ hv_; subst v_
            refine op1u ⟨rfl, grown_none_refl _⟩
          · intro w29 k28
            have hb28 := below_g0 hb6 k28
            intro v_ hv_; subst v_
            intro v_ hv_; subst v_
            refine op1u ⟨rfl, grown_none_refl _⟩
          · intro w30 k29
            have hb29 := below_g0 hb6 k29
            intro v_ hv_; subst v_
            intro v_ hv_; subst v_
            refine op1u ⟨rfl, grown_none_refl _⟩
          · intro w31 k30
            have hb30 := below_g0 hb6 k30
            intro v_ hv_; subst v_
            intro v_ hv_; subst v_
            intro v_ hv_; subst v_
            refine op1u ⟨rfl, grown_none_refl _⟩
          · intro w32 k31
            have hb31 := below_g0 hb6 k31
            rintro _ rfl
            intro v_ hv_; subst v_
            intro v_ hv_; subst v_
            refine op1p ⟨rfl, grown_none_refl _⟩
          · intro w33 k32
            have hb32 := below_g0 hb6 k32
            rintro _ rfl
            intro v_ hv_; subst v_
            refine op1 (s_pick rfl rfl ?_)
            exact ⟨rfl, grown_none_refl _⟩
          · intro w34 k33
            have hb33 := below_g0 hb6 k33
            intro v_ hv_; subst v_
            rintro _ rfl
            rintro _ rfl
            rintro _ rfl
            rintro _ rfl
            rintro _ rfl
            rintro _ rfl
            rintro _ rfl
            rintro _ rfl
            intro v_ hv_; subst v_
            intro v_ hv_; subst v_
            intro v_ hv_; subst v_
            intro v_ hv_; subst v_
            intro v_ hv_; subst v_
            intro v_ hv_; subst v_
            intro v_ hv_; subst v_
            intro v_ hv_; subst v_
            intro v_ hv_; subst v_
            intro v_ hv_; subst v_
            intro v_ hv_; subst v_
            intro v_ hv_; subst v_
            intro v_ hv_; subst v_
            intro v_ hv_; subst v_
            intro v_ hv_; subst v_
            rintro _ rfl
            refine r_end ?_
            refine n_then ?_
            refine w_condT rfl ?_
            refine w_seq ?_
            refine w_region ?_
            refine st (s_assign rfl ?_)
            refine r_end ?_
            refine n_then ?_
            refine w_ret1 rfl rfl ?_
            exfalso
            first | omega | exact absurd hl_ok (by simp [h4])
        · by_cases h5 : (ix l i).lv = levelN l
          · obtain ⟨b2, o2, _, hat2, ⟨rfl, _⟩, hc2, hF2, hlt2⟩ := (hl.at0 hb5).elem i (by omega) (by omega)
            have hl_2 := Loc.lt hF2
            obtain ⟨b3, o3, _, hat3, ⟨rfl, _⟩, hc3, hF3, hlt3⟩ := (hl.at0 hb5).elem i (by omega) (by omega)
            have hl_3 := Loc.lt hF3
            refine w_draw 25 (fun a b => a.grownBy b none) [(some 25, fun v _ => v = va), (some 26, fun v _ => v = .int .i64 i), (some 27, fun v _ => v = .pointer (some ⟨b2, o2, none⟩)), (some 28, fun v _ => v = .pointer (some ⟨b2, o2 + 0, none⟩)), (some 29, fun v _ => v = .int .i64 ((ix l i).lv)), (some 30, fun v _ => v = .agg [va].toArray), (some 31, fun v _ => v = .int .i64 (levelN l)), (some 32, fun v _ => v = .bool (decide (levelN l < (ix l i).lv))), (some 33, fun v _ => v = .bool false), (some 34, fun v _ => v = va), (some 35, fun v _ => v = .int .i64 i), (some 36, fun v _ => v = .pointer (some ⟨b3, o3, none⟩)), (some 37, fun v _ => v = .pointer (some ⟨b3, o3 + 0, none⟩)), (some 38, fun v _ => v = .int .i64 ((ix l i).lv)), (some 39, fun v _ => v = .agg [va].toArray), (some 40, fun v _ => v = .int .i64 (levelN l)), (some 41, fun v _ => v = .bool (decide ((ix l i).lv = levelN l))), (some 42, fun v _ => v = .bool true), (some 43, fun v _ => v = .int .i64 i), (some 44, fun v _ => v = va), (some 45, fun v _ => v = .int .i64 (l.length : Int)), (some 46, fun v _ => v = .int .i64 ((l.length : Int) - 1)), (some 47, fun v _ => v = .bool (decide (i ≠ ((l.length : Int) - 1)))), (some 48, fun v _ => v = .bool (decide (i ≠ ((l.length : Int) - 1)))), (some 49, fun v _ => v = .bool (decide (i ≠ ((l.length : Int) - 1))))] [[], [], [0, 1], [2], [3], [], [5], [4, 6], [7], [8], [8], [8, 9, 10], [8, 11], [8, 12], [8], [8, 14], [8, 13, 15], [8, 16], [17], [17], [17, 19], [17, 20], [17, 18, 21], [8, 17, 22], [8, 23]] [(0, va), (3, .pointer (some ⟨g1, 0, none⟩)), (4, .int .i64 i)] (by exact ⟨rfl, rfl, rfl, trivial⟩) (by kernel_rfl) (by kernel_rfl) grown_none_refl (fun _ _ _ => grown_none_trans) ⟨fun _ _ _ h _ => h, fun _ _ _ h _ => h, fun _ _ _ h _ => h, fun _ _ _ h _ => h, fun _ _ _ h _ => h, fun _ _ _ h _ => h, fun _ _ _ h _ => h, fun _ _ _ h _ => h, fun _ _ _ h _ => h, fun _ _ _ h _ => h, fun _ _ _ h _ => h, fun _ _ _ h _ => h, fun _ _ _ h _ => h, fun _ _ _ h _ => h, fun _ _ _ h _ => h, fun _ _ _ h _ => h, fun _ _ _ h _ => h, fun _ _ _ h _ => h, fun _ _ _ h _ => h, fun _ _ _ h _ => h, fun _ _ _ h _ => h, fun _ _ _ h _ => h, fun _ _ _ h _ => h, fun _ _ _ h _ => h, fun _ _ _ h _ => h, trivial⟩ ?_
            intro w37 k36 hs4
            have hb34 := below_g0 hb5 k36
            refine ⟨⟨?_, ?_, ?_, ?_, ?_, ?_, ?_, ?_, ?_, ?_, ?_, ?_, ?_, ?_, ?_, ?_, ?_, ?_, ?_, ?_, ?_, ?_, ?_, ?_, ?_, trivial⟩, ?_⟩
            · intro w38 k37
              have hb35 := below_g0 hb34 k37
              refine op1 (s_move rfl ?_)
              exact ⟨rfl, grown_none_refl _⟩
            · intro w39 k38
              have hb36 := below_g0 hb34 k38
              refine op1 (s_move rfl ?_)
              exact ⟨rfl, grown_none_refl _⟩
            · intro w40 k39
              have hb37 := below_g0 hb34 k39
              intro v_ hv_; subst v_
              rintro _ rfl
              refine op1 (s_idxat sl22 rfl rfl hat2 ?_)
              exact ⟨rfl, grown_none_refl _⟩
            · intro w41 k40
              have hb38 := below_g0 hb34 k40
              rintro _ rfl
              refine op1 (s_faddr fld35_0 rfl ?_)
              exact ⟨rfl, grown_none_refl _⟩
            · intro w42 k41
              have hb39 := below_g0 hb34 k41
              rintro _ rfl
              refine op1 (s_load one3 rfl (range_g0 (range_g0 hc2 k36) k41) (j := 0) rfl ?_)
              exact ⟨rfl, grown_none_refl _⟩
            · intro w43 k42
              have hb40 := below_g0 hb34 k42
              refine op1 (s_loadW row27 rfl ((hBl1.g0 k36).g0 k42).range rfl ?_)
              exact ⟨rfl, grown_none_refl _⟩
            · intro w44 k43
              have hb41 := below_g0 hb34 k43
              rintro _ rfl
              refine op1 (s_call fn19 rfl (level_any (hl.at0 hb41)) ?_)
              rintro _ w45 ⟨hq7, rfl⟩
              have k44 := grown_of_below hq7 none
              have hz7 := hq7.size
              have hb42 := below_g0 hb41 k44
              have hz8 := hb42.size
              exact ⟨rfl, k44⟩
            · intro w46 k45
              have hb43 := below_g0 hb34 k45
              rintro _ rfl
              rintro _ rfl
              refine op1 (s_gt rfl rfl ?_)
              exact ⟨rfl, grown_none_refl _⟩
            · intro w47 k46
              have hb44 := below_g0 hb34 k46
              rintro _ rfl
              refine op1 (s_move rfl ?_)
              exact ⟨(by rw [decide_eq_false h4]), grown_none_refl _⟩
            · intro w48 k47
              have hb45 := below_g0 hb34 k47
              rintro _ rfl
              refine op1g (s_move rfl ?_)
              exact ⟨rfl, grown_none_refl _⟩
            · intro w49 k48
              have hb46 := below_g0 hb34 k48
              rintro _ rfl
              refine op1g (s_move rfl ?_)
              exact ⟨rfl, grown_none_refl _⟩
            · intro w50 k49
              have hb47 := below_g0 hb34 k49
              rintro _ rfl
              intro v_ hv_; subst v_
              rintro _ rfl
              refine op1g (s_idxat sl22 rfl rfl hat3 ?_)
              exact ⟨rfl, grown_none_refl _⟩
            · intro w51 k50
              have hb48 := below_g0 hb34 k50
              rintro _ rfl
              rintro _ rfl
              refine op1g (s_faddr fld35_0 rfl ?_)
              exact ⟨rfl, grown_none_refl _⟩
            · intro w52 k51
              have hb49 := below_g0 hb34 k51
              rintro _ rfl
              rintro _ rfl
              refine op1g (s_load one3 rfl (range_g0 (range_g0 hc3 k36) k51) (j := 0) rfl ?_)
              exact ⟨rfl, grown_none_refl _⟩
            · intro w53 k52
              have hb50 := below_g0 hb34 k52
              rintro _ rfl
              refine op1g (s_loadW row27 rfl ((hBl1.g0 k36).g0 k52).range rfl ?_)
              exact ⟨rfl, grown_none_refl _⟩
            · intro w54 k53
              have hb51 := below_g0 hb34 k53
              rintro _ rfl
              rintro _ rfl
              refine op1g (s_call fn19 rfl (level_any (hl.at0 hb51)) ?_)
              rintro _ w55 ⟨hq8, rfl⟩
              have k54 := grown_of_below hq8 none
              have hz9 := hq8.size
              have hb52 := below_g0 hb51 k54
              have hz10 := hb52.size
              exact ⟨rfl, k54⟩
            · intro w56 k55
              have hb53 := below_g0 hb34 k55
              rintro _ rfl
              rintro _ rfl
              rintro _ rfl
              refine op1g (s_eq rfl rfl ?_)
              exact ⟨rfl, grown_none_refl _⟩
            · intro w57 k56
              have hb54 := below_g0 hb34 k56
              rintro _ rfl
              rintro _ rfl
              refine op1g (s_move rfl ?_)
              exact ⟨(by rw [decide_eq_true h5]), grown_none_refl _⟩
            · intro w58 k57
              have hb55 := below_g0 hb34 k57
              rintro _ rfl
              refine op1g (s_move rfl ?_)
              exact ⟨rfl, grown_none_refl _⟩
            · intro w59 k58
              have hb56 := below_g0 hb34 k58
              rintro _ rfl
              refine op1g (s_move rfl ?_)
              exact ⟨rfl, grown_none_refl _⟩
            · intro w60 k59
              have hb57 := below_g0 hb34 k59
              rintro _ rfl
              intro v_ hv_; subst v_
              refine op1g (s_len sl22 rfl (hl.at0 hb57) ?_)
              exact ⟨rfl, grown_none_refl _⟩
            · intro w61 k60
              have hb58 := below_g0 hb34 k60
              rintro _ rfl
              rintro _ rfl
              refine op1g (s_sub rfl rfl (by omega) ?_)
              exact ⟨rfl, grown_none_refl _⟩
            · intro w62 k61
              have hb59 := below_g0 hb34 k61
              rintro _ rfl
              rintro _ rfl
              rintro _ rfl
              refine op1g (s_ne rfl rfl ?_)
              exact ⟨rfl, grown_none_refl _⟩
            · intro w63 k62
              have hb60 := below_g0 hb34 k62
              rintro _ rfl
              rintro _ rfl
              rintro _ rfl
              refine op1g (s_pick rfl rfl ?_)
              exact ⟨rfl, grown_none_refl _⟩
            · intro w64 k63
              have hb61 := below_g0 hb34 k63
              rintro _ rfl
              rintro _ rfl
              refine op1 (s_pick rfl rfl ?_)
              exact ⟨rfl, grown_none_refl _⟩
            · intro w65 k64
              have hb62 := below_g0 hb34 k64
              intro v_ hv_; subst v_
              rintro _ rfl
              rintro _ rfl
              rintro _ rfl
              rintro _ rfl
              rintro _ rfl
              rintro _ rfl
              rintro _ rfl
              rintro _ rfl
              intro v_ hv_; subst v_
              rintro _ rfl
              rintro _ rfl
              rintro _ rfl
              rintro _ rfl
              rintro _ rfl
              rintro _ rfl
              rintro _ rfl
              rintro _ rfl
              rintro _ rfl
              intro v_ hv_; subst v_
              rintro _ rfl
              rintro _ rfl
              rintro _ rfl
              rintro _ rfl
              rintro _ rfl
              refine r_end ?_
              refine n_then ?_
              refine w_condP rfl (fun h6 => ?_) (fun h6 => ?_)
              · refine w_seq ?_
                refine w_region ?_
                refine st (s_assign rfl ?_)
                refine r_end ?_
                refine n_then ?_
                refine w_ret1 rfl rfl ?_
                exfalso
                first | omega | exact absurd hl_ok (by simp [h6])
              · refine w_skip' ?_
                refine n_then ?_
                refine w_seq ?_
                refine w_region ?_
                refine st (s_assign rfl ?_)
                refine r_end ?_
                refine n_then ?_
                refine w_block ?_
                refine w_loop (α := Int) (fun (k : Int) => [(0, va), (3, .pointer (some ⟨g1, 0, none⟩)), (4, .int .i64 i), (5, .int .i64 k)]) (fun (k : Int) W => Below w.heap.size w W ∧ (0 ≤ k ∧ k ≤ 4) ∧ (Blk W g1 27 [va].toArray)) (fun (k : Int) => (4 - k).toNat) (0) ⟨hb62, by omega, ((hBl1.g0 k36).g0 k64)⟩ (by exact ⟨rfl, rfl, rfl, rfl, trivial⟩) ?_
                rintro k w66 ⟨hb63, hk, hBl2⟩
                have hz11 := hb63.size
                refine w_seq ?_
                refine w_seq ?_
                refine w_region ?_
                refine st (s_move rfl ?_)
                refine st (s_lt rfl rfl ?_)
                refine st (s_move rfl ?_)
                refine r_caseP 52 rfl (fun h7 => ?_) (fun h7 => ?_)
                · refine stg (s_move rfl ?_)
                  refine stg (s_move rfl ?_)
                  refine stg (s_idx sl22 rfl rfl (hl.at0 hb63) (by omega) (by omega) ?_)
                  rintro b4 o4 _ ⟨rfl, _⟩ hc4 hF4 hlt4
                  have hl_4 := Loc.lt hF4
                  refine stg (s_faddr fld35_0 rfl ?_)
                  refine stg (s_load one3 rfl hc4 (j := 0) rfl ?_)
                  refine stg (s_gt rfl rfl ?_)
                  refine st (s_pick rfl rfl ?_)
                  refine r_end ?_
                  refine n_then ?_
                  refine w_condP rfl (fun h8 => ?_) (fun h8 => ?_)
                  · have hkid : (ix l i).kid k ≠ 0 → _ := fun e => kid_in hl_ok (by omega) hlt hk.1 (by omega) (by omega) e
                    unfold Nd.kid at hkid
                    refine w_skip' ?_
                    refine n_then ?_
                    refine w_seq ?_
                    refine w_block ?_
                    refine w_seq ?_
                    refine w_region ?_
                    refine st (s_move rfl ?_)
                    refine st (s_move rfl ?_)
                    refine st (s_move rfl ?_)
                    refine st (s_idx sl22 rfl rfl (hl.at0 hb63) (by omega) (by omega) ?_)
                    rintro b5 o5 _ ⟨rfl, _⟩ hc5 hF5 hlt5
                    have hl_5 := Loc.lt hF5
                    refine st (s_faddr fld35_1 rfl ?_)
                    refine st (s_iaddr arr33 rfl rfl (by omega) (by omega) ?_)
                    refine st (s_load4 one3 rfl hc5 (j := 1) rfl rfl (by omega) (by omega) ?_)
                    refine st (s_assign rfl ?_)
                    refine r_end ?_
                    refine n_then ?_
                    refine w_seq ?_
                    by_cases h9 : (sel4 ((ix l i).k0) ((ix l i).k1) ((ix l i).k2) ((ix l i).k3) k) < 0
                    · refine w_draw 26 (fun a b => a.grownBy b none) [(some 69, fun v _ => v = .int .i64 (sel4 ((ix l i).k0) ((ix l i).k1) ((ix l i).k2) ((ix l i).k3) k)), (some 70, fun v _ => v = .bool (decide ((sel4 ((ix l i).k0) ((ix l i).k1) ((ix l i).k2) ((ix l i).k3) k) < 0))), (some 71, fun v _ => v = .bool true), (some 72, fun v _ => v = undef), (some 73, fun v _ => v = undef), (some 74, fun v _ => v = undef), (some 75, fun v _ => v = .bool true), (some 76, fun v _ => v = .bool true), (some 77, fun v _ => v = undef), (some 78, fun v _ => v = undef), (some 79, fun v _ => v = undef), (some 80, fun v _ => v = undef), (some 81, fun v _ => v = undef), (some 82, fun v _ => v = undef), (some 83, fun v _ => v = undef), (some 84, fun v _ => v = undef), (some 85, fun v _ => v = undef), (some 86, fun v _ => v = undef), (some 87, fun v _ => v = undef), (some 88, fun v _ => v = undef), (some 89, fun v _ => v = undef), (some 90, fun v _ => v = undef), (some 91, fun v _ => v = undef), (some 92, fun v _ => v = undef), (some 93, fun v _ => v = undef), (some 94, fun v _ => v = .bool true)] [[], [0], [1], [2], [2], [2, 3, 4], [2, 5], [6], [7], [7, 8], [7, 9], [10], [10], [10, 12], [10, 11, 13], [10, 14], [10, 15], [10], [10], [10, 17, 18], [10, 19], [10, 20], [10, 21], [10, 16, 22], [7, 10, 23], [7, 24]] [(0, va), (3, .pointer (some ⟨g1, 0, none⟩)), (4, .int .i64 i), (5, .int .i64 k), (6, .int .i64 (sel4 ((ix l i).k0) ((ix l i).k1) ((ix l i).k2) ((ix l i).k3) k))] (by exact ⟨rfl, rfl, rfl, rfl, rfl, trivial⟩) (by kernel_rfl) (by kernel_rfl) grown_none_refl (fun _ _ _ => grown_none_trans) ⟨fun _ _ _ h _ => h, fun _ _ _ h _ => h, fun _ _ _ h _ => h, fun _ _ _ h _ => h, fun _ _ _ h _ => h, fun _ _ _ h _ => h, fun _ _ _ h _ => h, fun _ _ _ h _ => h, fun _ _ _ h _ => h, fun _ _ _ h _ => h, fun _ _ _ h _ => h, fun _ _ _ h _ => h, fun _ _ _ h _ => h, fun _ _ _ h _ => h, fun _ _ _ h _ => h, fun _ _ _ h _ => h, fun _ _ _ h _ => h, fun _ _ _ h _ => h, fun _ _ _ h _ => h, fun _ _ _ h _ => h, fun _ _ _ h _ => h, fun _ _ _ h _ => h, fun _ _ _ h _ => h, fun _ _ _ h _ => h, fun _ _ _ h _ => h, fun _ _ _ h _ => h, trivial⟩ ?_
                      intro w67 k65 hs5
                      have hb64 := below_g0 hb63 k65
                      refine ⟨⟨?_, ?_, ?_, ?_, ?_, ?_, ?_, ?_, ?_, ?_, ?_, ?_, ?_, ?_, ?_, ?_, ?_, ?_, ?_, ?_, ?_, ?_, ?_, ?_, ?_, ?_, trivial⟩, ?_⟩
                      · intro w68 k66
                        have hb65 := below_g0 hb64 k66
                        refine op1 (s_move rfl ?_)
                        exact ⟨rfl, grown_none_refl _⟩
                      · intro w69 k67
                        have hb66 := below_g0 hb64 k67
                        rintro _ rfl
                        refine op1 (s_lt rfl rfl ?_)
                        exact ⟨rfl, grown_none_refl _⟩
                      · intro w70 k68
                        have hb67 := below_g0 hb64 k68
                        rintro _ rfl
                        refine op1 (s_move rfl ?_)
                        exact ⟨(by rw [decide_eq_true h9]), grown_none_refl _⟩
                      · intro w71 k69
                        have hb68 := below_g0 hb64 k69
                        rintro _ rfl
                        refine op1p ⟨rfl, grown_none_refl _⟩
                      · intro w72 k70
                        have hb69 := below_g0 hb64 k70
                        rintro _ rfl
                        refine op1p ⟨rfl, grown_none_refl _⟩
                      · intro w73 k71
                        have hb70 := below_g0 hb64 k71
                        rintro _ rfl
                        intro v_ hv_; subst v_
                        intro v_ hv_; subst v_
                        refine op1p ⟨rfl, grown_none_refl _⟩
                      · intro w74 k72
                        have hb71 := below_g0 hb64 k72
                        rintro _ rfl
                        intro v_ hv_; subst v_
                        refine op1 (s_pick rfl rfl ?_)
                        exact ⟨rfl, grown_none_refl _⟩
                      · intro w75 k73
                        have hb72 := below_g0 hb64 k73
                        rintro _ rfl
                        refine op1 (s_move rfl ?_)
                        exact ⟨rfl, grown_none_refl _⟩
                      · intro w76 k74
                        have hb73 := below_g0 hb64 k74
                        rintro _ rfl
                        refine op1p ⟨rfl, grown_none_refl _⟩
                      · intro w77 k75
                        have hb74 := below_g0 hb64 k75
                        rintro _ rfl
                        intro v_ hv_; subst v_
                        refine op1p ⟨rfl, grown_none_refl _⟩
                      · intro w78 k76
                        have hb75 := below_g0 hb64 k76
                        rintro _ rfl
                        intro v_ hv_; subst v_
                        refine op1p ⟨rfl, grown_none_refl _⟩
                      · intro w79 k77
                        have hb76 := below_g0 hb64 k77
                        intro v_ hv_; subst v_
                        refine op1u ⟨rfl, grown_none_refl _⟩
                      · intro w80 k78
                        have hb77 := below_g0 hb64 k78
                        intro v_ hv_; subst v_
                        refine op1u ⟨rfl, grown_none_refl _⟩
                      · intro w81 k79
                        have hb78 := below_g0 hb64 k79
                        intro v_ hv_; subst v_
                        intro v_ hv_; subst v_
                        refine op1u ⟨rfl, grown_none_refl _⟩
                      · intro w82 k80
                        have hb79 := below_g0 hb64 k80
                        intro v_ hv_; subst v_
                        intro v_ hv_; subst v_
                        intro v_ hv_; subst v_
                        refine op1u ⟨rfl, grown_none_refl _⟩
                      · intro w83 k81
                        have hb80 := below_g0 hb64 k81
                        intro v_ hv_; subst v_
                        intro v_ hv_; subst v_
                        refine op1u ⟨rfl, grown_none_refl _⟩
                      · intro w84 k82
                        have hb81 := below_g0 hb64 k82
                        intro v_ hv_; subst v_
                        intro v_ hv_; subst v_
                        refine op1u ⟨rfl, grown_none_refl _⟩
                      · intro w85 k83
                        have hb82 := below_g0 hb64 k83
                        intro v_ hv_; subst v_
                        refine op1u ⟨rfl, grown_none_refl _⟩
                      · intro w86 k84
                        have hb83 := below_g0 hb64 k84
                        intro v_ hv_; subst v_
                        refine op1u ⟨rfl, grown_none_refl _⟩
                      · intro w87 k85
                        have hb84 := below_g0 hb64 k85
                        intro v_ hv_; subst v_
                        intro v_ hv_; subst v_
                        intro v_ hv_; subst v_
                        refine op1u ⟨rfl, grown_none_refl _⟩
                      · intro w88 k86
                        have hb85 := below_g0 hb64 k86
                        intro v_ hv_; subst v_
                        intro v_ hv_; subst v_
                        refine op1u ⟨rfl, grown_none_refl _⟩
                      · intro w89 k87
                        have hb86 := below_g0 hb64 k87
                        intro v_ hv_; subst v_
                        intro v_ hv_; subst v_
                        refine op1u ⟨rfl, grown_none_refl _⟩
                      · intro w90 k88
                        have hb87 := below_g0 hb64 k88
                        intro v_ hv_; subst v_
                        intro v_ hv_; subst v_
                        refine op1u ⟨rfl, grown_none_refl _⟩
                      · intro w91 k89
                        have hb88 := below_g0 hb64 k89
                        intro v_ hv_; subst v_
                        intro v_ hv_; subst v_
                        intro v_ hv_; subst v_
                        refine op1u ⟨rfl, grown_none_refl _⟩
                      · intro w92 k90
                        have hb89 := below_g0 hb64 k90
                        rintro _ rfl
                        intro v_ hv_; subst v_
                        intro v_ hv_; subst v_
                        refine op1p ⟨rfl, grown_none_refl _⟩
                      · intro w93 k91
                        have hb90 := below_g0 hb64 k91
                        rintro _ rfl
                        intro v_ hv_; subst v_
                        refine op1 (s_pick rfl rfl ?_)
                        exact ⟨rfl, grown_none_refl _⟩
                      · intro w94 k92
                        have hb91 := below_g0 hb64 k92
                        rintro _ rfl
                        rintro _ rfl
                        rintro _ rfl
                        intro v_ hv_; subst v_
                        intro v_ hv_; subst v_
                        intro v_ hv_; subst v_
                        rintro _ rfl
                        rintro _ rfl
                        intro v_ hv_; subst v_
                        intro v_ hv_; subst v_
                        intro v_ hv_; subst v_
                        intro v_ hv_; subst v_
                        intro v_ hv_; subst v_
                        intro v_ hv_; subst v_
                        intro v_ hv_; subst v_
                        intro v_ hv_; subst v_
                        intro v_ hv_; subst v_
                        intro v_ hv_; subst v_
                        intro v_ hv_; subst v_
                        intro v_ hv_; subst v_
                        intro v_ hv_; subst v_
                        intro v_ hv_; subst v_
                        intro v_ hv_; subst v_
                        intro v_ hv_; subst v_
                        intro v_ hv_; subst v_
                        rintro _ rfl
                        refine r_end ?_
                        refine n_then ?_
                        refine w_condT rfl ?_
                        refine w_seq ?_
                        refine w_region ?_
                        refine st (s_assign rfl ?_)
                        refine r_end ?_
                        refine n_then ?_
                        refine w_ret1 rfl rfl ?_
                        exfalso
                        first | omega | exact absurd hl_ok (by simp [h9])
                    · by_cases h10 : i < (sel4 ((ix l i).k0) ((ix l i).k1) ((ix l i).k2) ((ix l i).k3) k)
                      · refine w_draw 26 (fun a b => a.grownBy b none) [(some 69, fun v _ => v = .int .i64 (sel4 ((ix l i).k0) ((ix l i).k1) ((ix l i).k2) ((ix l i).k3) k)), (some 70, fun v _ => v = .bool (decide ((sel4 ((ix l i).k0) ((ix l i).k1) ((ix l i).k2) ((ix l i).k3) k) < 0))), (some 71, fun v _ => v = .bool false), (some 72, fun v _ => v = .int .i64 (sel4 ((ix l i).k0) ((ix l i).k1) ((ix l i).k2) ((ix l i).k3) k)), (some 73, fun v _ => v = .int .i64 i), (some 74, fun v _ => v = .bool (decide (i < (sel4 ((ix l i).k0) ((ix l i).k1) ((ix l i).k2) ((ix l i).k3) k)))), (some 75, fun v _ => v = .bool (decide (i < (sel4 ((ix l i).k0) ((ix l i).k1) ((ix l i).k2) ((ix l i).k3) k)))), (some 76, fun v _ => v = .bool true), (some 77, fun v _ => v = undef), (some 78, fun v _ => v = undef), (some 79, fun v _ => v = undef), (some 80, fun v _ => v = undef), (some 81, fun v _ => v = undef), (some 82, fun v _ => v = undef), (some 83, fun v _ => v = undef), (some 84, fun v _ => v = undef), (some 85, fun v _ => v = undef), (some 86, fun v _ => v = undef), (some 87, fun v _ => v = undef), (some 88, fun v _ => v = undef), (some 89, fun v _ => v = undef), (some 90, fun v _ => v = undef), (some 91, fun v _ => v = undef), (some 92, fun v _ => v = undef), (some 93, fun v _ => v = undef), (some 94, fun v _ => v = .bool true)] [[], [0], [1], [2], [2], [2, 3, 4], [2, 5], [6], [7], [7, 8], [7, 9], [10], [10], [10, 12], [10, 11, 13], [10, 14], [10, 15], [10], [10], [10, 17, 18], [10, 19], [10, 20], [10, 21], [10, 16, 22], [7, 10, 23], [7, 24]] [(0, va), (3, .pointer (some ⟨g1, 0, none⟩)), (4, .int .i64 i), (5, .int .i64 k), (6, .int .i64 (sel4 ((ix l i).k0) ((ix l i).k1) ((ix l i).k2) ((ix l i).k3) k))] (by exact ⟨rfl, rfl, rfl, rfl, rfl, trivial⟩) (by kernel_rfl) (by kernel_rfl) grown_none_refl (fun _ _ _ => grown_none_trans) ⟨fun _ _ _ h _ => h, fun _ _ _ h _ => h, fun _ _ _ h _ => h, fun _ _ _ h _ => h, fun _ _ _ h _ => h, fun _ _ _ h _ => h, fun _ _ _ h _ => h, fun _ _ _ h _ => h, fun _ _ _ h _ => h, fun _ _ _ h _ => h, fun _ _ _ h _ => h, fun _ _ _ h _ => h, fun _ _ _ h _ => h, fun _ _ _ h _ => h, fun _ _ _ h _ => h, fun _ _ _ h _ => h, fun _ _ _ h _ => h, fun _ _ _ h _ => h, fun _ _ _ h _ => h, fun _ _ _ h _ => h, fun _ _ _ h _ => h, fun _ _ _ h _ => h, fun _ _ _ h _ => h, fun _ _ _ h _ => h, fun _ _ _ h _ => h, fun _ _ _ h _ => h, trivial⟩ ?_
                        intro w95 k93 hs6
                        have hb92 := below_g0 hb63 k93
                        refine ⟨⟨?_, ?_, ?_, ?_, ?_, ?_, ?_, ?_, ?_, ?_, ?_, ?_, ?_, ?_, ?_, ?_, ?_, ?_, ?_, ?_, ?_, ?_, ?_, ?_, ?_, ?_, trivial⟩, ?_⟩
                        · intro w96 k94
                          have hb93 := below_g0 hb92 k94
                          refine op1 (s_move rfl ?_)
                          exact ⟨rfl, grown_none_refl _⟩
                        · intro w97 k95
                          have hb94 := below_g0 hb92 k95
                          rintro _ rfl
                          refine op1 (s_lt rfl rfl ?_)
                          exact ⟨rfl, grown_none_refl _⟩
                        · intro w98 k96
                          have hb95 := below_g0 hb92 k96
                          rintro _ rfl
                          refine op1 (s_move rfl ?_)
                          exact ⟨(by rw [decide_eq_false h9]), grown_none_refl _⟩
                        · intro w99 k97
                          have hb96 := below_g0 hb92 k97
                          rintro _ rfl
                          refine op1g (s_move rfl ?_)
                          exact ⟨rfl, grown_none_refl _⟩
                        · intro w100 k98
                          have hb97 := below_g0 hb92 k98
                          rintro _ rfl
                          refine op1g (s_move rfl ?_)
                          exact ⟨rfl, grown_none_refl _⟩
                        · intro w101 k99
                          have hb98 := below_g0 hb92 k99
                          rintro _ rfl
                          rintro _ rfl
                          rintro _ rfl
                          refine op1g (s_gt rfl rfl ?_)
                          exact ⟨rfl, grown_none_refl _⟩
                        · intro w102 k100
                          have hb99 := below_g0 hb92 k100
                          rintro _ rfl
                          rintro _ rfl
                          refine op1 (s_pick rfl rfl ?_)
                          exact ⟨rfl, grown_none_refl _⟩
                        · intro w103 k101
                          have hb100 := below_g0 hb92 k101
                          rintro _ rfl
                          refine op1 (s_move rfl ?_)
                          exact ⟨(by rw [decide_eq_true h10]), grown_none_refl _⟩
                        · intro w104 k102
                          have hb101 := below_g0 hb92 k102
                          rintro _ rfl
                          refine op1p ⟨rfl, grown_none_refl _⟩
                        · intro w105 k103
                          have hb102 := below_g0 hb92 k103
                          rintro _ rfl
                          intro v_ hv_; subst v_
                          refine op1p ⟨rfl, grown_none_refl _⟩
                        · intro w106 k104
                          have hb103 := below_g0 hb92 k104
                          rintro _ rfl
                          intro v_ hv_; subst v_
                          refine op1p ⟨rfl, grown_none_refl _⟩
                        · intro w107 k105
                          have hb104 := below_g0 hb92 k105
                          intro v_ hv_; subst v_
                          refine op1u ⟨rfl, grown_none_refl _⟩
                        · intro w108 k106
                          have hb105 := below_g0 hb92 k106
                          intro v_ hv_; subst v_
                          refine op1u ⟨rfl, grown_none_refl _⟩
                        · intro w109 k107
                          have hb106 := below_g0 hb92 k107
                          intro v_ hv_; subst v_
                          intro v_ hv_; subst v_
                          refine op1u ⟨rfl, grown_none_refl _⟩
                        · intro w110 k108
                          have hb107 := below_g0 hb92 k108
                          intro v_ hv_; subst v_
                          intro v_ hv_; subst v_
                          intro v_ hv_; subst v_
                          refine op1u ⟨rfl, grown_none_refl _⟩
                        · intro w111 k109
                          have hb108 := below_g0 hb92 k109
                          intro v_ hv_; subst v_
                          intro v_ hv_; subst v_
                          refine op1u ⟨rfl, grown_none_refl _⟩
                        · intro w112 k110
                          have hb109 := below_g0 hb92 k110
                          intro v_ hv_; subst v_
                          intro v_ hv_; subst v_
                          refine op1u ⟨rfl, grown_none_refl _⟩
                        · intro w113 k111
                          have hb110 := below_g0 hb92 k111
                          intro v_ hv_; subst v_
                          refine op1u ⟨rfl, grown_none_refl _⟩
                        · intro w114 k112
                          have hb111 := below_g0 hb92 k112
                          intro v_ hv_; subst v_
                          refine op1u ⟨rfl, grown_none_refl _⟩
                        · intro w115 k113
                          have hb112 := below_g0 hb92 k113
                          intro v_ hv_; subst v_
                          intro v_ hv_; subst v_
                          intro v_ hv_; subst v_
                          refine op1u ⟨rfl, grown_none_refl _⟩
                        · intro w116 k114
                          have hb113 := below_g0 hb92 k114
                          intro v_ hv_; subst v_
                          intro v_ hv_; subst v_
                          refine op1u ⟨rfl, grown_none_refl _⟩
                        · intro w117 k115
                          have hb114 := below_g0 hb92 k115
                          intro v_ hv_; subst v_
                          intro v_ hv_; subst v_
                          refine op1u ⟨rfl, grown_none_refl _⟩
                        · intro w118 k116
                          have hb115 := below_g0 hb92 k116
                          intro v_ hv_; subst v_
                          intro v_ hv_; subst v_
                          refine op1u ⟨rfl, grown_none_refl _⟩
                        · intro w119 k117
                          have hb116 := below_g0 hb92 k117
                          intro v_ hv_; subst v_
                          intro v_ hv_; subst v_
                          intro v_ hv_; subst v_
                          refine op1u ⟨rfl, grown_none_refl _⟩
                        · intro w120 k118
                          have hb117 := below_g0 hb92 k118
                          rintro _ rfl
                          intro v_ hv_; subst v_
                          intro v_ hv_; subst v_
                          refine op1p ⟨rfl, grown_none_refl _⟩
                        · intro w121 k119
                          have hb118 := below_g0 hb92 k119
                          rintro _ rfl
                          intro v_ hv_; subst v_
                          refine op1 (s_pick rfl rfl ?_)
                          exact ⟨rfl, grown_none_refl _⟩
                        · intro w122 k120
                          have hb119 := below_g0 hb92 k120
                          rintro _ rfl
                          rintro _ rfl
                          rintro _ rfl
                          rintro _ rfl
                          rintro _ rfl
                          rintro _ rfl
                          rintro _ rfl
                          rintro _ rfl
                          intro v_ hv_; subst v_
                          intro v_ hv_; subst v_
                          intro v_ hv_; subst v_
                          intro v_ hv_; subst v_
                          intro v_ hv_; subst v_
                          intro v_ hv_; subst v_
                          intro v_ hv_; subst v_
                          intro v_ hv_; subst v_
                          intro v_ hv_; subst v_
                          intro v_ hv_; subst v_
                          intro v_ hv_; subst v_
                          intro v_ hv_; subst v_
                          intro v_ hv_; subst v_
                          intro v_ hv_; subst v_
                          intro v_ hv_; subst v_
                          intro v_ hv_; subst v_
                          intro v_ hv_; subst v_
                          rintro _ rfl
                          refine r_end ?_
                          refine n_then ?_
                          refine w_condT rfl ?_
                          refine w_seq ?_
                          refine w_region ?_
                          refine st (s_assign rfl ?_)
                          refine r_end ?_
                          refine n_then ?_
                          refine w_ret1 rfl rfl ?_
                          exfalso
                          first | omega | exact absurd hl_ok (by simp [h10])
                      · by_cases h11 : 0 < (sel4 ((ix l i).k0) ((ix l i).k1) ((ix l i).k2) ((ix l i).k3) k)
                        · obtain ⟨b6, o6, _, hat4, ⟨rfl, _⟩, hc6, hF6, hlt6⟩ := (hl.at0 hb63).elem ((sel4 ((ix l i).k0) ((ix l i).k1) ((ix l i).k2) ((ix l i).k3) k) - 1) (by omega) (by omega)
                          have hl_6 := Loc.lt hF6
                          obtain ⟨b7, o7, _, hat5, ⟨rfl, _⟩, hc7, hF7, hlt7⟩ := (hl.at0 hb63).elem i (by omega) (by omega)
                          have hl_7 := Loc.lt hF7
                          refine w_draw 26 (fun a b => a.grownBy b none) [(some 69, fun v _ => v = .int .i64 (sel4 ((ix l i).k0) ((ix l i).k1) ((ix l i).k2) ((ix l i).k3) k)), (some 70, fun v _ => v = .bool (decide ((sel4 ((ix l i).k0) ((ix l i).k1) ((ix l i).k2) ((ix l i).k3) k) < 0))), (some 71, fun v _ => v = .bool false), (some 72, fun v _ => v = .int .i64 (sel4 ((ix l i).k0) ((ix l i).k1) ((ix l i).k2) ((ix l i).k3) k)), (some 73, fun v _ => v = .int .i64 i), (some 74, fun v _ => v = .bool (decide (i < (sel4 ((ix l i).k0) ((ix l i).k1) ((ix l i).k2) ((ix l i).k3) k)))), (some 75, fun v _ => v = .bool (decide (i < (sel4 ((ix l i).k0) ((ix l i).k1) ((ix l i).k2) ((ix l i).k3) k)))), (some 76, fun v _ => v = .bool false), (some 77, fun v _ => v = .int .i64 (sel4 ((ix l i).k0) ((ix l i).k1) ((ix l i).k2) ((ix l i).k3) k)), (some 78, fun v _ => v = .bool (decide (0 < (sel4 ((ix l i).k0) ((ix l i).k1) ((ix l i).k2) ((ix l i).k3) k)))), (some 79, fun v _ => v = .bool true), (some 80, fun v _ => v = va), (some 81, fun v _ => v = .int .i64 (sel4 ((ix l i).k0) ((ix l i).k1) ((ix l i).k2) ((ix l i).k3) k)), (some 82, fun v _ => v = .int .i64 ((sel4 ((ix l i).k0) ((ix l i).k1) ((ix l i).k2) ((ix l i).k3) k) - 1)), (some 83, fun v _ => v = .pointer (some ⟨b6, o6, none⟩)), (some 84, fun v _ => v = .pointer (some ⟨b6, o6 + 0, none⟩)), (some 85, fun v _ => v = .int .i64 ((ix l ((sel4 ((ix l i).k0) ((ix l i).k1) ((ix l i).k2) ((ix l i).k3) k) - 1)).lv)), (some 86, fun v _ => v = va), (some 87, fun v _ => v = .int .i64 i), (some 88, fun v _ => v = .pointer (some ⟨b7, o7, none⟩)), (some 89, fun v _ => v = .pointer (some ⟨b7, o7 + 0, none⟩)), (some 90, fun v _ => v = .int .i64 ((ix l i).lv)), (some 91, fun v _ => v = .int .i64 ((ix l i).lv - 1)), (some 92, fun v _ => v = .bool (decide ((ix l ((sel4 ((ix l i).k0) ((ix l i).k1) ((ix l i).k2) ((ix l i).k3) k) - 1)).lv ≠ ((ix l i).lv - 1)))), (some 93, fun v _ => v = .bool (decide ((ix l ((sel4 ((ix l i).k0) ((ix l i).k1) ((ix l i).k2) ((ix l i).k3) k) - 1)).lv ≠ ((ix l i).lv - 1)))), (some 94, fun v _ => v = .bool (decide ((ix l ((sel4 ((ix l i).k0) ((ix l i).k1) ((ix l i).k2) ((ix l i).k3) k) - 1)).lv ≠ ((ix l i).lv - 1))))] [[], [0], [1], [2], [2], [2, 3, 4], [2, 5], [6], [7], [7, 8], [7, 9], [10], [10], [10, 12], [10, 11, 13], [10, 14], [10, 15], [10], [10], [10, 17, 18], [10, 19], [10, 20], [10, 21], [10, 16, 22], [7, 10, 23], [7, 24]] [(0, va), (3, .pointer (some ⟨g1, 0, none⟩)), (4, .int .i64 i), (5, .int .i64 k), (6, .int .i64 (sel4 ((ix l i).k0) ((ix l i).k1) ((ix l i).k2) ((ix l i).k3) k))] (by exact ⟨rfl, rfl, rfl, rfl, rfl, trivial⟩) (by kernel_rfl) (by kernel_rfl) grown_none_refl (fun _ _ _ => grown_none_trans) ⟨fun _ _ _ h _ => h, fun _ _ _ h _ => h, fun _ _ _ h _ => h, fun _ _ _ h _ => h, fun _ _ _ h _ => h, fun _ _ _ h _ => h, fun _ _ _ h _ => h, fun _ _ _ h _ => h, fun _ _ _ h _ => h, fun _ _ _ h _ => h, fun _ _ _ h _ => h, fun _ _ _ h _ => h, fun _ _ _ h _ => h, fun _ _ _ h _ => h, fun _ _ _ h _ => h, fun _ _ _ h _ => h, fun _ _ _ h _ => h, fun _ _ _ h _ => h, fun _ _ _ h _ => h, fun _ _ _ h _ => h, fun _ _ _ h _ => h, fun _ _ _ h _ => h, fun _ _ _ h _ => h, fun _ _ _ h _ => h, fun _ _ _ h _ => h, fun _ _ _ h _ => h, trivial⟩ ?_
                          intro w123 k121 hs7
                          have hb120 := below_g0 hb63 k121
                          refine ⟨⟨?_, ?_, ?_, ?_, ?_, ?_, ?_, ?_, ?_, ?_, ?_, ?_, ?_, ?_, ?_, ?_, ?_, ?_, ?_, ?_, ?_, ?_, ?_, ?_, ?_, ?_, trivial⟩, ?_⟩
                          · intro w124 k122
                            have hb121 := below_g0 hb120 k122
                            refine op1 (s_move rfl ?_)
                            exact ⟨rfl, grown_none_refl _⟩
                          · intro w125 k123
                            have hb122 := below_g0 hb120 k123
                            rintro _ rfl
                            refine op1 (s_lt rfl rfl ?_)
                            exact ⟨rfl, grown_none_refl _⟩
                          · intro w126 k124
                            have hb123 := below_g0 hb120 k124
                            rintro _ rfl
                            refine op1 (s_move rfl ?_)
                            exact ⟨(by rw [decide_eq_false h9]), grown_none_refl _⟩
                          · intro w127 k125
                            have hb124 := below_g0 hb120 k125
                            rintro _ rfl
                            refine op1g (s_move rfl ?_)
                            exact ⟨rfl, grown_none_refl _⟩
                          · intro w128 k126
                            have hb125 := below_g0 hb120 k126
                            rintro _ rfl
                            refine op1g (s_move rfl ?_)
                            exact ⟨rfl, grown_none_refl _⟩
                          · intro w129 k127
                            have hb126 := below_g0 hb120 k127
                            rintro _ rfl
                            rintro _ rfl
                            rintro _ rfl
                            refine op1g (s_gt rfl rfl ?_)
                            exact ⟨rfl, grown_none_refl _⟩
                          · intro w130 k128
                            have hb127 := below_g0 hb120 k128
                            rintro _ rfl
                            rintro _ rfl
                            refine op1 (s_pick rfl rfl ?_)
                            exact ⟨rfl, grown_none_refl _⟩
                          · intro w131 k129
                            have hb128 := below_g0 hb120 k129
                            rintro _ rfl
                            refine op1 (s_move rfl ?_)
                            exact ⟨(by rw [decide_eq_false h10]), grown_none_refl _⟩
                          · intro w132 k130
                            have hb129 := below_g0 hb120 k130
                            rintro _ rfl
                            refine op1g (s_move rfl ?_)
                            exact ⟨rfl, grown_none_refl _⟩
                          · intro w133 k131
                            have hb130 := below_g0 hb120 k131
                            rintro _ rfl
                            rintro _ rfl
                            refine op1g (s_gt rfl rfl ?_)
                            exact ⟨rfl, grown_none_refl _⟩
                          · intro w134 k132
                            have hb131 := below_g0 hb120 k132
                            rintro _ rfl
                            rintro _ rfl
                            refine op1g (s_move rfl ?_)
                            exact ⟨(by rw [decide_eq_true h11]), grown_none_refl _⟩
                          · intro w135 k133
                            have hb132 := below_g0 hb120 k133
                            rintro _ rfl
                            refine op1g (s_move rfl ?_)
                            exact ⟨rfl, grown_none_refl _⟩
                          · intro w136 k134
                            have hb133 := below_g0 hb120 k134
                            rintro _ rfl
                            refine op1g (s_move rfl ?_)
                            exact ⟨rfl, grown_none_refl _⟩
                          · intro w137 k135
                            have hb134 := below_g0 hb120 k135
                            rintro _ rfl
                            rintro _ rfl
                            refine op1g (s_sub rfl rfl (by omega) ?_)
                            exact ⟨rfl, grown_none_refl _⟩
                          · intro w138 k136
                            have hb135 := below_g0 hb120 k136
                            rintro _ rfl
                            intro v_ hv_; subst v_
                            rintro _ rfl
                            refine op1g (s_idxat sl22 rfl rfl hat4 ?_)
                            exact ⟨rfl, grown_none_refl _⟩
                          · intro w139 k137
                            have hb136 := below_g0 hb120 k137
                            rintro _ rfl
                            rintro _ rfl
                            refine op1g (s_faddr fld35_0 rfl ?_)
                            exact ⟨rfl, grown_none_refl _⟩
                          · intro w140 k138
                            have hb137 := below_g0 hb120 k138
                            rintro _ rfl
                            rintro _ rfl
                            refine op1g (s_load one3 rfl (range_g0 (range_g0 hc6 k121) k138) (j := 0) rfl ?_)
                            exact ⟨rfl, grown_none_refl _⟩
                          · intro w141 k139
                            have hb138 := below_g0 hb120 k139
                            rintro _ rfl
                            refine op1g (s_move rfl ?_)
                            exact ⟨rfl, grown_none_refl _⟩
                          · intro w142 k140
                            have hb139 := below_g0 hb120 k140
                            rintro _ rfl
                            refine op1g (s_move rfl ?_)
                            exact ⟨rfl, grown_none_refl _⟩
                          · intro w143 k141
                            have hb140 := below_g0 hb120 k141
                            rintro _ rfl
                            intro v_ hv_; subst v_
                            rintro _ rfl
                            refine op1g (s_idxat sl22 rfl rfl hat5 ?_)
                            exact ⟨rfl, grown_none_refl _⟩
                          · intro w144 k142
                            have hb141 := below_g0 hb120 k142
                            rintro _ rfl
                            rintro _ rfl
                            refine op1g (s_faddr fld35_0 rfl ?_)
                            exact ⟨rfl, grown_none_refl _⟩
                          · intro w145 k143
                            have hb142 := below_g0 hb120 k143
                            rintro _ rfl
                            rintro _ rfl
                            refine op1g (s_load one3 rfl (range_g0 (range_g0 hc7 k121) k143) (j := 0) rfl ?_)
                            exact ⟨rfl, grown_none_refl _⟩
                          · intro w146 k144
                            have hb143 := below_g0 hb120 k144
                            rintro _ rfl
                            rintro _ rfl
                            refine op1g (s_sub rfl rfl (by omega) ?_)
                            exact ⟨rfl, grown_none_refl _⟩
                          · intro w147 k145
                            have hb144 := below_g0 hb120 k145
                            rintro _ rfl
                            rintro _ rfl
                            rintro _ rfl
                            refine op1g (s_ne rfl rfl ?_)
                            exact ⟨rfl, grown_none_refl _⟩
                          · intro w148 k146
                            have hb145 := below_g0 hb120 k146
                            rintro _ rfl
                            rintro _ rfl
                            rintro _ rfl
                            refine op1g (s_pick rfl rfl ?_)
                            exact ⟨rfl, grown_none_refl _⟩
                          · intro w149 k147
                            have hb146 := below_g0 hb120 k147
                            rintro _ rfl
                            rintro _ rfl
                            refine op1 (s_pick rfl rfl ?_)
                            exact ⟨rfl, grown_none_refl _⟩
                          · intro w150 k148
                            have hb147 := below_g0 hb120 k148
                            rintro _ rfl
                            rintro _ rfl
                            rintro _ rfl
                            rintro _ rfl
                            rintro _ rfl
                            rintro _ rfl
                            rintro _ rfl
                            rintro _ rfl
                            rintro _ rfl
                            rintro _ rfl
                            rintro _ rfl
                            intro v_ hv_; subst v_
                            rintro _ rfl
                            rintro _ rfl
                            rintro _ rfl
                            rintro _ rfl
                            rintro _ rfl
                            intro v_ hv_; subst v_
                            rintro _ rfl
                            rintro _ rfl
                            rintro _ rfl
                            rintro _ rfl
                            rintro _ rfl
                            rintro _ rfl
                            rintro _ rfl
                            rintro _ rfl
                            refine r_end ?_
                            refine n_then ?_
                            refine w_condP rfl (fun h12 => ?_) (fun h12 => ?_)
                            · refine w_seq ?_
                              refine w_region ?_
                              refine st (s_assign rfl ?_)
                              refine r_end ?_
                              refine n_then ?_
                              refine w_ret1 rfl rfl ?_
                              exfalso
                              first | omega | exact absurd hl_ok (by simp [h12])
                            · refine w_skip' ?_
                              refine n_block ?_
                              refine n_then ?_
                              refine w_region ?_
                              refine st (s_move rfl ?_)
                              refine st (s_add rfl rfl (by omega) ?_)
                              refine st (s_assign rfl ?_)
                              refine r_end ?_
                              exact n_round ((k + 1)) ⟨hb147, by omega, ((hBl2.g0 k121).g0 k148)⟩ (by omega) (by exact ⟨rfl, rfl, rfl, rfl, trivial⟩)
                        · refine w_draw 26 (fun a b => a.grownBy b none) [(some 69, fun v _ => v = .int .i64 (sel4 ((ix l i).k0) ((ix l i).k1) ((ix l i).k2) ((ix l i).k3) k)), (some 70, fun v _ => v = .bool (decide ((sel4 ((ix l i).k0) ((ix l i).k1) ((ix l i).k2) ((ix l i).k3) k) < 0))), (some 71, fun v _ => v = .bool false), (some 72, fun v _ => v = .int .i64 (sel4 ((ix l i).k0) ((ix l i).k1) ((ix l i).k2) ((ix l i).k3) k)), (some 73, fun v _ => v = .int .i64 i), (some 74, fun v _ => v = .bool (decide (i < (sel4 ((ix l i).k0) ((ix l i).k1) ((ix l i).k2) ((ix l i).k3) k)))), (some 75, fun v _ => v = .bool (decide (i < (sel4 ((ix l i).k0) ((ix l i).k1) ((ix l i).k2) ((ix l i).k3) k)))), (some 76, fun v _ => v = .bool false), (some 77, fun v _ => v = .int .i64 (sel4 ((ix l i).k0) ((ix l i).k1) ((ix l i).k2) ((ix l i).k3) k)), (some 78, fun v _ => v = .bool (decide (0 < (sel4 ((ix l i).k0) ((ix l i).k1) ((ix l i).k2) ((ix l i).k3) k)))), (some 79, fun v _ => v = .bool false), (some 80, fun v _ => v = undef), (some 81, fun v _ => v = undef), (some 82, fun v _ => v = undef), (some 83, fun v _ => v = undef), (some 84, fun v _ => v = undef), (some 85, fun v _ => v = undef), (some 86, fun v _ => v = undef), (some 87, fun v _ => v = undef), (some 88, fun v _ => v = undef), (some 89, fun v _ => v = undef), (some 90, fun v _ => v = undef), (some 91, fun v _ => v = undef), (some 92, fun v _ => v = undef), (some 93, fun v _ => v = .bool false), (some 94, fun v _ => v = .bool false)] [[], [0], [1], [2], [2], [2, 3, 4], [2, 5], [6], [7], [7, 8], [7, 9], [10], [10], [10, 12], [10, 11, 13], [10, 14], [10, 15], [10], [10], [10, 17, 18], [10, 19], [10, 20], [10, 21], [10, 16, 22], [7, 10, 23], [7, 24]] [(0, va), (3, .pointer (some ⟨g1, 0, none⟩)), (4, .int .i64 i), (5, .int .i64 k), (6, .int .i64 (sel4 ((ix l i).k0) ((ix l i).k1) ((ix l i).k2) ((ix l i).k3) k))] (by exact ⟨rfl, rfl, rfl, rfl, rfl, trivial⟩) (by kernel_rfl) (by kernel_rfl) grown_none_refl (fun _ _ _ => grown_none_trans) ⟨fun _ _ _ h _ => h, fun _ _ _ h _ => h, fun _ _ _ h _ => h, fun _ _ _ h _ => h, fun _ _ _ h _ => h, fun _ _ _ h _ => h, fun _ _ _ h _ => h, fun _ _ _ h _ => h, fun _ _ _ h _ => h, fun _ _ _ h _ => h, fun _ _ _ h _ => h, fun _ _ _ h _ => h, fun _ _ _ h _ => h, fun _ _ _ h _ => h, fun _ _ _ h _ => h, fun _ _ _ h _ => h, fun _ _ _ h _ => h, fun _ _ _ h _ => h, fun _ _ _ h _ => h, fun _ _ _ h _ => h, fun _ _ _ h _ => h, fun _ _ _ h _ => h, fun _ _ _ h _ => h, fun _ _ _ h _ => h, fun _ _ _ h _ => h, fun _ _ _ h _ => h, trivial⟩ ?_
                          intro w151 k149 hs8
                          have hb148 := below_g0 hb63 k149
                          refine ⟨⟨?_, ?_, ?_, ?_, ?_, ?_, ?_, ?_, ?_, ?_, ?_, ?_, ?_, ?_, ?_, ?_, ?_, ?_, ?_, ?_, ?_, ?_, ?_, ?_, ?_, ?_, trivial⟩, ?_⟩
                          · intro w152 k150
                            have hb149 := below_g0 hb148 k150
                            refine op1 (s_move rfl ?_)
                            exact ⟨rfl, grown_none_refl _⟩
                          · intro w153 k151
                            have hb150 := below_g0 hb148 k151
                            rintro _ rfl
                            refine op1 (s_lt rfl rfl ?_)
                            exact ⟨rfl, grown_none_refl _⟩
                          · intro w154 k152
                            have hb151 := below_g0 hb148 k152
                            rintro _ rfl
                            refine op1 (s_move rfl ?_)
                            exact ⟨(by rw [decide_eq_false h9]), grown_none_refl _⟩
                          · intro w155 k153
                            have hb152 := below_g0 hb148 k153
                            rintro _ rfl
                            refine op1g (s_move rfl ?_)
                            exact ⟨rfl, grown_none_refl _⟩
                          · intro w156 k154
                            have hb153 := below_g0 hb148 k154
                            rintro _ rfl
                            refine op1g (s_move rfl ?_)
                            exact ⟨rfl, grown_none_refl _⟩
                          · intro w157 k155
                            have hb154 := below_g0 hb148 k155
                            rintro _ rfl
                            rintro _ rfl
                            rintro _ rfl
                            refine op1g (s_gt rfl rfl ?_)
                            exact ⟨rfl, grown_none_refl _⟩
                          · intro w158 k156
                            have hb155 := below_g0 hb148 k156
                            rintro _ rfl
                            rintro _ rfl
                            refine op1 (s_pick rfl rfl ?_)
                            exact ⟨rfl, grown_none_refl _⟩
                          · intro w159 k157
                            have hb156 := below_g0 hb148 k157
                            rintro _ rfl
                            refine op1 (s_move rfl ?_)
                            exact ⟨(by rw [decide_eq_false h10]), grown_none_refl _⟩
                          · intro w160 k158
                            have hb157 := below_g0 hb148 k158
                            rintro _ rfl
                            refine op1g (s_move rfl ?_)
                            exact ⟨rfl, grown_none_refl _⟩
                          · intro w161 k159
                            have hb158 := below_g0 hb148 k159
                            rintro _ rfl
                            rintro _ rfl
                            refine op1g (s_gt rfl rfl ?_)
                            exact ⟨rfl, grown_none_refl _⟩
                          · intro w162 k160
                            have hb159 := below_g0 hb148 k160
                            rintro _ rfl
                            rintro _ rfl
                            refine op1g (s_move rfl ?_)
                            exact ⟨(by rw [decide_eq_false h11]), grown_none_refl _⟩
                          · intro w163 k161
                            have hb160 := below_g0 hb148 k161
                            rintro _ rfl
                            refine op1p ⟨rfl, grown_none_refl _⟩
                          · intro w164 k162
                            have hb161 := below_g0 hb148 k162
                            rintro _ rfl
                            refine op1p ⟨rfl, grown_none_refl _⟩
                          · intro w165 k163
                            have hb162 := below_g0 hb148 k163
                            rintro _ rfl
                            intro v_ hv_; subst v_
                            refine op1p ⟨rfl, grown_none_refl _⟩
                          · intro w166 k164
                            have hb163 := below_g0 hb148 k164
                            rintro _ rfl
                            intro v_ hv_; subst v_
                            intro v_ hv_; subst v_
                            refine op1p ⟨rfl, grown_none_refl _⟩
                          · intro w167 k165
                            have hb164 := below_g0 hb148 k165
                            rintro _ rfl
                            intro v_ hv_; subst v_
                            refine op1p ⟨rfl, grown_none_refl _⟩
                          · intro w168 k166
                            have hb165 := below_g0 hb148 k166
                            rintro _ rfl
                            intro v_ hv_; subst v_
                            refine op1p ⟨rfl, grown_none_refl _⟩
                          · intro w169 k167
                            have hb166 := below_g0 hb148 k167
                            rintro _ rfl
                            refine op1p ⟨rfl, grown_none_refl _⟩
                          · intro w170 k168
                            have hb167 := below_g0 hb148 k168
                            rintro _ rfl
                            refine op1p ⟨rfl, grown_none_refl _⟩
                          · intro w171 k169
                            have hb168 := below_g0 hb148 k169
                            rintro _ rfl
                            intro v_ hv_; subst v_
                            intro v_ hv_; subst v_
                            refine op1p ⟨rfl, grown_none_refl _⟩
                          · intro w172 k170
                            have hb169 := below_g0 hb148 k170
                            rintro _ rfl
                            intro v_ hv_; subst v_
                            refine op1p ⟨rfl, grown_none_refl _⟩
                          · intro w173 k171
                            have hb170 := below_g0 hb148 k171
                            rintro _ rfl
                            intro v_ hv_; subst v_
                            refine op1p ⟨rfl, grown_none_refl _⟩
                          · intro w174 k172
                            have hb171 := below_g0 hb148 k172
                            rintro _ rfl
                            intro v_ hv_; subst v_
                            refine op1p ⟨rfl, grown_none_refl _⟩
                          · intro w175 k173
                            have hb172 := below_g0 hb148 k173
                            rintro _ rfl
                            intro v_ hv_; subst v_
                            intro v_ hv_; subst v_
                            refine op1p ⟨rfl, grown_none_refl _⟩
                          · intro w176 k174
                            have hb173 := below_g0 hb148 k174
                            rintro _ rfl
                            rintro _ rfl
                            intro v_ hv_; subst v_
                            refine op1g (s_pick rfl rfl ?_)
                            exact ⟨rfl, grown_none_refl _⟩
                          · intro w177 k175
                            have hb174 := below_g0 hb148 k175
                            rintro _ rfl
                            rintro _ rfl
                            refine op1 (s_pick rfl rfl ?_)
                            exact ⟨rfl, grown_none_refl _⟩
                          · intro w178 k176
                            have hb175 := below_g0 hb148 k176
                            rintro _ rfl
                            rintro _ rfl
                            rintro _ rfl
                            rintro _ rfl
                            rintro _ rfl
                            rintro _ rfl
                            rintro _ rfl
                            rintro _ rfl
                            rintro _ rfl
                            rintro _ rfl
                            rintro _ rfl
                            intro v_ hv_; subst v_
                            intro v_ hv_; subst v_
                            intro v_ hv_; subst v_
                            intro v_ hv_; subst v_
                            intro v_ hv_; subst v_
                            intro v_ hv_; subst v_
                            intro v_ hv_; subst v_
                            intro v_ hv_; subst v_
                            intro v_ hv_; subst v_
                            intro v_ hv_; subst v_
                            intro v_ hv_; subst v_
                            intro v_ hv_; subst v_
                            intro v_ hv_; subst v_
                            rintro _ rfl
                            rintro _ rfl
                            refine r_end ?_
                            refine n_then ?_
                            refine w_condF rfl ?_
                            refine w_skip' ?_
                            refine n_block ?_
                            refine n_then ?_
                            refine w_region ?_
                            refine st (s_move rfl ?_)
                            refine st (s_add rfl rfl (by omega) ?_)
                            refine st (s_assign rfl ?_)
                            refine r_end ?_
                            exact n_round ((k + 1)) ⟨hb175, by omega, ((hBl2.g0 k149).g0 k176)⟩ (by omega) (by exact ⟨rfl, rfl, rfl, rfl, trivial⟩)
                  · refine w_exit' ?_
                    refine n_then_exit ?_
                    refine n_then_exit ?_
                    refine n_block_exit ?_
                    refine n_block ?_
                    refine n_then ?_
                    refine w_region ?_
                    refine st (s_move rfl ?_)
                    refine st (s_add rfl rfl (by omega) ?_)
                    refine st (s_assign rfl ?_)
                    refine r_end ?_
                    exact n_round ((i + 1)) ⟨hb63, by omega, hBl2⟩ (by omega) (by exact ⟨rfl, rfl, rfl, trivial⟩)
                · refine s_pass rfl rfl ?_
                  refine s_pass rfl rfl ?_
                  refine s_pass rfl rfl ?_
                  refine s_pass rfl rfl ?_
                  refine s_pass rfl rfl ?_
                  refine s_pass rfl rfl ?_
                  refine st (s_pick rfl rfl ?_)
                  refine r_end ?_
                  refine n_then ?_
                  refine w_condF rfl ?_
                  refine w_exit' ?_
                  refine n_then_exit ?_
                  refine n_then_exit ?_
                  refine n_block_exit ?_
                  refine n_block ?_
                  refine n_then ?_
                  refine w_region ?_
                  refine st (s_move rfl ?_)
                  refine st (s_add rfl rfl (by omega) ?_)
                  refine st (s_assign rfl ?_)
                  refine r_end ?_
                  exact n_round ((i + 1)) ⟨hb63, by omega, hBl2⟩ (by omega) (by exact ⟨rfl, rfl, rfl, trivial⟩)
          · obtain ⟨b8, o8, _, hat6, ⟨rfl, _⟩, hc8, hF8, hlt8⟩ := (hl.at0 hb5).elem i (by omega) (by omega)
            have hl_8 := Loc.lt hF8
            obtain ⟨b9, o9, _, hat7, ⟨rfl, _⟩, hc9, hF9, hlt9⟩ := (hl.at0 hb5).elem i (by omega) (by omega)
            have hl_9 := Loc.lt hF9
            refine w_draw 25 (fun a b => a.grownBy b none) [(some 25, fun v _ => v = va), (some 26, fun v _ => v = .int .i64 i), (some 27, fun v _ => v = .pointer (some ⟨b8, o8, none⟩)), (some 28, fun v _ => v = .pointer (some ⟨b8, o8 + 0, none⟩)), (some 29, fun v _ => v = .int .i64 ((ix l i).lv)), (some 30, fun v _ => v = .agg [va].toArray), (some 31, fun v _ => v = .int .i64 (levelN l)), (some 32, fun v _ => v = .bool (decide (levelN l < (ix l i).lv))), (some 33, fun v _ => v = .bool false), (some 34, fun v _ => v = va), (some 35, fun v _ => v = .int .i64 i), (some 36, fun v _ => v = .pointer (some ⟨b9, o9, none⟩)), (some 37, fun v _ => v = .pointer (some ⟨b9, o9 + 0, none⟩)), (some 38, fun v _ => v = .int .i64 ((ix l i).lv)), (some 39, fun v _ => v = .agg [va].toArray), (some 40, fun v _ => v = .int .i64 (levelN l)), (some 41, fun v _ => v = .bool (decide ((ix l i).lv = levelN l))), (some 42, fun v _ => v = .bool false), (some 43, fun v _ => v = undef), (some 44, fun v _ => v = undef), (some 45, fun v _ => v = undef), (some 46, fun v _ => v = undef), (some 47, fun v _ => v = undef), (some 48, fun v _ => v = .bool false), (some 49, fun v _ => v = .bool false)] [[], [], [0, 1], [2], [3], [], [5], [4, 6], [7], [8], [8], [8, 9, 10], [8, 11], [8, 12], [8], [8, 14], [8, 13, 15], [8, 16], [17], [17], [17, 19], [17, 20], [17, 18, 21], [8, 17, 22], [8, 23]] [(0, va), (3, .pointer (some ⟨g1, 0, none⟩)), (4, .int .i64 i)] (by exact ⟨rfl, rfl, rfl, trivial⟩) (by kernel_rfl) (by kernel_rfl) grown_none_refl (fun _ _ _ => grown_none_trans) ⟨fun _ _ _ h _ => h, fun _ _ _ h _ => h, fun _ _ _ h _ => h, fun _ _ _ h _ => h, fun _ _ _ h _ => h, fun _ _ _ h _ => h, fun _ _ _ h _ => h, fun _ _ _ h _ => h, fun _ _ _ h _ => h, fun _ _ _ h _ => h, fun _ _ _ h _ => h, fun _ _ _ h _ => h, fun _ _ _ h _ => h, fun _ _ _ h _ => h, fun _ _ _ h _ => h, fun _ _ _ h _ => h, fun _ _ _ h _ => h, fun _ _ _ h _ => h, fun _ _ _ h _ => h, fun _ _ _ h _ => h, fun _ _ _ h _ => h, fun _ _ _ h _ => h, fun _ _ _ h _ => h, fun _ _ _ h _ => h, fun _ _ _ h _ => h, trivial⟩ ?_
            intro w181 k179 hs9
            have hb176 := below_g0 hb5 k179
            refine ⟨⟨?_, ?_, ?_, ?_, ?_, ?_, ?_, ?_, ?_, ?_, ?_, ?_, ?_, ?_, ?_, ?_, ?_, ?_, ?_, ?_, ?_, ?_, ?_, ?_, ?_, trivial⟩, ?_⟩
            · intro w182 k180
              have hb177 := below_g0 hb176 k180
              refine op1 (s_move rfl ?_)
              exact ⟨rfl, grown_none_refl _⟩
            · intro w183 k181
              have hb178 := below_g0 hb176 k181
              refine op1 (s_move rfl ?_)
              exact ⟨rfl, grown_none_refl _⟩
            · intro w184 k182
              have hb179 := below_g0 hb176 k182
              intro v_ hv_; subst v_
              rintro _ rfl
              refine op1 (s_idxat sl22 rfl rfl hat6 ?_)
              exact ⟨rfl, grown_none_refl _⟩
            · intro w185 k183
              have hb180 := below_g0 hb176 k183
              rintro _ rfl
              refine op1 (s_faddr fld35_0 rfl ?_)
              exact ⟨rfl, grown_none_refl _⟩
            · intro w186 k184
              have hb181 := below_g0 hb176 k184
              rintro _ rfl
              refine op1 (s_load one3 rfl (range_g0 (range_g0 hc8 k179) k184) (j := 0) rfl ?_)
              exact ⟨rfl, grown_none_refl _⟩
            · intro w187 k185
              have hb182 := below_g0 hb176 k185
              refine op1 (s_loadW row27 rfl ((hBl1.g0 k179).g0 k185).range rfl ?_)
              exact ⟨rfl, grown_none_refl _⟩
            · intro w188 k186
              have hb183 := below_g0 hb176 k186
              rintro _ rfl
              refine op1 (s_call fn19 rfl (level_any (hl.at0 hb183)) ?_)
              rintro _ w189 ⟨hq11, rfl⟩
              have k187 := grown_of_below hq11 none
              have hz12 := hq11.size
              have hb184 := below_g0 hb183 k187
              have hz13 := hb184.size
              exact ⟨rfl, k187⟩
            · intro w190 k188
              have hb185 := below_g0 hb176 k188
              rintro _ rfl
              rintro _ rfl
              refine op1 (s_gt rfl rfl ?_)
              exact ⟨rfl, grown_none_refl _⟩
            · intro w191 k189
              have hb186 := below_g0 hb176 k189
              rintro _ rfl
              refine op1 (s_move rfl ?_)
              exact ⟨(by rw [decide_eq_false h4]), grown_none_refl _⟩
            · intro w192 k190
              have hb187 := below_g0 hb176 k190
              rintro _ rfl
              refine op1g (s_move rfl ?_)
              exact ⟨rfl, grown_none_refl _⟩
            · intro w193 k191
              have hb188 := below_g0 hb176 k191
              rintro _ rfl
              refine op1g (s_move rfl ?_)
              exact ⟨rfl, grown_none_refl _⟩
            · intro w194 k192
              have hb189 := below_g0 hb176 k192
              rintro _ rfl
              intro v_ hv_; subst v_
              rintro _ rfl
              refine op1g (s_idxat sl22 rfl rfl hat7 ?_)
              exact ⟨rfl, grown_none_refl _⟩
            · intro w195 k193
              have hb190 := below_g0 hb176 k193
              rintro _ rfl
              rintro _ rfl
              refine op1g (s_faddr fld35_0 rfl ?_)
              exact ⟨rfl, grown_none_refl _⟩
            · intro w196 k194
              have hb191 := below_g0 hb176 k194
              rintro _ rfl
              rintro _ rfl
              refine op1g (s_load one3 rfl (range_g0 (range_g0 hc9 k179) k194) (j := 0) rfl ?_)
              exact ⟨rfl, grown_none_refl _⟩
            · intro w197 k195
              have hb192 := below_g0 hb176 k195
              rintro _ rfl
              refine op1g (s_loadW row27 rfl ((hBl1.g0 k179).g0 k195).range rfl ?_)
              exact ⟨rfl, grown_none_refl _⟩
            · intro w198 k196
              have hb193 := below_g0 hb176 k196
              rintro _ rfl
              rintro _ rfl
              refine op1g (s_call fn19 rfl (level_any (hl.at0 hb193)) ?_)
              rintro _ w199 ⟨hq12, rfl⟩
              have k197 := grown_of_below hq12 none
              have hz14 := hq12.size
              have hb194 := below_g0 hb193 k197
              have hz15 := hb194.size
              exact ⟨rfl, k197⟩
            · intro w200 k198
              have hb195 := below_g0 hb176 k198
              rintro _ rfl
              rintro _ rfl
              rintro _ rfl
              refine op1g (s_eq rfl rfl ?_)
              exact ⟨rfl, grown_none_refl _⟩
            · intro w201 k199
              have hb196 := below_g0 hb176 k199
              rintro _ rfl
              rintro _ rfl
              refine op1g (s_move rfl ?_)
              exact ⟨(by rw [decide_eq_false h5]), grown_none_refl _⟩
            · intro w202 k200
              have hb197 := below_g0 hb176 k200
              rintro _ rfl
              refine op1p ⟨rfl, grown_none_refl _⟩
            · intro w203 k201
              have hb198 := below_g0 hb176 k201
              rintro _ rfl
              refine op1p ⟨rfl, grown_none_refl _⟩
            · intro w204 k202
              have hb199 := below_g0 hb176 k202
              rintro _ rfl
              intro v_ hv_; subst v_
              refine op1p ⟨rfl, grown_none_refl _⟩
            · intro w205 k203
              have hb200 := below_g0 hb176 k203
              rintro _ rfl
              intro v_ hv_; subst v_
              refine op1p ⟨rfl, grown_none_refl _⟩
            · intro w206 k204
              have hb201 := below_g0 hb176 k204
              rintro _ rfl
              intro v_ hv_; subst v_
              intro v_ hv_; subst v_
              refine op1p ⟨rfl, grown_none_refl _⟩
            · intro w207 k205
              have hb202 := below_g0 hb176 k205
              rintro _ rfl
              rintro _ rfl
              intro v_ hv_; subst v_
              refine op1g (s_pick rfl rfl ?_)
              exact ⟨rfl, grown_none_refl _⟩
            · intro w208 k206
              have hb203 := below_g0 hb176 k206
              rintro _ rfl
              rintro _ rfl
              refine op1 (s_pick rfl rfl ?_)
              exact ⟨rfl, grown_none_refl _⟩
            · intro w209 k207
              have hb204 := below_g0 hb176 k207
              intro v_ hv_; subst v_
              rintro _ rfl
              rintro _ rfl
              rintro _ rfl
              rintro _ rfl
              rintro _ rfl
              rintro _ rfl
              rintro _ rfl
              rintro _ rfl
              intro v_ hv_; subst v_
              rintro _ rfl
              rintro _ rfl
              rintro _ rfl
              rintro _ rfl
              rintro _ rfl
              rintro _ rfl
              rintro _ rfl
              rintro _ rfl
              intro v_ hv_; subst v_
              intro v_ hv_; subst v_
              intro v_ hv_; subst v_
              intro v_ hv_; subst v_
              intro v_ hv_; subst v_
              rintro _ rfl
              rintro _ rfl
              refine r_end ?_
              refine n_then ?_
              refine w_condF rfl ?_
              refine w_skip' ?_
              refine n_then ?_
              refine w_seq ?_
              refine w_region ?_
              refine st (s_assign rfl ?_)
              refine r_end ?_
              refine n_then ?_
              refine w_block ?_
              refine w_loop (α := Int) (fun (k : Int) => [(0, va), (3, .pointer (some ⟨g1, 0, none⟩)), (4, .int .i64 i), (5, .int .i64 k)]) (fun (k : Int) W => Below w.heap.size w W ∧ (0 ≤ k ∧ k ≤ 4) ∧ (Blk W g1 27 [va].toArray)) (fun (k : Int) => (4 - k).toNat) (0) ⟨hb204, by omega, ((hBl1.g0 k179).g0 k207)⟩ (by exact ⟨rfl, rfl, rfl, rfl, trivial⟩) ?_
              rintro k w210 ⟨hb205, hk, hBl3⟩
              have hz16 := hb205.size
              refine w_seq ?_
              refine w_seq ?_
              refine w_region ?_
              refine st (s_move rfl ?_)
              refine st (s_lt rfl rfl ?_)
              refine st (s_move rfl ?_)
              refine r_caseP 52 rfl (fun h13 => ?_) (fun h13 => ?_)
              · refine stg (s_move rfl ?_)
                refine stg (s_move rfl ?_)
                refine stg (s_idx sl22 rfl rfl (hl.at0 hb205) (by omega) (by omega) ?_)
                rintro b10 o10 _ ⟨rfl, _⟩ hc10 hF10 hlt10
                have hl_10 := Loc.lt hF10
                refine stg (s_faddr fld35_0 rfl ?_)
                refine stg (s_load one3 rfl hc10 (j := 0) rfl ?_)
                refine stg (s_gt rfl rfl ?_)
                refine st (s_pick rfl rfl ?_)
                refine r_end ?_
                refine n_then ?_
                refine w_condP rfl (fun h14 => ?_) (fun h14 => ?_)
                · have hkid : (ix l i).kid k ≠ 0 → _ := fun e => kid_in hl_ok (by omega) hlt hk.1 (by omega) (by omega) e
                  unfold Nd.kid at hkid
                  refine w_skip' ?_
                  refine n_then ?_
                  refine w_seq ?_
                  refine w_block ?_
                  refine w_seq ?_
                  refine w_region ?_
                  refine st (s_move rfl ?_)
                  refine st (s_move rfl ?_)
                  refine st (s_move rfl ?_)
                  refine st (s_idx sl22 rfl rfl (hl.at0 hb205) (by omega) (by omega) ?_)
                  rintro b11 o11 _ ⟨rfl, _⟩ hc11 hF11 hlt11
                  have hl_11 := Loc.lt hF11
                  refine st (s_faddr fld35_1 rfl ?_)
                  refine st (s_iaddr arr33 rfl rfl (by omega) (by omega) ?_)
                  refine st (s_load4 one3 rfl hc11 (j := 1) rfl rfl (by omega) (by omega) ?_)
                  refine st (s_assign rfl ?_)
                  refine r_end ?_
                  refine n_then ?_
                  refine w_seq ?_
                  by_cases h15 : (sel4 ((ix l i).k0) ((ix l i).k1) ((ix l i).k2) ((ix l i).k3) k) < 0
                  · refine w_draw 26 (fun a b => a.grownBy b none) [(some 69, fun v _ => v = .int .i64 (sel4 ((ix l i).k0) ((ix l i).k1) ((ix l i).k2) ((ix l i).k3) k)), (some 70, fun v _ => v = .bool (decide ((sel4 ((ix l i).k0) ((ix l i).k1) ((ix l i).k2) ((ix l i).k3) k) < 0))), (some 71, fun v _ => v = .bool true), (some 72, fun v _ => v = undef), (some 73, fun v _ => v = undef), (some 74, fun v _ => v = undef), (some 75, fun v _ => v = .bool true), (some 76, fun v _ => v = .bool true), (some 77, fun v _ => v = undef), (some 78, fun v _ => v = undef), (some 79, fun v _ => v = undef), (some 80, fun v _ => v = undef), (some 81, fun v _ => v = undef), (some 82, fun v _ => v = undef), (some 83, fun v _ => v = undef), (some 84, fun v _ => v = undef), (some 85, fun v _ => v = undef), (some 86, fun v _ => v = undef), (some 87, fun v _ => v = undef), (some 88, fun v _ => v = undef), (some 89, fun v _ => v = undef), (some 90, fun v _ => v = undef), (some 91, fun v _ => v = undef), (some 92, fun v _ => v = undef), (some 93, fun v _ => v = undef), (some 94, fun v _ => v = .bool true)] [[], [0], [1], [2], [2], [2, 3, 4], [2, 5], [6], [7], [7, 8], [7, 9], [10], [10], [10, 12], [10, 11, 13], [10, 14], [10, 15], [10], [10], [10, 17, 18], [10, 19], [10, 20], [10, 21], [10, 16, 22], [7, 10, 23], [7, 24]] [(0, va), (3, .pointer (some ⟨g1, 0, none⟩)), (4, .int .i64 i), (5, .int .i64 k), (6, .int .i64 (sel4 ((ix l i).k0) ((ix l i).k1) ((ix l i).k2) ((ix l i).k3) k))] (by exact ⟨rfl, rfl, rfl, rfl, rfl, trivial⟩) (by kernel_rfl) (by kernel_rfl) grown_none_refl (fun _ _ _ => grown_none_trans) ⟨fun _ _ _ h _ => h, fun _ _ _ h _ => h, fun _ _ _ h _ => h, fun _ _ _ h _ => h, fun _ _ _ h _ => h, fun _ _ _ h _ => h, fun _ _ _ h _ => h, fun _ _ _ h _ => h, fun _ _ _ h _ => h, fun _ _ _ h _ => h, fun _ _ _ h _ => h, fun _ _ _ h _ => h, fun _ _ _ h _ => h, fun _ _ _ h _ => h, fun _ _ _ h _ => h, fun _ _ _ h _ => h, fun _ _ _ h _ => h, fun _ _ _ h _ => h, fun _ _ _ h _ => h, fun _ _ _ h _ => h, fun _ _ _ h _ => h, fun _ _ _ h _ => h, fun _ _ _ h _ => h, fun _ _ _ h _ => h, fun _ _ _ h _ => h, fun _ _ _ h _ => h, trivial⟩ ?_
                    intro w211 k208 hs10
                    have hb206 := below_g0 hb205 k208
                    refine ⟨⟨?_, ?_, ?_, ?_, ?_, ?_, ?_, ?_, ?_, ?_, ?_, ?_, ?_, ?_, ?_, ?_, ?_, ?_, ?_, ?_, ?_, ?_, ?_, ?_, ?_, ?_, trivial⟩, ?_⟩
                    · intro w212 k209
                      have hb207 := below_g0 hb206 k209
                      refine op1 (s_move rfl ?_)
                      exact ⟨rfl, grown_none_refl _⟩
                    · intro w213 k210
                      have hb208 := below_g0 hb206 k210
                      rintro _ rfl
                      refine op1 (s_lt rfl rfl ?_)
                      exact ⟨rfl, grown_none_refl _⟩
                    · intro w214 k211
                      have hb209 := below_g0 hb206 k211
                      rintro _ rfl
                      refine op1 (s_move rfl ?_)
                      exact ⟨(by rw [decide_eq_true h15]), grown_none_refl _⟩
                    · intro w215 k212
                      have hb210 := below_g0 hb206 k212
                      rintro _ rfl
                      refine op1p ⟨rfl, grown_none_refl _⟩
                    · intro w216 k213
                      have hb211 := below_g0 hb206 k213
                      rintro _ rfl
                      refine op1p ⟨rfl, grown_none_refl _⟩
                    · intro w217 k214
                      have hb212 := below_g0 hb206 k214
                      rintro _ rfl
                      intro v_ hv_; subst v_
                      intro v_ hv_; subst v_
                      refine op1p ⟨rfl, grown_none_refl _⟩
                    · intro w218 k215
                      have hb213 := below_g0 hb206 k215
                      rintro _ rfl
                      intro v_ hv_; subst v_
                      refine op1 (s_pick rfl rfl ?_)
                      exact ⟨rfl, grown_none_refl _⟩
                    · intro w219 k216
                      have hb214 := below_g0 hb206 k216
                      rintro _ rfl
                      refine op1 (s_move rfl ?_)
                      exact ⟨rfl, grown_none_refl _⟩
                    · intro w220 k217
                      have hb215 := below_g0 hb206 k217
                      rintro _ rfl
                      refine op1p ⟨rfl, grown_none_refl _⟩
                    · intro w221 k218
                      have hb216 := below_g0 hb206 k218
                      rintro _ rfl
                      intro v_ hv_; subst v_
                      refine op1p ⟨rfl, grown_none_refl _⟩
                    · intro w222 k219
                      have hb217 := below_g0 hb206 k219
                      rintro _ rfl
                      intro v_ hv_; subst v_
                      refine op1p ⟨rfl, grown_none_refl _⟩
                    · intro w223 k220
                      have hb218 := below_g0 hb206 k220
                      intro v_ hv_; subst v_
                      refine op1u ⟨rfl, grown_none_refl _⟩
                    · intro w224 k221
                      have hb219 := below_g0 hb206 k221
                      intro v_ hv_; subst v_
                      refine op1u ⟨rfl, grown_none_refl _⟩
                    · intro w225 k222
                      have hb220 := below_g0 hb206 k222
                      intro v_ hv_; subst v_
                      intro v_ hv_; subst v_
                      refine op1u ⟨rfl, grown_none_refl _⟩
                    · intro w226 k223
                      have hb221 := below_g0 hb206 k223
                      intro v_ hv_; subst v_
                      intro v_ hv_; subst v_
                      intro v_ hv_; subst v_
                      refine op1u ⟨rfl, grown_none_refl _⟩
                    · intro w227 k224
                      have hb222 := below_g0 hb206 k224
                      intro v_ hv_; subst v_
                      intro v_ hv_; subst v_
                      refine op1u ⟨rfl, grown_none_refl _⟩
                    · intro w228 k225
                      have hb223 := below_g0 hb206 k225
                      intro v_ hv_; subst v_
                      intro v_ hv_; subst v_
                      refine op1u ⟨rfl, grown_none_refl _⟩
                    · intro w229 k226
                      have hb224 := below_g0 hb206 k226
                      intro v_ hv_; subst v_
                      refine op1u ⟨rfl, grown_none_refl _⟩
                    · intro w230 k227
                      have hb225 := below_g0 hb206 k227
                      intro v_ hv_; subst v_
                      refine op1u ⟨rfl, grown_none_refl _⟩
                    · intro w231 k228
                      have hb226 := below_g0 hb206 k228
                      intro v_ hv_; subst v_
                      intro v_ hv_; subst v_
                      intro v_ hv_; subst v_
                      refine op1u ⟨rfl, grown_none_refl _⟩
                    · intro w232 k229
                      have hb227 := below_g0 hb206 k229
                      intro v_ hv_; subst v_
                      intro v_ hv_; subst v_
                      refine op1u ⟨rfl, grown_none_refl _⟩
                    · intro w233 k230
                      have hb228 := below_g0 hb206 k230
                      intro v_ hv_; subst v_
                      intro v_ hv_; subst v_
                      refine op1u ⟨rfl, grown_none_refl _⟩
                    · intro w234 k231
                      have hb229 := below_g0 hb206 k231
                      intro v_ hv_; subst v_
                      intro v_ hv_; subst v_
                      refine op1u ⟨rfl, grown_none_refl _⟩
                    · intro w235 k232
                      have hb230 := below_g0 hb206 k232
                      intro v_ hv_; subst v_
                      intro v_ hv_; subst v_
                      intro v_ hv_; subst v_
                      refine op1u ⟨rfl, grown_none_refl _⟩
                    · intro w236 k233
                      have hb231 := below_g0 hb206 k233
                      rintro _ rfl
                      intro v_ hv_; subst v_
                      intro v_ hv_; subst v_
                      refine op1p ⟨rfl, grown_none_refl _⟩
                    · intro w237 k234
                      have hb232 := below_g0 hb206 k234
                      rintro _ rfl
                      intro v_ hv_; subst v_
                      refine op1 (s_pick rfl rfl ?_)
                      exact ⟨rfl, grown_none_refl _⟩
                    · intro w238 k235
                      have hb233 := below_g0 hb206 k235
                      rintro _ rfl
                      rintro _ rfl
                      rintro _ rfl
                      intro v_ hv_; subst v_
                      intro v_ hv_; subst v_
                      intro v_ hv_; subst v_
                      rintro _ rfl
                      rintro _ rfl
                      intro v_ hv_; subst v_
                      intro v_ hv_; subst v_
                      intro v_ hv_; subst v_
                      intro v_ hv_; subst v_
                      intro v_ hv_; subst v_
                      intro v_ hv_; subst v_
                      intro v_ hv_; subst v_
                      intro v_ hv_; subst v_
                      intro v_ hv_; subst v_
                      intro v_ hv_; subst v_
                      intro v_ hv_; subst v_
                      intro v_ hv_; subst v_
                      intro v_ hv_; subst v_
                      intro v_ hv_; subst v_
                      intro v_ hv_; subst v_
                      intro v_ hv_; subst v_
                      intro v_ hv_; subst v_
                      rintro _ rfl
                      refine r_end ?_
                      refine n_then ?_
                      refine w_condT rfl ?_
                      refine w_seq ?_
                      refine w_region ?_
                      refine st (s_assign rfl ?_)
                      refine r_end ?_
                      refine n_then ?_
                      refine w_ret1 rfl rfl ?_
                      exfalso
                      first | omega | exact absurd hl_ok (by simp [h15])
                  · by_cases h16 : i < (sel4 ((ix l i).k0) ((ix l i).k1) ((ix l i).k2) ((ix l i).k3) k)
                    · refine w_draw 26 (fun a b => a.grownBy b none) [(some 69, fun v _ => v = .int .i64 (sel4 ((ix l i).k0) ((ix l i).k1) ((ix l i).k2) ((ix l i).k3) k)), (some 70, fun v _ => v = .bool (decide ((sel4 ((ix l i).k0) ((ix l i).k1) ((ix l i).k2) ((ix l i).k3) k) < 0))), (some 71, fun v _ => v = .bool false), (some 72, fun v _ => v = .int .i64 (sel4 ((ix l i).k0) ((ix l i).k1) ((ix l i).k2) ((ix l i).k3) k)), (some 73, fun v _ => v = .int .i64 i), (some 74, fun v _ => v = .bool (decide (i < (sel4 ((ix l i).k0) ((ix l i).k1) ((ix l i).k2) ((ix l i).k3) k)))), (some 75, fun v _ => v = .bool (decide (i < (sel4 ((ix l i).k0) ((ix l i).k1) ((ix l i).k2) ((ix l i).k3) k)))), (some 76, fun v _ => v = .bool true), (some 77, fun v _ => v = undef), (some 78, fun v _ => v = undef), (some 79, fun v _ => v = undef), (some 80, fun v _ => v = undef), (some 81, fun v _ => v = undef), (some 82, fun v _ => v = undef), (some 83, fun v _ => v = undef), (some 84, fun v _ => v = undef), (some 85, fun v _ => v = undef), (some 86, fun v _ => v = undef), (some 87, fun v _ => v = undef), (some 88, fun v _ => v = undef), (some 89, fun v _ => v = undef), (some 90, fun v _ => v = undef), (some 91, fun v _ => v = undef), (some 92, fun v _ => v = undef), (some 93, fun v _ => v = undef), (some 94, fun v _ => v = .bool true)] [[], [0], [1], [2], [2], [2, 3, 4], [2, 5], [6], [7], [7, 8], [7, 9], [10], [10], [10, 12], [10, 11, 13], [10, 14], [10, 15], [10], [10], [10, 17, 18], [10, 19], [10, 20], [10, 21], [10, 16, 22], [7, 10, 23], [7, 24]] [(0, va), (3, .pointer (some ⟨g1, 0, none⟩)), (4, .int .i64 i), (5, .int .i64 k), (6, .int .i64 (sel4 ((ix l i).k0) ((ix l i).k1) ((ix l i).k2) ((ix l i).k3) k))] (by exact ⟨rfl, rfl, rfl, rfl, rfl, trivial⟩) (by kernel_rfl) (by kernel_rfl) grown_none_refl (fun _ _ _ => grown_none_trans) ⟨fun _ _ _ h _ => h, fun _ _ _ h _ => h, fun _ _ _ h _ => h, fun _ _ _ h _ => h, fun _ _ _ h _ => h, fun _ _ _ h _ => h, fun _ _ _ h _ => h, fun _ _ _ h _ => h, fun _ _ _ h _ => h, fun _ _ _ h _ => h, fun _ _ _ h _ => h, fun _ _ _ h _ => h, fun _ _ _ h _ => h, fun _ _ _ h _ => h, fun _ _ _ h _ => h, fun _ _ _ h _ => h, fun _ _ _ h _ => h, fun _ _ _ h _ => h, fun _ _ _ h _ => h, fun _ _ _ h _ => h, fun _ _ _ h _ => h, fun _ _ _ h _ => h, fun _ _ _ h _ => h, fun _ _ _ h _ => h, fun _ _ _ h _ => h, fun _ _ _ h _ => h, trivial⟩ ?_
                      intro w239 k236 hs11
                      have hb234 := below_g0 hb205 k236
                      refine ⟨⟨?_, ?_, ?_, ?_, ?_, ?_, ?_, ?_, ?_, ?_, ?_, ?_, ?_, ?_, ?_, ?_, ?_, ?_, ?_, ?_, ?_, ?_, ?_, ?_, ?_, ?_, trivial⟩, ?_⟩
                      · intro w240 k237
                        have hb235 := below_g0 hb234 k237
                        refine op1 (s_move rfl ?_)
                        exact ⟨rfl, grown_none_refl _⟩
                      · intro w241 k238
                        have hb236 := below_g0 hb234 k238
                        rintro _ rfl
                        refine op1 (s_lt rfl rfl ?_)
                        exact ⟨rfl, grown_none_refl _⟩
                      · intro w242 k239
                        have hb237 := below_g0 hb234 k239
                        rintro _ rfl
                        refine op1 (s_move rfl ?_)
                        exact ⟨(by rw [decide_eq_false h15]), grown_none_refl _⟩
                      · intro w243 k240
                        have hb238 := below_g0 hb234 k240
                        rintro _ rfl
                        refine op1g (s_move rfl ?_)
                        exact ⟨rfl, grown_none_refl _⟩
                      · intro w244 k241
                        have hb239 := below_g0 hb234 k241
                        rintro _ rfl
                        refine op1g (s_move rfl ?_)
                        exact ⟨rfl, grown_none_refl _⟩
                      · intro w245 k242
                        have hb240 := below_g0 hb234 k242
                        rintro _ rfl
                        rintro _ rfl
                        rintro _ rfl
                        refine op1g (s_gt rfl rfl ?_)
                        exact ⟨rfl, grown_none_refl _⟩
                      · intro w246 k243
                        have hb241 := below_g0 hb234 k243
                        rintro _ rfl
                        rintro _ rfl
                        refine op1 (s_pick rfl rfl ?_)
                        exact ⟨rfl, grown_none_refl _⟩
                      · intro w247 k244
                        have hb242 := below_g0 hb234 k244
                        rintro _ rfl
                        refine op1 (s_move rfl ?_)
                        exact ⟨(by rw [decide_eq_true h16]), grown_none_refl _⟩
                      · intro w248 k245
                        have hb243 := below_g0 hb234 k245
                        rintro _ rfl
                        refine op1p ⟨rfl, grown_none_refl _⟩
                      · intro w249 k246
                        have hb244 := below_g0 hb234 k246
                        rintro _ rfl
                        intro v_ hv_; subst v_
                        refine op1p ⟨rfl, grown_none_refl _⟩
                      · intro w250 k247
                        have hb245 := below_g0 hb234 k247
                        rintro _ rfl
                        intro v_ hv_; subst v_
                        refine op1p ⟨rfl, grown_none_refl _⟩
                      · intro w251 k248
                        have hb246 := below_g0 hb234 k248
                        intro v_ hv_; subst v_
                        refine op1u ⟨rfl, grown_none_refl _⟩
                      · intro w252 k249
                        have hb247 := below_g0 hb234 k249
                        intro v_ hv_; subst v_
                        refine op1u ⟨rfl, grown_none_refl _⟩
                      · intro w253 k250
                        have hb248 := below_g0 hb234 k250
                        intro v_ hv_; subst v_
                        intro v_ hv_; subst v_
                        refine op1u ⟨rfl, grown_none_refl _⟩
                      · intro w254 k251
                        have hb249 := below_g0 hb234 k251
                        intro v_ hv_; subst v_
                        intro v_ hv_; subst v_
                        intro v_ hv_; subst v_
                        refine op1u ⟨rfl, grown_none_refl _⟩
                      · intro w255 k252
                        have hb250 := below_g0 hb234 k252
                        intro v_ hv_; subst v_
                        intro v_ hv_; subst v_
                        refine op1u ⟨rfl, grown_none_refl _⟩
                      · intro w256 k253
                        have hb251 := below_g0 hb234 k253
                        intro v_ hv_; subst v_
                        intro v_ hv_; subst v_
                        refine op1u ⟨rfl, grown_none_refl _⟩
                      · intro w257 k254
                        have hb252 := below_g0 hb234 k254
                        intro v_ hv_; subst v_
                        refine op1u ⟨rfl, grown_none_refl _⟩
                      · intro w258 k255
                        have hb253 := below_g0 hb234 k255
                        intro v_ hv_; subst v_
                        refine op1u ⟨rfl, grown_none_refl _⟩
                      · intro w259 k256
                        have hb254 := below_g0 hb234 k256
                        intro v_ hv_; subst v_
                        intro v_ hv_; subst v_
                        intro v_ hv_; subst v_
                        refine op1u ⟨rfl, grown_none_refl _⟩
                      · intro w260 k257
                        have hb255 := below_g0 hb234 k257
                        intro v_ hv_; subst v_
                        intro v_ hv_; subst v_
                        refine op1u ⟨rfl, grown_none_refl _⟩
                      · intro w261 k258
                        have hb256 := below_g0 hb234 k258
                        intro v_ hv_; subst v_
                        intro v_ hv_; subst v_
                        refine op1u ⟨rfl, grown_none_refl _⟩
                      · intro w262 k259
                        have hb257 := below_g0 hb234 k259
                        intro v_ hv_; subst v_
                        intro v_ hv_; subst v_
                        refine op1u ⟨rfl, grown_none_refl _⟩
                      · intro w263 k260
                        have hb258 := below_g0 hb234 k260
                        intro v_ hv_; subst v_
                        intro v_ hv_; subst v_
                        intro v_ hv_; subst v_
                        refine op1u ⟨rfl, grown_none_refl _⟩
                      · intro w264 k261
                        have hb259 := below_g0 hb234 k261
                        rintro _ rfl
                        intro v_ hv_; subst v_
                        intro v_ hv_; subst v_
                        refine op1p ⟨rfl, grown_none_refl _⟩
                      · intro w265 k262
                        have hb260 := below_g0 hb234 k262
                        rintro _ rfl
                        intro v_ hv_; subst v_
                        refine op1 (s_pick rfl rfl ?_)
                        exact ⟨rfl, grown_none_refl _⟩
                      · intro w266 k263
                        have hb261 := below_g0 hb234 k263
                        rintro _ rfl
                        rintro _ rfl
                        rintro _ rfl
                        rintro _ rfl
                        rintro _ rfl
                        rintro _ rfl
                        rintro _ rfl
                        rintro _ rfl
                        intro v_ hv_; subst v_
                        intro v_ hv_; subst v_
                        intro v_ hv_; subst v_
                        intro v_ hv_; subst v_
                        intro v_ hv_; subst v_
                        intro v_ hv_; subst v_
                        intro v_ hv_; subst v_
                        intro v_ hv_; subst v_
                        intro v_ hv_; subst v_
                        intro v_ hv_; subst v_
                        intro v_ hv_; subst v_
                        intro v_ hv_; subst v_
                        intro v_ hv_; subst v_
                        intro v_ hv_; subst v_
                        intro v_ hv_; subst v_
                        intro v_ hv_; subst v_
                        intro v_ hv_; subst v_
                        rintro _ rfl
                        refine r_end ?_
                        refine n_then ?_
                        refine w_condT rfl ?_
                        refine w_seq ?_
                        refine w_region ?_
                        refine st (s_assign rfl ?_)
                        refine r_end ?_
                        refine n_then ?_
                        refine w_ret1 rfl rfl ?_
                        exfalso
                        first | omega | exact absurd hl_ok (by simp [h16])
                    · by_cases h17 : 0 < (sel4 ((ix l i).k0) ((ix l i).k1) ((ix l i).k2) ((ix l i).k3) k)
                      · obtain ⟨b12, o12, _, hat8, ⟨rfl, _⟩, hc12, hF12, hlt12⟩ := (hl.at0 hb205).elem ((sel4 ((ix l i).k0) ((ix l i).k1) ((ix l i).k2) ((ix l i).k3) k) - 1) (by omega) (by omega)
                        have hl_12 := Loc.lt hF12
                        obtain ⟨b13, o13, _, hat9, ⟨rfl, _⟩, hc13, hF13, hlt13⟩ := (hl.at0 hb205).elem i (by omega) (by omega)
                        have hl_13 := Loc.lt hF13
                        refine w_draw 26 (fun a b => a.grownBy b none) [(some 69, fun v _ => v = .int .i64 (sel4 ((ix l i).k0) ((ix l i).k1) ((ix l i).k2) ((ix l i).k3) k)), (some 70, fun v _ => v = .bool (decide ((sel4 ((ix l i).k0) ((ix l i).k1) ((ix l i).k2) ((ix l i).k3) k) < 0))), (some 71, fun v _ => v = .bool false), (some 72, fun v _ => v = .int .i64 (sel4 ((ix l i).k0) ((ix l i).k1) ((ix l i).k2) ((ix l i).k3) k)), (some 73, fun v _ => v = .int .i64 i), (some 74, fun v _ => v = .bool (decide (i < (sel4 ((ix l i).k0) ((ix l i).k1) ((ix l i).k2) ((ix l i).k3) k)))), (some 75, fun v _ => v = .bool (decide (i < (sel4 ((ix l i).k0) ((ix l i).k1) ((ix l i).k2) ((ix l i).k3) k)))), (some 76, fun v _ => v = .bool false), (some 77, fun v _ => v = .int .i64 (sel4 ((ix l i).k0) ((ix l i).k1) ((ix l i).k2) ((ix l i).k3) k)), (some 78, fun v _ => v = .bool (decide (0 < (sel4 ((ix l i).k0) ((ix l i).k1) ((ix l i).k2) ((ix l i).k3) k)))), (some 79, fun v _ => v = .bool true), (some 80, fun v _ => v = va), (some 81, fun v _ => v = .int .i64 (sel4 ((ix l i).k0) ((ix l i).k1) ((ix l i).k2) ((ix l i).k3) k)), (some 82, fun v _ => v = .int .i64 ((sel4 ((ix l i).k0) ((ix l i).k1) ((ix l i).k2) ((ix l i).k3) k) - 1)), (some 83, fun v _ => v = .pointer (some ⟨b12, o12, none⟩)), (some 84, fun v _ => v = .pointer (some ⟨b12, o12 + 0, none⟩)), (some 85, fun v _ => v = .int .i64 ((ix l ((sel4 ((ix l i).k0) ((ix l i).k1) ((ix l i).k2) ((ix l i).k3) k) - 1)).lv)), (some 86, fun v _ => v = va), (some 87, fun v _ => v = .int .i64 i), (some 88, fun v _ => v = .pointer (some ⟨b13, o13, none⟩)), (some 89, fun v _ => v = .pointer (some ⟨b13, o13 + 0, none⟩)), (some 90, fun v _ => v = .int .i64 ((ix l i).lv)), (some 91, fun v _ => v = .int .i64 ((ix l i).lv - 1)), (some 92, fun v _ => v = .bool (decide ((ix l ((sel4 ((ix l i).k0) ((ix l i).k1) ((ix l i).k2) ((ix l i).k3) k) - 1)).lv ≠ ((ix l i).lv - 1)))), (some 93, fun v _ => v = .bool (decide ((ix l ((sel4 ((ix l i).k0) ((ix l i).k1) ((ix l i).k2) ((ix l i).k3) k) - 1)).lv ≠ ((ix l i).lv - 1)))), (some 94, fun v _ => v = .bool (decide ((ix l ((sel4 ((ix l i).k0) ((ix l i).k1) ((ix l i).k2) ((ix l i).k3) k) - 1)).lv ≠ ((ix l i).lv - 1))))] [[], [0], [1], [2], [2], [2, 3, 4], [2, 5], [6], [7], [7, 8], [7, 9], [10], [10], [10, 12], [10, 11, 13], [10, 14], [10, 15], [10], [10], [10, 17, 18], [10, 19], [10, 20], [10, 21], [10, 16, 22], [7, 10, 23], [7, 24]] [(0, va), (3, .pointer (some ⟨g1, 0, none⟩)), (4, .int .i64 i), (5, .int .i64 k), (6, .int .i64 (sel4 ((ix l i).k0) ((ix l i).k1) ((ix l i).k2) ((ix l i).k3) k))] (by exact ⟨rfl, rfl, rfl, rfl, rfl, trivial⟩) (by kernel_rfl) (by kernel_rfl) grown_none_refl (fun _ _ _ => grown_none_trans) ⟨fun _ _ _ h _ => h, fun _ _ _ h _ => h, fun _ _ _ h _ => h, fun _ _ _ h _ => h, fun _ _ _ h _ => h, fun _ _ _ h _ => h, fun _ _ _ h _ => h, fun _ _ _ h _ => h, fun _ _ _ h _ => h, fun _ _ _ h _ => h, fun _ _ _ h _ => h, fun _ _ _ h _ => h, fun _ _ _ h _ => h, fun _ _ _ h _ => h, fun _ _ _ h _ => h, fun _ _ _ h _ => h, fun _ _ _ h _ => h, fun _ _ _ h _ => h, fun _ _ _ h _ => h, fun _ _ _ h _ => h, fun _ _ _ h _ => h, fun _ _ _ h _ => h, fun _ _ _ h _ => h, fun _ _ _ h _ => h, fun _ _ _ h _ => h, fun _ _ _ h _ => h, trivial⟩ ?_
                        intro w267 k264 hs12
                        have hb262 := below_g0 hb205 k264
                        refine ⟨⟨?_, ?_, ?_, ?_, ?_, ?_, ?_, ?_, ?_, ?_, ?_, ?_, ?_, ?_, ?_, ?_, ?_, ?_, ?_, ?_, ?_, ?_, ?_, ?_, ?_, ?_, trivial⟩, ?_⟩
                        · intro w268 k265
                          have hb263 := below_g0 hb262 k265
                          refine op1 (s_move rfl ?_)
                          exact ⟨rfl, grown_none_refl _⟩
                        · intro w269 k266
                          have hb264 := below_g0 hb262 k266
                          rintro _ rfl
                          refine op1 (s_lt rfl rfl ?_)
                          exact ⟨rfl, grown_none_refl _⟩
                        · intro w270 k267
                          have hb265 := below_g0 hb262 k267
                          rintro _ rfl
                          refine op1 (s_move rfl ?_)
                          exact ⟨(by rw [decide_eq_false h15]), grown_none_refl _⟩
                        · intro w271 k268
                          have hb266 := below_g0 hb262 k268
                          rintro _ rfl
                          refine op1g (s_move rfl ?_)
                          exact ⟨rfl, grown_none_refl _⟩
                        · intro w272 k269
                          have hb267 := below_g0 hb262 k269
                          rintro _ rfl
                          refine op1g (s_move rfl ?_)
                          exact ⟨rfl, grown_none_refl _⟩
                        · intro w273 k270
                          have hb268 := below_g0 hb262 k270
                          rintro _ rfl
                          rintro _ rfl
                          rintro _ rfl
                          refine op1g (s_gt rfl rfl ?_)
                          exact ⟨rfl, grown_none_refl _⟩
                        · intro w274 k271
                          have hb269 := below_g0 hb262 k271
                          rintro _ rfl
                          rintro _ rfl
                          refine op1 (s_pick rfl rfl ?_)
                          exact ⟨rfl, grown_none_refl _⟩
                        · intro w275 k272
                          have hb270 := below_g0 hb262 k272
                          rintro _ rfl
                          refine op1 (s_move rfl ?_)
                          exact ⟨(by rw [decide_eq_false h16]), grown_none_refl _⟩
                        · intro w276 k273
                          have hb271 := below_g0 hb262 k273
                          rintro _ rfl
                          refine op1g (s_move rfl ?_)
                          exact ⟨rfl, grown_none_refl _⟩
                        · intro w277 k274
                          have hb272 := below_g0 hb262 k274
                          rintro _ rfl
                          rintro _ rfl
                          refine op1g (s_gt rfl rfl ?_)
                          exact ⟨rfl, grown_none_refl _⟩
                        · intro w278 k275
                          have hb273 := below_g0 hb262 k275
                          rintro _ rfl
                          rintro _ rfl
                          refine op1g (s_move rfl ?_)
                          exact ⟨(by rw [decide_eq_true h17]), grown_none_refl _⟩
                        · intro w279 k276
                          have hb274 := below_g0 hb262 k276
                          rintro _ rfl
                          refine op1g (s_move rfl ?_)
                          exact ⟨rfl, grown_none_refl _⟩
                        · intro w280 k277
                          have hb275 := below_g0 hb262 k277
                          rintro _ rfl
                          refine op1g (s_move rfl ?_)
                          exact ⟨rfl, grown_none_refl _⟩
                        · intro w281 k278
                          have hb276 := below_g0 hb262 k278
                          rintro _ rfl
                          rintro _ rfl
                          refine op1g (s_sub rfl rfl (by omega) ?_)
                          exact ⟨rfl, grown_none_refl _⟩
                        · intro w282 k279
                          have hb277 := below_g0 hb262 k279
                          rintro _ rfl
                          intro v_ hv_; subst v_
                          rintro _ rfl
                          refine op1g (s_idxat sl22 rfl rfl hat8 ?_)
                          exact ⟨rfl, grown_none_refl _⟩
                        · intro w283 k280
                          have hb278 := below_g0 hb262 k280
                          rintro _ rfl
                          rintro _ rfl
                          refine op1g (s_faddr fld35_0 rfl ?_)
                          exact ⟨rfl, grown_none_refl _⟩
                        · intro w284 k281
                          have hb279 := below_g0 hb262 k281
                          rintro _ rfl
                          rintro _ rfl
                          refine op1g (s_load one3 rfl (range_g0 (range_g0 hc12 k264) k281) (j := 0) rfl ?_)
                          exact ⟨rfl, grown_none_refl _⟩
                        · intro w285 k282
                          have hb280 := below_g0 hb262 k282
                          rintro _ rfl
                          refine op1g (s_move rfl ?_)
                          exact ⟨rfl, grown_none_refl _⟩
                        · intro w286 k283
                          have hb281 := below_g0 hb262 k283
                          rintro _ rfl
                          refine op1g (s_move rfl ?_)
                          exact ⟨rfl, grown_none_refl _⟩
                        · intro w287 k284
                          have hb282 := below_g0 hb262 k284
                          rintro _ rfl
                          intro v_ hv_; subst v_
                          rintro _ rfl
                          refine op1g (s_idxat sl22 rfl rfl hat9 ?_)
                          exact ⟨rfl, grown_none_refl _⟩
                        · intro w288 k285
                          have hb283 := below_g0 hb262 k285
                          rintro _ rfl
                          rintro _ rfl
                          refine op1g (s_faddr fld35_0 rfl ?_)
                          exact ⟨rfl, grown_none_refl _⟩
                        · intro w289 k286
                          have hb284 := below_g0 hb262 k286
                          rintro _ rfl
                          rintro _ rfl
                          refine op1g (s_load one3 rfl (range_g0 (range_g0 hc13 k264) k286) (j := 0) rfl ?_)
                          exact ⟨rfl, grown_none_refl _⟩
                        · intro w290 k287
                          have hb285 := below_g0 hb262 k287
                          rintro _ rfl
                          rintro _ rfl
                          refine op1g (s_sub rfl rfl (by omega) ?_)
                          exact ⟨rfl, grown_none_refl _⟩
                        · intro w291 k288
                          have hb286 := below_g0 hb262 k288
                          rintro _ rfl
                          rintro _ rfl
                          rintro _ rfl
                          refine op1g (s_ne rfl rfl ?_)
                          exact ⟨rfl, grown_none_refl _⟩
                        · intro w292 k289
                          have hb287 := below_g0 hb262 k289
                          rintro _ rfl
                          rintro _ rfl
                          rintro _ rfl
                          refine op1g (s_pick rfl rfl ?_)
                          exact ⟨rfl, grown_none_refl _⟩
                        · intro w293 k290
                          have hb288 := below_g0 hb262 k290
                          rintro _ rfl
                          rintro _ rfl
                          refine op1 (s_pick rfl rfl ?_)
                          exact ⟨rfl, grown_none_refl _⟩
                        · intro w294 k291
                          have hb289 := below_g0 hb262 k291
                          rintro _ rfl
                          rintro _ rfl
                          rintro _ rfl
                          rintro _ rfl
                          rintro _ rfl
                          rintro _ rfl
                          rintro _ rfl
                          rintro _ rfl
                          rintro _ rfl
                          rintro _ rfl
                          rintro _ rfl
                          intro v_ hv_; subst v_
                          rintro _ rfl
                          rintro _ rfl
                          rintro _ rfl
                          rintro _ rfl
                          rintro _ rfl
                          intro v_ hv_; subst v_
                          rintro _ rfl
                          rintro _ rfl
                          rintro _ rfl
                          rintro _ rfl
                          rintro _ rfl
                          rintro _ rfl
                          rintro _ rfl
                          rintro _ rfl
                          refine r_end ?_
                          refine n_then ?_
                          refine w_condP rfl (fun h18 => ?_) (fun h18 => ?_)
                          · refine w_seq ?_
                            refine w_region ?_
                            refine st (s_assign rfl ?_)
                            refine r_end ?_
                            refine n_then ?_
                            refine w_ret1 rfl rfl ?_
                            exfalso
                            first | omega | exact absurd hl_ok (by simp [h18])
                          · refine w_skip' ?_
                            refine n_block ?_
                            refine n_then ?_
                            refine w_region ?_
                            refine st (s_move rfl ?_)
                            refine st (s_add rfl rfl (by omega) ?_)
                            refine st (s_assign rfl ?_)
                            refine r_end ?_
                            exact n_round ((k + 1)) ⟨hb289, by omega, ((hBl3.g0 k264).g0 k291)⟩ (by omega) (by exact ⟨rfl, rfl, rfl, rfl, trivial⟩)
                      · refine w_draw 26 (fun a b => a.grownBy b none) [(some 69, fun v _ => v = .int .i64 (sel4 ((ix l i).k0) ((ix l i).k1) ((ix l i).k2) ((ix l i).k3) k)), (some 70, fun v _ => v = .bool (decide ((sel4 ((ix l i).k0) ((ix l i).k1) ((ix l i).k2) ((ix l i).k3) k) < 0))), (some 71, fun v _ => v = .bool false), (some 72, fun v _ => v = .int .i64 (sel4 ((ix l i).k0) ((ix l i).k1) ((ix l i).k2) ((ix l i).k3) k)), (some 73, fun v _ => v = .int .i64 i), (some 74, fun v _ => v = .bool (decide (i < (sel4 ((ix l i).k0) ((ix l i).k1) ((ix l i).k2) ((ix l i).k3) k)))), (some 75, fun v _ => v = .bool (decide (i < (sel4 ((ix l i).k0) ((ix l i).k1) ((ix l i).k2) ((ix l i).k3) k)))), (some 76, fun v _ => v = .bool false), (some 77, fun v _ => v = .int .i64 (sel4 ((ix l i).k0) ((ix l i).k1) ((ix l i).k2) ((ix l i).k3) k)), (some 78, fun v _ => v = .bool (decide (0 < (sel4 ((ix l i).k0) ((ix l i).k1) ((ix l i).k2) ((ix l i).k3) k)))), (some 79, fun v _ => v = .bool false), (some 80, fun v _ => v = undef), (some 81, fun v _ => v = undef), (some 82, fun v _ => v = undef), (some 83, fun v _ => v = undef), (some 84, fun v _ => v = undef), (some 85, fun v _ => v = undef), (some 86, fun v _ => v = undef), (some 87, fun v _ => v = undef), (some 88, fun v _ => v = undef), (some 89, fun v _ => v = undef), (some 90, fun v _ => v = undef), (some 91, fun v _ => v = undef), (some 92, fun v _ => v = undef), (some 93, fun v _ => v = .bool false), (some 94, fun v _ => v = .bool false)] [[], [0], [1], [2], [2], [2, 3, 4], [2, 5], [6], [7], [7, 8], [7, 9], [10], [10], [10, 12], [10, 11, 13], [10, 14], [10, 15], [10], [10], [10, 17, 18], [10, 19], [10, 20], [10, 21], [10, 16, 22], [7, 10, 23], [7, 24]] [(0, va), (3, .pointer (some ⟨g1, 0, none⟩)), (4, .int .i64 i), (5, .int .i64 k), (6, .int .i64 (sel4 ((ix l i).k0) ((ix l i).k1) ((ix l i).k2) ((ix l i).k3) k))] (by exact ⟨rfl, rfl, rfl, rfl, rfl, trivial⟩) (by kernel_rfl) (by kernel_rfl) grown_none_refl (fun _ _ _ => grown_none_trans) ⟨fun _ _ _ h _ => h, fun _ _ _ h _ => h, fun _ _ _ h _ => h, fun _ _ _ h _ => h, fun _ _ _ h _ => h, fun _ _ _ h _ => h, fun _ _ _ h _ => h, fun _ _ _ h _ => h, fun _ _ _ h _ => h, fun _ _ _ h _ => h, fun _ _ _ h _ => h, fun _ _ _ h _ => h, fun _ _ _ h _ => h, fun _ _ _ h _ => h, fun _ _ _ h _ => h, fun _ _ _ h _ => h, fun _ _ _ h _ => h, fun _ _ _ h _ => h, fun _ _ _ h _ => h, fun _ _ _ h _ => h, fun _ _ _ h _ => h, fun _ _ _ h _ => h, fun _ _ _ h _ => h, fun _ _ _ h _ => h, fun _ _ _ h _ => h, fun _ _ _ h _ => h, trivial⟩ ?_
                        intro w295 k292 hs13
                        have hb290 := below_g0 hb205 k292
                        refine ⟨⟨?_, ?_, ?_, ?_, ?_, ?_, ?_, ?_, ?_, ?_, ?_, ?_, ?_, ?_, ?_, ?_, ?_, ?_, ?_, ?_, ?_, ?_, ?_, ?_, ?_, ?_, trivial⟩, ?_⟩
                        · intro w296 k293
                          have hb291 := below_g0 hb290 k293
                          refine op1 (s_move rfl ?_)
                          exact ⟨rfl, grown_none_refl _⟩
                        · intro w297 k294
                          have hb292 := below_g0 hb290 k294
                          rintro _ rfl
                          refine op1 (s_lt rfl rfl ?_)
                          exact ⟨rfl, grown_none_refl _⟩
                        · intro w298 k295
                          have hb293 := below_g0 hb290 k295
                          rintro _ rfl
                          refine op1 (s_move rfl ?_)
                          exact ⟨(by rw [decide_eq_false h15]), grown_none_refl _⟩
                        · intro w299 k296
                          have hb294 := below_g0 hb290 k296
                          rintro _ rfl
                          refine op1g (s_move rfl ?_)
                          exact ⟨rfl, grown_none_refl _⟩
                        · intro w300 k297
                          have hb295 := below_g0 hb290 k297
                          rintro _ rfl
                          refine op1g (s_move rfl ?_)
                          exact ⟨rfl, grown_none_refl _⟩
                        · intro w301 k298
                          have hb296 := below_g0 hb290 k298
                          rintro _ rfl
                          rintro _ rfl
                          rintro _ rfl
                          refine op1g (s_gt rfl rfl ?_)
                          exact ⟨rfl, grown_none_refl _⟩
                        · intro w302 k299
                          have hb297 := below_g0 hb290 k299
                          rintro _ rfl
                          rintro _ rfl
                          refine op1 (s_pick rfl rfl ?_)
                          exact ⟨rfl, grown_none_refl _⟩
                        · intro w303 k300
                          have hb298 := below_g0 hb290 k300
                          rintro _ rfl
                          refine op1 (s_move rfl ?_)
                          exact ⟨(by rw [decide_eq_false h16]), grown_none_refl _⟩
                        · intro w304 k301
                          have hb299 := below_g0 hb290 k301
                          rintro _ rfl
                          refine op1g (s_move rfl ?_)
                          exact ⟨rfl, grown_none_refl _⟩
                        · intro w305 k302
                          have hb300 := below_g0 hb290 k302
                          rintro _ rfl
                          rintro _ rfl
                          refine op1g (s_gt rfl rfl ?_)
                          exact ⟨rfl, grown_none_refl _⟩
                        · intro w306 k303
                          have hb301 := below_g0 hb290 k303
                          rintro _ rfl
                          rintro _ rfl
                          refine op1g (s_move rfl ?_)
                          exact ⟨(by rw [decide_eq_false h17]), grown_none_refl _⟩
                        · intro w307 k304
                          have hb302 := below_g0 hb290 k304
                          rintro _ rfl
                          refine op1p ⟨rfl, grown_none_refl _⟩
                        · intro w308 k305
                          have hb303 := below_g0 hb290 k305
                          rintro _ rfl
                          refine op1p ⟨rfl, grown_none_refl _⟩
                        · intro w309 k306
                          have hb304 := below_g0 hb290 k306
                          rintro _ rfl
                          intro v_ hv_; subst v_
                          refine op1p ⟨rfl, grown_none_refl _⟩
                        · intro w310 k307
                          have hb305 := below_g0 hb290 k307
                          rintro _ rfl
                          intro v_ hv_; subst v_
                          intro v_ hv_; subst v_
                          refine op1p ⟨rfl, grown_none_refl _⟩
                        · intro w311 k308
                          have hb306 := below_g0 hb290 k308
                          rintro _ rfl
                          intro v_ hv_; subst v_
                          refine op1p ⟨rfl, grown_none_refl _⟩
                        · intro w312 k309
                          have hb307 := below_g0 hb290 k309
                          rintro _ rfl
                          intro v_ hv_; subst v_
                          refine op1p ⟨rfl, grown_none_refl _⟩
                        · intro w313 k310
                          have hb308 := below_g0 hb290 k310
                          rintro _ rfl
                          refine op1p ⟨rfl, grown_none_refl _⟩
                        · intro w314 k311
                          have hb309 := below_g0 hb290 k311
                          rintro _ rfl
                          refine op1p ⟨rfl, grown_none_refl _⟩
                        · intro w315 k312
                          have hb310 := below_g0 hb290 k312
                          rintro _ rfl
                          intro v_ hv_; subst v_
                          intro v_ hv_; subst v_
                          refine op1p ⟨rfl, grown_none_refl _⟩
                        · intro w316 k313
                          have hb311 := below_g0 hb290 k313
                          rintro _ rfl
                          intro v_ hv_; subst v_
                          refine op1p ⟨rfl, grown_none_refl _⟩
                        · intro w317 k314
                          have hb312 := below_g0 hb290 k314
                          rintro _ rfl
                          intro v_ hv_; subst v_
                          refine op1p ⟨rfl, grown_none_refl _⟩
                        · intro w318 k315
                          have hb313 := below_g0 hb290 k315
                          rintro _ rfl
                          intro v_ hv_; subst v_
                          refine op1p ⟨rfl, grown_none_refl _⟩
                        · intro w319 k316
                          have hb314 := below_g0 hb290 k316
                          rintro _ rfl
                          intro v_ hv_; subst v_
                          intro v_ hv_; subst v_
                          refine op1p ⟨rfl, grown_none_refl _⟩
                        · intro w320 k317
                          have hb315 := below_g0 hb290 k317
                          rintro _ rfl
                          rintro _ rfl
                          intro v_ hv_; subst v_
                          refine op1g (s_pick rfl rfl ?_)
                          exact ⟨rfl, grown_none_refl _⟩
                        · intro w321 k318
                          have hb316 := below_g0 hb290 k318
                          rintro _ rfl
                          rintro _ rfl
                          refine op1 (s_pick rfl rfl ?_)
                          exact ⟨rfl, grown_none_refl _⟩
                        · intro w322 k319
                          have hb317 := below_g0 hb290 k319
                          rintro _ rfl
                          rintro _ rfl
                          rintro _ rfl
                          rintro _ rfl
                          rintro _ rfl
                          rintro _ rfl
                          rintro _ rfl
                          rintro _ rfl
                          rintro _ rfl
                          rintro _ rfl
                          rintro _ rfl
                          intro v_ hv_; subst v_
                          intro v_ hv_; subst v_
                          intro v_ hv_; subst v_
                          intro v_ hv_; subst v_
                          intro v_ hv_; subst v_
                          intro v_ hv_; subst v_
                          intro v_ hv_; subst v_
                          intro v_ hv_; subst v_
                          intro v_ hv_; subst v_
                          intro v_ hv_; subst v_
                          intro v_ hv_; subst v_
                          intro v_ hv_; subst v_
                          intro v_ hv_; subst v_
                          rintro _ rfl
                          rintro _ rfl
                          refine r_end ?_
                          refine n_then ?_
                          refine w_condF rfl ?_
                          refine w_skip' ?_
                          refine n_block ?_
                          refine n_then ?_
                          refine w_region ?_
                          refine st (s_move rfl ?_)
                          refine st (s_add rfl rfl (by omega) ?_)
                          refine st (s_assign rfl ?_)
                          refine r_end ?_
                          exact n_round ((k + 1)) ⟨hb317, by omega, ((hBl3.g0 k292).g0 k319)⟩ (by omega) (by exact ⟨rfl, rfl, rfl, rfl, trivial⟩)
                · refine w_exit' ?_
                  refine n_then_exit ?_
                  refine n_then_exit ?_
                  refine n_block_exit ?_
                  refine n_block ?_
                  refine n_then ?_
                  refine w_region ?_
                  refine st (s_move rfl ?_)
                  refine st (s_add rfl rfl (by omega) ?_)
                  refine st (s_assign rfl ?_)
                  refine r_end ?_
                  exact n_round ((i + 1)) ⟨hb205, by omega, hBl3⟩ (by omega) (by exact ⟨rfl, rfl, rfl, trivial⟩)
              · refine s_pass rfl rfl ?_
                refine s_pass rfl rfl ?_
                refine s_pass rfl rfl ?_
                refine s_pass rfl rfl ?_
                refine s_pass rfl rfl ?_
                refine s_pass rfl rfl ?_
                refine st (s_pick rfl rfl ?_)
                refine r_end ?_
                refine n_then ?_
                refine w_condF rfl ?_
                refine w_exit' ?_
                refine n_then_exit ?_
                refine n_then_exit ?_
                refine n_block_exit ?_
                refine n_block ?_
                refine n_then ?_
                refine w_region ?_
                refine st (s_move rfl ?_)
                refine st (s_add rfl rfl (by omega) ?_)
                refine st (s_assign rfl ?_)
                refine r_end ?_
                exact n_round ((i + 1)) ⟨hb205, by omega, hBl3⟩ (by omega) (by exact ⟨rfl, rfl, rfl, trivial⟩)
      · refine w_exit' ?_
        refine n_then_exit ?_
        refine n_then_exit ?_
        refine n_block_exit ?_
        refine n_then ?_
        refine w_seq ?_
        refine w_region ?_
        refine st (s_move rfl ?_)
        refine st (s_call fn9 rfl (loose_any (hl.at0 hb5)) ?_)
        rintro _ w323 ⟨hq13, rfl⟩
        have k320 := grown_of_below hq13 none
        have hz17 := hq13.size
        have hb318 := below_g0 hb5 k320
        have hz18 := hb318.size
        refine st (s_move rfl ?_)
        refine r_case 97 rfl (fun h19 => ?_) (fun h19 => ?_)
        · refine stg (s_loadW row27 rfl (hBl1.g0 k320).range rfl ?_)
          refine stg (s_loadW row27 rfl (hBl1.g0 k320).range rfl ?_)
          refine stg (s_call fn13 rfl (same_any (hl.at0 hb318).none (hl.at0 hb318).none) ?_)
          rintro _ w324 ⟨hq14, rfl⟩
          have k321 := grown_of_below hq14 none
          have hz19 := hq14.size
          have hb319 := below_g0 hb318 k321
          have hz20 := hb319.size
          refine st (s_pick rfl rfl ?_)
          refine st (s_assign rfl ?_)
          refine r_end ?_
          refine n_then ?_
          refine w_ret1 rfl rfl ?_
          exact ⟨_, rfl, hb319, by simp [Nd.eqv, h1, h2, h3, h19]⟩
        · refine s_pass rfl rfl ?_
          refine s_pass rfl rfl ?_
          refine s_pass rfl rfl ?_
          refine st (s_pick rfl rfl ?_)
          refine st (s_assign rfl ?_)
          refine r_end ?_
          refine n_then ?_
          refine w_ret1 rfl rfl ?_
          exfalso
          first | omega | exact absurd hl_ok (by simp [h19])
end Go.Proofs.Ytdeiiagkbbimhaa
