/- Part of the proof that is named in YtdeiiagkbbimhaaNRowCanJust: a library for walks, or a function's walk. -/
import Derived.Test.YtdeiiagkbbimhaaNA
set_option maxRecDepth 20000
set_option linter.unusedSimpArgs false
set_option linter.unusedVariables false
namespace Go.Proofs.Ytdeiiagkbbimhaa
open Go.RowKit Go.Gw
theorem empty_any {va : Value} {l : List Nd} {F : Nat → Prop} {w : World} (hl : Sl Kd.node w F va l) {n : Int} (hl_ok : looseB l = true) (hll : l.length ≤ 1000000) (h0 : 0 ≤ n) (h1 : n ≤ l.length) :
    Calls Try.prog 15 [va, .int .i64 n].toArray w (Pure w fun v _ => v = .bool (!(ix (hasL l) n))) := by
  have hb0 := Below.refl w.heap.size w
  have hln1 := hl.lenle
  have hlen := hasL_length l
  refine enter Try.func15 rfl rfl ?_
  refine w_seq ?_
  refine w_region ?_
  refine st (s_assign rfl ?_)
  refine r_end ?_
  refine n_then ?_
  refine w_seq ?_
  refine w_region ?_
  refine st (s_move rfl ?_)
  refine st (s_call fn27 rfl (full_any (hl.at0 hb0) hl_ok hll) ?_)
  rintro v1 w1 ⟨hq1, hS1⟩
  have k1 := grown_of_below hq1 none
  have hz1 := hq1.size
  have hb1 := below_g0 hb0 k1
  have hz2 := hb1.size
  refine st (s_move rfl ?_)
  refine st (s_idx sl43 rfl rfl hS1 (by omega) (by omega) ?_)
  rintro b1 o1 _ ⟨rfl, _⟩ hc1 hF1 hlt1
  refine st (s_load one4 rfl hc1 (j := 0) rfl ?_)
  refine st (s_not rfl ?_)
  refine st (s_assign rfl ?_)
  refine r_end ?_
  refine n_then ?_
  refine w_ret1 rfl rfl ?_
  exact ⟨_, rfl, hb1, rfl⟩

theorem level_any {va : Value} {l : List Nd} {F : Nat → Prop} {w : World} (hl : Sl Kd.node w F va l) :
    Calls Try.prog 19 [.agg [va].toArray].toArray w (Pure w fun v _ => v = .int .i64 (levelN l)) := by
  have hb0 := Below.refl w.heap.size w
  have hln0 := hl.lenle
  refine enter Try.func19 rfl rfl ?_
  refine w_seq ?_
  refine w_region ?_
  refine st (s_box rfl ?_)
  intro g1 w1 hg1 hB1 k1 hs1
  have hb1 := below_g0 hb0 k1
  refine st (s_assign rfl ?_)
  refine r_end ?_
  refine n_then ?_
  refine w_seq ?_
  refine w_seq ?_
  refine w_region ?_
  refine st (s_faddr fld27_0 rfl ?_)
  refine st (s_load one22 rfl hB1.range (j := 0) rfl ?_)
  refine st (s_len sl22 rfl (hl.at0 hb1) ?_)
  refine st (s_eq rfl rfl ?_)
  refine r_end ?_
  refine n_then ?_
  refine w_condP rfl (fun h1 => ?_) (fun h1 => ?_)
  · refine w_seq ?_
    refine w_region ?_
    refine st (s_assign rfl ?_)
    refine r_end ?_
    refine n_then ?_
    refine w_ret1 rfl rfl ?_
    exact ⟨_, rfl, hb1, by simp only [levelN]; split <;> first | rfl | omega⟩
  · refine w_skip' ?_
    refine n_then ?_
    refine w_seq ?_
    refine w_region ?_
    refine st (s_faddr fld27_0 rfl ?_)
    refine st (s_load one22 rfl hB1.range (j := 0) rfl ?_)
    refine st (s_faddr fld27_0 rfl ?_)
    refine st (s_load one22 rfl hB1.range (j := 0) rfl ?_)
    refine st (s_len sl22 rfl (hl.at0 hb1) ?_)
    refine st (s_sub rfl rfl (by omega) ?_)
    refine st (s_idx sl22 rfl rfl (hl.at0 hb1) (by omega) (by omega) ?_)
    rintro b1 o1 _ ⟨rfl, _⟩ hc1 hF1 hlt1
    have hl_1 := Loc.lt hF1
    refine st (s_faddr fld35_0 rfl ?_)
    refine st (s_load one3 rfl hc1 (j := 0) rfl ?_)
    refine st (s_assign rfl ?_)
    refine r_end ?_
    refine n_then ?_
    refine w_ret1 rfl rfl ?_
    exact ⟨_, rfl, hb1, by simp only [levelN]; split <;> first | rfl | omega⟩

theorem rloose_any {va : Value} {l : List Nd} {F : Nat → Prop} {w : World} (hl : Sl Kd.node w F va l) :
    Calls Try.prog 10 [va].toArray w (Pure w fun v _ => v = .bool (looseB l)) := by
  have hb0 := Below.refl w.heap.size w
  have hln1 := hl.lenle
  refine enter Try.func10 rfl rfl ?_
  refine w_seq ?_
  refine w_region ?_
  refine st (s_assign rfl ?_)
  refine r_end ?_
  refine n_then ?_
  refine w_seq ?_
  refine w_seq ?_
  refine w_region ?_
  refine st (s_assign rfl ?_)
  refine r_end ?_
  refine n_then ?_
  refine w_block ?_
  refine w_loop (α := Int) (fun (i : Int) => [(0, va), (3, .int .i64 i)]) (fun (i : Int) W => Below w.heap.size w W ∧ (0 ≤ i ∧ i ≤ l.length) ∧ (∀ j : Int, 0 ≤ j → j < i → okAt l j = true)) (fun (i : Int) => (l.length - i).toNat) (0) ⟨hb0, by omega, fun j _ _ => by omega⟩ (by exact ⟨rfl, rfl, trivial⟩) ?_
  rintro i w1 ⟨hb1, hi, ha⟩
  have hz1 := hb1.size
  refine w_seq ?_
  refine w_seq ?_
  refine w_region ?_
  refine st (s_move rfl ?_)
  refine st (s_move rfl ?_)
  refine st (s_len sl22 rfl (hl.at0 hb1) ?_)
  refine st (s_lt rfl rfl ?_)
  refine r_end ?_
  refine n_then ?_
  refine w_condP rfl (fun h1 => ?_) (fun h1 => ?_)
  · refine w_skip' ?_
    refine n_then ?_
    refine w_seq ?_
    refine w_block ?_
    refine w_seq ?_
    refine w_seq ?_
    refine w_region ?_
    refine st (s_move rfl ?_)
    refine st (s_move rfl ?_)
    refine st (s_idx sl22 rfl rfl (hl.at0 hb1) (by omega) (by omega) ?_)
    rintro b1 o1 _ ⟨rfl, _⟩ hc1 hF1 hlt1
    have hl_1 := Loc.lt hF1
    refine st (s_faddr fld35_0 rfl ?_)
    refine st (s_load one3 rfl hc1 (j := 0) rfl ?_)
    refine st (s_lt rfl rfl ?_)
    refine st (s_move rfl ?_)
    refine r_caseP 18 rfl (fun h2 => ?_) (fun h2 => ?_)
    · refine s_pass rfl rfl ?_
      refine s_pass rfl rfl ?_
      refine s_pass rfl rfl ?_
      refine s_pass rfl rfl ?_
      refine s_pass rfl rfl ?_
      refine s_pass rfl rfl ?_
      refine st (s_pick rfl rfl ?_)
      refine r_end ?_
      refine n_then ?_
      refine w_condT rfl ?_
      refine w_seq ?_
      refine w_region ?_
      refine st (s_assign rfl ?_)
      refine r_end ?_
      refine n_then ?_
      refine w_ret1 rfl rfl ?_
      refine ⟨_, rfl, hb1, ?_⟩
      rw [loose_no i hi.1 (by omega)]
      rw [ne_eq, okAt_iff]
      rintro ⟨e1, e2⟩
      first | omega | (have e3 := e2 k (by omega) (by omega); unfold Nd.kid at e3; exact kidB_no e3 (by omega))
    · refine stg (s_move rfl ?_)
      refine stg (s_move rfl ?_)
      refine stg (s_idx sl22 rfl rfl (hl.at0 hb1) (by omega) (by omega) ?_)
      rintro b2 o2 _ ⟨rfl, _⟩ hc2 hF2 hlt2
      have hl_2 := Loc.lt hF2
      refine stg (s_faddr fld35_0 rfl ?_)
      refine stg (s_load one3 rfl hc2 (j := 0) rfl ?_)
      refine stg (s_gt rfl rfl ?_)
      refine st (s_pick rfl rfl ?_)
      refine r_end ?_
      refine n_then ?_
      refine w_condP rfl (fun h3 => ?_) (fun h3 => ?_)
      · refine w_seq ?_
        refine w_region ?_
        refine st (s_assign rfl ?_)
        refine r_end ?_
        refine n_then ?_
        refine w_ret1 rfl rfl ?_
        refine ⟨_, rfl, hb1, ?_⟩
        rw [loose_no i hi.1 (by omega)]
        rw [ne_eq, okAt_iff]
        rintro ⟨e1, e2⟩
        first | omega | (have e3 := e2 k (by omega) (by omega); unfold Nd.kid at e3; exact kidB_no e3 (by omega))
      · refine w_skip' ?_
        refine n_then ?_
        refine w_seq ?_
        refine w_region ?_
        refine st (s_assign rfl ?_)
        refine r_end ?_
        refine n_then ?_
        refine w_block ?_
        refine w_loop (α := Int) (fun (k : Int) => [(0, va), (3, .int .i64 i), (4, .int .i64 k)]) (fun (k : Int) W => Below w.heap.size w W ∧ (0 ≤ k ∧ k ≤ 4) ∧ (∀ j : Int, 0 ≤ j → j < k → kidB l i ((ix l i).kid j) = true)) (fun (k : Int) => (4 - k).toNat) (0) ⟨hb1, by omega, fun j _ _ => by omega⟩ (by exact ⟨rfl, rfl, rfl, trivial⟩) ?_
        rintro k w2 ⟨hb2, hk, hk2⟩
        have hz2 := hb2.size
        refine w_seq ?_
        refine w_seq ?_
        refine w_region ?_
        refine st (s_move rfl ?_)
        refine st (s_lt rfl rfl ?_)
        refine r_end ?_
        refine n_then ?_
        refine w_condP rfl (fun h4 => ?_) (fun h4 => ?_)
        · refine w_skip' ?_
          refine n_then ?_
          refine w_seq ?_
          refine w_block ?_
          refine w_seq ?_
          refine w_region ?_
          refine st (s_move rfl ?_)
          refine st (s_move rfl ?_)
          refine st (s_move rfl ?_)
          refine st (s_idx sl22 rfl rfl (hl.at0 hb2) (by omega) (by omega) ?_)
          rintro b3 o3 _ ⟨rfl, _⟩ hc3 hF3 hlt3
          have hl_3 := Loc.lt hF3
          refine st (s_faddr fld35_1 rfl ?_)
          refine st (s_iaddr arr33 rfl rfl (by omega) (by omega) ?_)
          refine st (s_load4 one3 rfl hc3 (j := 1) rfl rfl (by omega) (by omega) ?_)
          refine st (s_assign rfl ?_)
          refine r_end ?_
          refine n_then ?_
          refine w_seq ?_
          refine w_seq ?_
          refine w_region ?_
          refine st (s_move rfl ?_)
          refine st (s_lt rfl rfl ?_)
          refine st (s_move rfl ?_)
          refine r_caseP 39 rfl (fun h5 => ?_) (fun h5 => ?_)
          · refine s_pass rfl rfl ?_
            refine s_pass rfl rfl ?_
            refine s_pass rfl rfl ?_
            refine s_pass rfl rfl ?_
            refine s_pass rfl rfl ?_
            refine s_pass rfl rfl ?_
            refine s_pass rfl rfl ?_
            refine s_passU rfl rfl ?_
            refine s_passU rfl rfl ?_
            refine s_pass rfl rfl ?_
            refine st (s_pick rfl rfl ?_)
            refine r_end ?_
            refine n_then ?_
            refine w_condT rfl ?_
            refine w_seq ?_
            refine w_region ?_
            refine st (s_assign rfl ?_)
            refine r_end ?_
            refine n_then ?_
            refine w_ret1 rfl rfl ?_
            refine ⟨_, rfl, hb2, ?_⟩
            rw [loose_no i hi.1 (by omega)]
            rw [ne_eq, okAt_iff]
            rintro ⟨e1, e2⟩
            first | omega | (have e3 := e2 k (by omega) (by omega); unfold Nd.kid at e3; exact kidB_no e3 (by omega))
          · refine stg (s_move rfl ?_)
            refine stg (s_move rfl ?_)
            refine stg (s_idx sl22 rfl rfl (hl.at0 hb2) (by omega) (by omega) ?_)
            rintro b4 o4 _ ⟨rfl, _⟩ hc4 hF4 hlt4
            have hl_4 := Loc.lt hF4
            refine stg (s_faddr fld35_0 rfl ?_)
            refine stg (s_load one3 rfl hc4 (j := 0) rfl ?_)
            refine stg (s_eq rfl rfl ?_)
            refine stg (s_move rfl ?_)
            refine r_caseP 46 rfl (fun h6 => ?_) (fun h6 => ?_)
            · refine stg (s_move rfl ?_)
              refine stg (s_gt rfl rfl ?_)
              refine stg (s_pick rfl rfl ?_)
              refine st (s_pick rfl rfl ?_)
              refine r_end ?_
              refine n_then ?_
              refine w_condP rfl (fun h7 => ?_) (fun h7 => ?_)
              · refine w_seq ?_
                refine w_region ?_
                refine st (s_assign rfl ?_)
                refine r_end ?_
                refine n_then ?_
                refine w_ret1 rfl rfl ?_
                refine ⟨_, rfl, hb2, ?_⟩
                rw [loose_no i hi.1 (by omega)]
                rw [ne_eq, okAt_iff]
                rintro ⟨e1, e2⟩
                first | omega | (have e3 := e2 k (by omega) (by omega); unfold Nd.kid at e3; exact kidB_no e3 (by omega))
              · refine w_skip' ?_
                refine n_then ?_
                refine w_seq ?_
                by_cases h8 : 1 < (ix l i).lv
                · by_cases h9 : 0 < (sel4 ((ix l i).k0) ((ix l i).k1) ((ix l i).k2) ((ix l i).k3) k)
                  · by_cases h10 : i < (sel4 ((ix l i).k0) ((ix l i).k1) ((ix l i).k2) ((ix l i).k3) k)
                    · obtain ⟨b5, o5, _, hat1, ⟨rfl, _⟩, hc5, hF5, hlt5⟩ := (hl.at0 hb2).elem i (by omega) (by omega)
                      have hl_5 := Loc.lt hF5
                      refine w_draw 30 (fun a b => a.grownBy b none) [(some 51, fun v _ => v = va), (some 52, fun v _ => v = .int .i64 i), (some 53, fun v _ => v = .pointer (some ⟨b5, o5, none⟩)), (some 54, fun v _ => v = .pointer (some ⟨b5, o5 + 0, none⟩)), (some 55, fun v _ => v = .int .i64 ((ix l i).lv)), (some 56, fun v _ => v = .bool (decide (1 < (ix l i).lv))), (some 57, fun v _ => v = .bool true), (some 58, fun v _ => v = .int .i64 (sel4 ((ix l i).k0) ((ix l i).k1) ((ix l i).k2) ((ix l i).k3) k)), (some 59, fun v _ => v = .bool (decide (0 < (sel4 ((ix l i).k0) ((ix l i).k1) ((ix l i).k2) ((ix l i).k3) k)))), (some 60, fun v _ => v = .bool (decide (0 < (sel4 ((ix l i).k0) ((ix l i).k1) ((ix l i).k2) ((ix l i).k3) k)))), (some 61, fun v _ => v = .bool true), (some 62, fun v _ => v = .int .i64 (sel4 ((ix l i).k0) ((ix l i).k1) ((ix l i).k2) ((ix l i).k3) k)), (some 63, fun v _ => v = .int .i64 i), (some 64, fun v _ => v = .bool (decide (i < (sel4 ((ix l i).k0) ((ix l i).k1) ((ix l i).k2) ((ix l i).k3) k)))), (some 65, fun v _ => v = .bool true), (some 66, fun v _ => v = undef), (some 67, fun v _ => v = undef), (some 68, fun v _ => v = undef), (some 69, fun v _ => v = undef), (some 70, fun v _ => v = undef), (some 71, fun v _ => v = undef), (some 72, fun v _ => v = undef), (some 73, fun v _ => v = undef), (some 74, fun v _ => v = undef), (some 75, fun v _ => v = undef), (some 76, fun v _ => v = undef), (some 77, fun v _ => v = undef), (some 78, fun v _ => v = undef), (some 79, fun v _ => v = .bool true), (some 80, fun v _ => v = .bool true)] [[], [], [0, 1], [2], [3], [4], [5], [6], [6, 7], [6, 8], [9], [10], [10], [10, 11, 12], [10, 13], [14], [14], [14, 16], [14, 15, 17], [14, 18], [14, 19], [14], [14], [14, 21, 22], [14, 23], [14, 24], [14, 25], [14, 20, 26], [10, 14, 27], [10, 28]] [(0, va), (3, .int .i64 i), (4, .int .i64 k), (5, .int .i64 (sel4 ((ix l i).k0) ((ix l i).k1) ((ix l i).k2) ((ix l i).k3) k))] (by exact ⟨rfl, rfl, rfl, rfl, trivial⟩) (by kernel_rfl) (by kernel_rfl) grown_none_refl (fun _ _ _ => grown_none_trans) ⟨fun _ _ _ h _ => by exact h, fun _ _ _ h _ => by exact h, fun _ _ _ h _ => by exact h, fun _ _ _ h _ => by exact h, fun _ _ _ h _ => by exact h, fun _ _ _ h _ => by exact h, fun _ _ _ h _ => by exact h, fun _ _ _ h _ => by exact h, fun _ _ _ h _ => by exact h, fun _ _ _ h _ => by exact h, fun _ _ _ h _ => by exact h, fun _ _ _ h _ => by exact h, fun _ _ _ h _ => by exact h, fun _ _ _ h _ => by exact h, fun _ _ _ h _ => by exact h, fun _ _ _ h _ => by exact h, fun _ _ _ h _ => by exact h, fun _ _ _ h _ => by exact h, fun _ _ _ h _ => by exact h, fun _ _ _ h _ => by exact h, fun _ _ _ h _ => by exact h, fun _ _ _ h _ => by exact h, fun _ _ _ h _ => by exact h, fun _ _ _ h _ => by exact h, fun _ _ _ h _ => by exact h, fun _ _ _ h _ => by exact h, fun _ _ _ h _ => by exact h, fun _ _ _ h _ => by exact h, fun _ _ _ h _ => by exact h, fun _ _ _ h _ => by exact h, trivial⟩ ?_
                      intro w3 k1 hs1
                      have hb3 := below_g0 hb2 k1
                      refine ⟨⟨?_, ?_, ?_, ?_, ?_, ?_, ?_, ?_, ?_, ?_, ?_, ?_, ?_, ?_, ?_, ?_, ?_, ?_, ?_, ?_, ?_, ?_, ?_, ?_, ?_, ?_, ?_, ?_, ?_, ?_, trivial⟩, ?_⟩
                      · intro w4 k2
                        have hb4 := below_g0 hb3 k2
                        refine op1 (s_move rfl ?_)
                        exact ⟨rfl, grown_none_refl _⟩
                      · intro w5 k3
                        have hb5 := below_g0 hb3 k3
                        refine op1 (s_move rfl ?_)
                        exact ⟨rfl, grown_none_refl _⟩
                      · intro w6 k4
                        have hb6 := below_g0 hb3 k4
                        intro v_ hv_; subst v_
                        rintro _ rfl
                        refine op1 (s_idxat sl22 rfl rfl hat1 ?_)
                        exact ⟨rfl, grown_none_refl _⟩
                      · intro w7 k5
                        have hb7 := below_g0 hb3 k5
                        rintro _ rfl
                        refine op1 (s_faddr fld35_0 rfl ?_)
                        exact ⟨rfl, grown_none_refl _⟩
                      · intro w8 k6
                        have hb8 := below_g0 hb3 k6
                        rintro _ rfl
                        refine op1 (s_load one3 rfl (range_g0 (range_g0 hc5 k1) k6) (j := 0) rfl ?_)
                        exact ⟨rfl, grown_none_refl _⟩
                      · intro w9 k7
                        have hb9 := below_g0 hb3 k7
                        rintro _ rfl
                        refine op1 (s_gt rfl rfl ?_)
                        exact ⟨rfl, grown_none_refl _⟩
                      · intro w10 k8
                        have hb10 := below_g0 hb3 k8
                        rintro _ rfl
                        refine op1 (s_move rfl ?_)
                        exact ⟨(by rw [decide_eq_true h8]), grown_none_refl _⟩
                      · intro w11 k9
                        have hb11 := below_g0 hb3 k9
                        rintro _ rfl
                        refine op1g (s_move rfl ?_)
                        exact ⟨rfl, grown_none_refl _⟩
                      · intro w12 k10
                        have hb12 := below_g0 hb3 k10
                        rintro _ rfl
                        rintro _ rfl
                        refine op1g (s_gt rfl rfl ?_)
                        exact ⟨rfl, grown_none_refl _⟩
                      · intro w13 k11
                        have hb13 := below_g0 hb3 k11
                        rintro _ rfl
                        rintro _ rfl
                        refine op1 (s_pick rfl rfl ?_)
                        exact ⟨rfl, grown_none_refl _⟩
                      · intro w14 k12
                        have hb14 := below_g0 hb3 k12
                        rintro _ rfl
                        refine op1 (s_move rfl ?_)
                        exact ⟨(by rw [decide_eq_true h9]), grown_none_refl _⟩
                      · intro w15 k13
                        have hb15 := below_g0 hb3 k13
                        rintro _ rfl
                        refine op1g (s_move rfl ?_)
                        exact ⟨rfl, grown_none_refl _⟩
                      · intro w16 k14
                        have hb16 := below_g0 hb3 k14
                        rintro _ rfl
                        refine op1g (s_move rfl ?_)
                        exact ⟨rfl, grown_none_refl _⟩
                      · intro w17 k15
                        have hb17 := below_g0 hb3 k15
                        rintro _ rfl
                        rintro _ rfl
                        rintro _ rfl
                        refine op1g (s_gt rfl rfl ?_)
                        exact ⟨rfl, grown_none_refl _⟩
                      · intro w18 k16
                        have hb18 := below_g0 hb3 k16
                        rintro _ rfl
                        rintro _ rfl
                        refine op1g (s_move rfl ?_)
                        exact ⟨(by rw [decide_eq_true h10]), grown_none_refl _⟩
                      · intro w19 k17
                        have hb19 := below_g0 hb3 k17
                        rintro _ rfl
                        refine op1p ⟨rfl, grown_none_refl _⟩
                      · intro w20 k18
                        have hb20 := below_g0 hb3 k18
                        rintro _ rfl
                        refine op1p ⟨rfl, grown_none_refl _⟩
                      · intro w21 k19
                        have hb21 := below_g0 hb3 k19
                        rintro _ rfl
                        intro v_ hv_; subst v_
                        refine op1p ⟨rfl, grown_none_refl _⟩
                      · intro w22 k20
                        have hb22 := below_g0 hb3 k20
                        rintro _ rfl
                        intro v_ hv_; subst v_
                        intro v_ hv_; subst v_
                        refine op1p ⟨rfl, grown_none_refl _⟩
                      · intro w23 k21
                        have hb23 := below_g0 hb3 k21
                        rintro _ rfl
                        intro v_ hv_; subst v_
                        refine op1p ⟨rfl, grown_none_refl _⟩
                      · intro w24 k22
                        have hb24 := below_g0 hb3 k22
                        rintro _ rfl
                        intro v_ hv_; subst v_
                        refine op1p ⟨rfl, grown_none_refl _⟩
                      · intro w25 k23
                        have hb25 := below_g0 hb3 k23
                        rintro _ rfl
                        refine op1p ⟨rfl, grown_none_refl _⟩
                      · intro w26 k24
                        have hb26 := below_g0 hb3 k24
                        rintro _ rfl
                        refine op1p ⟨rfl, grown_none_refl _⟩
                      · intro w27 k25
                        have hb27 := below_g0 hb3 k25
                        rintro _ rfl
                        intro v_ hv_; subst v_
                        intro v_ hv_; subst v_
                        refine op1p ⟨rfl, grown_none_refl _⟩
                      · intro w28 k26
                        have hb28 := below_g0 hb3 k26
                        rintro _ rfl
                        intro v_ hv_; subst v_
                        refine op1p ⟨rfl, grown_none_refl _⟩
                      · intro w29 k27
                        have hb29 := below_g0 hb3 k27
                        rintro _ rfl
                        intro v_ hv_; subst v_
                        refine op1p ⟨rfl, grown_none_refl _⟩
                      · intro w30 k28
                        have hb30 := below_g0 hb3 k28
                        rintro _ rfl
                        intro v_ hv_; subst v_
                        refine op1p ⟨rfl, grown_none_refl _⟩
                      · intro w31 k29
                        have hb31 := below_g0 hb3 k29
                        rintro _ rfl
                        intro v_ hv_; subst v_
                        intro v_ hv_; subst v_
                        refine op1p ⟨rfl, grown_none_refl _⟩
                      · intro w32 k30
                        have hb32 := below_g0 hb3 k30
                        rintro _ rfl
                        rintro _ rfl
                        intro v_ hv_; subst v_
                        refine op1g (s_pick rfl rfl ?_)
                        exact ⟨rfl, grown_none_refl _⟩
                      · intro w33 k31
                        have hb33 := below_g0 hb3 k31
                        rintro _ rfl
                        rintro _ rfl
                        refine op1 (s_pick rfl rfl ?_)
                        exact ⟨rfl, grown_none_refl _⟩
                      · intro w34 k32
                        have hb34 := below_g0 hb3 k32
                        intro v_ hv_; subst v_
                        rintro _ rfl
                        rintro _ rfl
                        rintro _ rfl
                        rintro _ rfl
                        rintro _ rfl
                        rintro _ rfl
                        rintro _ rfl
                        rintro _ rfl
                        rintro _ rfl
                        rintro _ rfl
                        rintro _ rfl
                        rintro _ rfl
                        rintro _ rfl
                        rintro _ rfl
                        intro v_ hv_; subst v_
                        intro v_ hv_; subst v_
                        intro v_ hv_; subst v_
                        intro v_ hv_; subst v_
                        intro v_ hv_; subst v_
                        intro v_ hv_; subst v_
                        intro v_ hv_; subst v_
                        intro v_ hv_; subst v_
                        intro v_ hv_; subst v_
                        intro v_ hv_; subst v_
                        intro v_ hv_; subst v_
                        intro v_ hv_; subst v_
                        intro v_ hv_; subst v_
                        rintro _ rfl
                        rintro _ rfl
                        refine r_end ?_
                        refine n_then ?_
                        refine w_condT rfl ?_
                        refine w_seq ?_
                        refine w_region ?_
                        refine st (s_assign rfl ?_)
                        refine r_end ?_
                        refine n_then ?_
                        refine w_ret1 rfl rfl ?_
                        refine ⟨_, rfl, hb34, ?_⟩
                        rw [loose_no i hi.1 (by omega)]
                        rw [ne_eq, okAt_iff]
                        rintro ⟨e1, e2⟩
                        first | omega | (have e3 := e2 k (by omega) (by omega); unfold Nd.kid at e3; exact kidB_no e3 (by omega))
                    · obtain ⟨b6, o6, _, hat2, ⟨rfl, _⟩, hc6, hF6, hlt6⟩ := (hl.at0 hb2).elem i (by omega) (by omega)
                      have hl_6 := Loc.lt hF6
                      obtain ⟨b7, o7, _, hat3, ⟨rfl, _⟩, hc7, hF7, hlt7⟩ := (hl.at0 hb2).elem ((sel4 ((ix l i).k0) ((ix l i).k1) ((ix l i).k2) ((ix l i).k3) k) - 1) (by omega) (by omega)
                      have hl_7 := Loc.lt hF7
                      obtain ⟨b8, o8, _, hat4, ⟨rfl, _⟩, hc8, hF8, hlt8⟩ := (hl.at0 hb2).elem i (by omega) (by omega)
                      have hl_8 := Loc.lt hF8
                      refine w_draw 30 (fun a b => a.grownBy b none) [(some 51, fun v _ => v = va), (some 52, fun v _ => v = .int .i64 i), (some 53, fun v _ => v = .pointer (some ⟨b6, o6, none⟩)), (some 54, fun v _ => v = .pointer (some ⟨b6, o6 + 0, none⟩)), (some 55, fun v _ => v = .int .i64 ((ix l i).lv)), (some 56, fun v _ => v = .bool (decide (1 < (ix l i).lv))), (some 57, fun v _ => v = .bool true), (some 58, fun v _ => v = .int .i64 (sel4 ((ix l i).k0) ((ix l i).k1) ((ix l i).k2) ((ix l i).k3) k)), (some 59, fun v _ => v = .bool (decide (0 < (sel4 ((ix l i).k0) ((ix l i).k1) ((ix l i).k2) ((ix l i).k3) k)))), (some 60, fun v _ => v = .bool (decide (0 < (sel4 ((ix l i).k0) ((ix l i).k1) ((ix l i).k2) ((ix l i).k3) k)))), (some 61, fun v _ => v = .bool true), (some 62, fun v _ => v = .int .i64 (sel4 ((ix l i).k0) ((ix l i).k1) ((ix l i).k2) ((ix l i).k3) k)), (some 63, fun v _ => v = .int .i64 i), (some 64, fun v _ => v = .bool (decide (i < (sel4 ((ix l i).k0) ((ix l i).k1) ((ix l i).k2) ((ix l i).k3) k)))), (some 65, fun v _ => v = .bool false), (some 66, fun v _ => v = va), (some 67, fun v _ => v = .int .i64 (sel4 ((ix l i).k0) ((ix l i).k1) ((ix l i).k2) ((ix l i).k3) k)), (some 68, fun v _ => v = .int .i64 ((sel4 ((ix l i).k0) ((ix l i).k1) ((ix l i).k2) ((ix l i).k3) k) - 1)), (some 69, fun v _ => v = .pointer (some ⟨b7, o7, none⟩)), (some 70, fun v _ => v = .pointer (some ⟨b7, o7 + 0, none⟩)), (some 71, fun v _ => v = .int .i64 ((ix l ((sel4 ((ix l i).k0) ((ix l i).k1) ((ix l i).k2) ((ix l i).k3) k) - 1)).lv)), (some 72, fun v _ => v = va), (some 73, fun v _ => v = .int .i64 i), (some 74, fun v _ => v = .pointer (some ⟨b8, o8, none⟩)), (some 75, fun v _ => v = .pointer (some ⟨b8, o8 + 0, none⟩)), (some 76, fun v _ => v = .int .i64 ((ix l i).lv)), (some 77, fun v _ => v = .int .i64 ((ix l i).lv - 1)), (some 78, fun v _ => v = .bool (decide ((ix l ((sel4 ((ix l i).k0) ((ix l i).k1) ((ix l i).k2) ((ix l i).k3) k) - 1)).lv ≠ ((ix l i).lv - 1)))), (some 79, fun v _ => v = .bool (decide ((ix l ((sel4 ((ix l i).k0) ((ix l i).k1) ((ix l i).k2) ((ix l i).k3) k) - 1)).lv ≠ ((ix l i).lv - 1)))), (some 80, fun v _ => v = .bool (decide ((ix l ((sel4 ((ix l i).k0) ((ix l i).k1) ((ix l i).k2) ((ix l i).k3) k) - 1)).lv ≠ ((ix l i).lv - 1))))] [[], [], [0, 1], [2], [3], [4], [5], [6], [6, 7], [6, 8], [9], [10], [10], [10, 11, 12], [10, 13], [14], [14], [14, 16], [14, 15, 17], [14, 18], [14, 19], [14], [14], [14, 21, 22], [14, 23], [14, 24], [14, 25], [14, 20, 26], [10, 14, 27], [10, 28]] [(0, va), (3, .int .i64 i), (4, .int .i64 k), (5, .int .i64 (sel4 ((ix l i).k0) ((ix l i).k1) ((ix l i).k2) ((ix l i).k3) k))] (by exact ⟨rfl, rfl, rfl, rfl, trivial⟩) (by kernel_rfl) (by kernel_rfl) grown_none_refl (fun _ _ _ => grown_none_trans) ⟨fun _ _ _ h _ => by exact h, fun _ _ _ h _ => by exact h, fun _ _ _ h _ => by exact h, fun _ _ _ h _ => by exact h, fun _ _ _ h _ => by exact h, fun _ _ _ h _ => by exact h, fun _ _ _ h _ => by exact h, fun _ _ _ h _ => by exact h, fun _ _ _ h _ => by exact h, fun _ _ _ h _ => by exact h, fun _ _ _ h _ => by exact h, fun _ _ _ h _ => by exact h, fun _ _ _ h _ => by exact h, fun _ _ _ h _ => by exact h, fun _ _ _ h _ => by exact h, fun _ _ _ h _ => by exact h, fun _ _ _ h _ => by exact h, fun _ _ _ h _ => by exact h, fun _ _ _ h _ => by exact h, fun _ _ _ h _ => by exact h, fun _ _ _ h _ => by exact h, fun _ _ _ h _ => by exact h, fun _ _ _ h _ => by exact h, fun _ _ _ h _ => by exact h, fun _ _ _ h _ => by exact h, fun _ _ _ h _ => by exact h, fun _ _ _ h _ => by exact h, fun _ _ _ h _ => by exact h, fun _ _ _ h _ => by exact h, fun _ _ _ h _ => by exact h, trivial⟩ ?_
                      intro w35 k33 hs2
                      have hb35 := below_g0 hb2 k33
                      refine ⟨⟨?_, ?_, ?_, ?_, ?_, ?_, ?_, ?_, ?_, ?_, ?_, ?_, ?_, ?_, ?_, ?_, ?_, ?_, ?_, ?_, ?_, ?_, ?_, ?_, ?_, ?_, ?_, ?_, ?_, ?_, trivial⟩, ?_⟩
                      · intro w36 k34
                        have hb36 := below_g0 hb35 k34
                        refine op1 (s_move rfl ?_)
                        exact ⟨rfl, grown_none_refl _⟩
                      · intro w37 k35
                        have hb37 := below_g0 hb35 k35
                        refine op1 (s_move rfl ?_)
                        exact ⟨rfl, grown_none_refl _⟩
                      · intro w38 k36
                        have hb38 := below_g0 hb35 k36
                        intro v_ hv_; subst v_
                        rintro _ rfl
                        refine op1 (s_idxat sl22 rfl rfl hat2 ?_)
                        exact ⟨rfl, grown_none_refl _⟩
                      · intro w39 k37
                        have hb39 := below_g0 hb35 k37
                        rintro _ rfl
                        refine op1 (s_faddr fld35_0 rfl ?_)
                        exact ⟨rfl, grown_none_refl _⟩
                      · intro w40 k38
                        have hb40 := below_g0 hb35 k38
                        rintro _ rfl
                        refine op1 (s_load one3 rfl (range_g0 (range_g0 hc6 k33) k38) (j := 0) rfl ?_)
                        exact ⟨rfl, grown_none_refl _⟩
                      · intro w41 k39
                        have hb41 := below_g0 hb35 k39
                        rintro _ rfl
                        refine op1 (s_gt rfl rfl ?_)
                        exact ⟨rfl, grown_none_refl _⟩
                      · intro w42 k40
                        have hb42 := below_g0 hb35 k40
                        rintro _ rfl
                        refine op1 (s_move rfl ?_)
                        exact ⟨(by rw [decide_eq_true h8]), grown_none_refl _⟩
                      · intro w43 k41
                        have hb43 := below_g0 hb35 k41
                        rintro _ rfl
                        refine op1g (s_move rfl ?_)
                        exact ⟨rfl, grown_none_refl _⟩
                      · intro w44 k42
                        have hb44 := below_g0 hb35 k42
                        rintro _ rfl
                        rintro _ rfl
                        refine op1g (s_gt rfl rfl ?_)
                        exact ⟨rfl, grown_none_refl _⟩
                      · intro w45 k43
                        have hb45 := below_g0 hb35 k43
                        rintro _ rfl
                        rintro _ rfl
                        refine op1 (s_pick rfl rfl ?_)
                        exact ⟨rfl, grown_none_refl _⟩
                      · intro w46 k44
                        have hb46 := below_g0 hb35 k44
                        rintro _ rfl
                        refine op1 (s_move rfl ?_)
                        exact ⟨(by rw [decide_eq_true h9]), grown_none_refl _⟩
                      · intro w47 k45
                        have hb47 := below_g0 hb35 k45
                        rintro _ rfl
                        refine op1g (s_move rfl ?_)
                        exact ⟨rfl, grown_none_refl _⟩
                      · intro w48 k46
                        have hb48 := below_g0 hb35 k46
                        rintro _ rfl
                        refine op1g (s_move rfl ?_)
                        exact ⟨rfl, grown_none_refl _⟩
                      · intro w49 k47
                        have hb49 := below_g0 hb35 k47
                        rintro _ rfl
                        rintro _ rfl
                        rintro _ rfl
                        refine op1g (s_gt rfl rfl ?_)
                        exact ⟨rfl, grown_none_refl _⟩
                      · intro w50 k48
                        have hb50 := below_g0 hb35 k48
                        rintro _ rfl
                        rintro _ rfl
                        refine op1g (s_move rfl ?_)
                        exact ⟨(by rw [decide_eq_false h10]), grown_none_refl _⟩
                      · intro w51 k49
                        have hb51 := below_g0 hb35 k49
                        rintro _ rfl
                        refine op1g (s_move rfl ?_)
                        exact ⟨rfl, grown_none_refl _⟩
                      · intro w52 k50
                        have hb52 := below_g0 hb35 k50
                        rintro _ rfl
                        refine op1g (s_move rfl ?_)
                        exact ⟨rfl, grown_none_refl _⟩
                      · intro w53 k51
                        have hb53 := below_g0 hb35 k51
                        rintro _ rfl
                        rintro _ rfl
                        refine op1g (s_sub rfl rfl (by omega) ?_)
                        exact ⟨rfl, grown_none_refl _⟩
                      · intro w54 k52
                        have hb54 := below_g0 hb35 k52
                        rintro _ rfl
                        intro v_ hv_; subst v_
                        rintro _ rfl
                        refine op1g (s_idxat sl22 rfl rfl hat3 ?_)
                        exact ⟨rfl, grown_none_refl _⟩
                      · intro w55 k53
                        have hb55 := below_g0 hb35 k53
                        rintro _ rfl
                        rintro _ rfl
                        refine op1g (s_faddr fld35_0 rfl ?_)
                        exact ⟨rfl, grown_none_refl _⟩
                      · intro w56 k54
                        have hb56 := below_g0 hb35 k54
                        rintro _ rfl
                        rintro _ rfl
                        refine op1g (s_load one3 rfl (range_g0 (range_g0 hc7 k33) k54) (j := 0) rfl ?_)
                        exact ⟨rfl, grown_none_refl _⟩
                      · intro w57 k55
                        have hb57 := below_g0 hb35 k55
                        rintro _ rfl
                        refine op1g (s_move rfl ?_)
                        exact ⟨rfl, grown_none_refl _⟩
                      · intro w58 k56
                        have hb58 := below_g0 hb35 k56
                        rintro _ rfl
                        refine op1g (s_move rfl ?_)
                        exact ⟨rfl, grown_none_refl _⟩
                      · intro w59 k57
                        have hb59 := below_g0 hb35 k57
                        rintro _ rfl
                        intro v_ hv_; subst v_
                        rintro _ rfl
                        refine op1g (s_idxat sl22 rfl rfl hat4 ?_)
                        exact ⟨rfl, grown_none_refl _⟩
                      · intro w60 k58
                        have hb60 := below_g0 hb35 k58
                        rintro _ rfl
                        rintro _ rfl
                        refine op1g (s_faddr fld35_0 rfl ?_)
                        exact ⟨rfl, grown_none_refl _⟩
                      · intro w61 k59
                        have hb61 := below_g0 hb35 k59
                        rintro _ rfl
                        rintro _ rfl
                        refine op1g (s_load one3 rfl (range_g0 (range_g0 hc8 k33) k59) (j := 0) rfl ?_)
                        exact ⟨rfl, grown_none_refl _⟩
                      · intro w62 k60
                        have hb62 := below_g0 hb35 k60
                        rintro _ rfl
                        rintro _ rfl
                        refine op1g (s_sub rfl rfl (by omega) ?_)
                        exact ⟨rfl, grown_none_refl _⟩
                      · intro w63 k61
                        have hb63 := below_g0 hb35 k61
                        rintro _ rfl
                        rintro _ rfl
                        rintro _ rfl
                        refine op1g (s_ne rfl rfl ?_)
                        exact ⟨rfl, grown_none_refl _⟩
                      · intro w64 k62
                        have hb64 := below_g0 hb35 k62
                        rintro _ rfl
                        rintro _ rfl
                        rintro _ rfl
                        refine op1g (s_pick rfl rfl ?_)
                        exact ⟨rfl, grown_none_refl _⟩
                      · intro w65 k63
                        have hb65 := below_g0 hb35 k63
                        rintro _ rfl
                        rintro _ rfl
                        refine op1 (s_pick rfl rfl ?_)
                        exact ⟨rfl, grown_none_refl _⟩
                      · intro w66 k64
                        have hb66 := below_g0 hb35 k64
                        intro v_ hv_; subst v_
                        rintro _ rfl
                        rintro _ rfl
                        rintro _ rfl
                        rintro _ rfl
                        rintro _ rfl
                        rintro _ rfl
                        rintro _ rfl
                        rintro _ rfl
                        rintro _ rfl
                        rintro _ rfl
                        rintro _ rfl
                        rintro _ rfl
                        rintro _ rfl
                        rintro _ rfl
                        intro v_ hv_; subst v_
                        rintro _ rfl
                        rintro _ rfl
                        rintro _ rfl
                        rintro _ rfl
                        rintro _ rfl
                        intro v_ hv_; subst v_
                        rintro _ rfl
                        rintro _ rfl
                        rintro _ rfl
                        rintro _ rfl
                        rintro _ rfl
                        rintro _ rfl
                        rintro _ rfl
                        rintro _ rfl
                        refine r_end ?_
                        refine n_then ?_
                        refine w_condP rfl (fun h11 => ?_) (fun h11 => ?_)
                        · refine w_seq ?_
                          refine w_region ?_
                          refine st (s_assign rfl ?_)
                          refine r_end ?_
                          refine n_then ?_
                          refine w_ret1 rfl rfl ?_
                          refine ⟨_, rfl, hb66, ?_⟩
                          rw [loose_no i hi.1 (by omega)]
                          rw [ne_eq, okAt_iff]
                          rintro ⟨e1, e2⟩
                          first | omega | (have e3 := e2 k (by omega) (by omega); unfold Nd.kid at e3; exact kidB_no e3 (by omega))
                        · refine w_skip' ?_
                          refine n_block ?_
                          refine n_then ?_
                          refine w_region ?_
                          refine st (s_move rfl ?_)
                          refine st (s_add rfl rfl (by omega) ?_)
                          refine st (s_assign rfl ?_)
                          refine r_end ?_
                          exact n_round ((k + 1)) ⟨hb66, by omega, fun j j0 j1 => if e : j = k then by rw [e]; unfold Nd.kid; exact kidB_yes (by omega) (by omega) (by omega) else hk2 j j0 (by omega)⟩ (by omega) (by exact ⟨rfl, rfl, rfl, trivial⟩)
                  · obtain ⟨b9, o9, _, hat5, ⟨rfl, _⟩, hc9, hF9, hlt9⟩ := (hl.at0 hb2).elem i (by omega) (by omega)
                    have hl_9 := Loc.lt hF9
                    refine w_draw 30 (fun a b => a.grownBy b none) [(some 51, fun v _ => v = va), (some 52, fun v _ => v = .int .i64 i), (some 53, fun v _ => v = .pointer (some ⟨b9, o9, none⟩)), (some 54, fun v _ => v = .pointer (some ⟨b9, o9 + 0, none⟩)), (some 55, fun v _ => v = .int .i64 ((ix l i).lv)), (some 56, fun v _ => v = .bool (decide (1 < (ix l i).lv))), (some 57, fun v _ => v = .bool true), (some 58, fun v _ => v = .int .i64 (sel4 ((ix l i).k0) ((ix l i).k1) ((ix l i).k2) ((ix l i).k3) k)), (some 59, fun v _ => v = .bool (decide (0 < (sel4 ((ix l i).k0) ((ix l i).k1) ((ix l i).k2) ((ix l i).k3) k)))), (some 60, fun v _ => v = .bool (decide (0 < (sel4 ((ix l i).k0) ((ix l i).k1) ((ix l i).k2) ((ix l i).k3) k)))), (some 61, fun v _ => v = .bool false), (some 62, fun v _ => v = undef), (some 63, fun v _ => v = undef), (some 64, fun v _ => v = undef), (some 65, fun v _ => v = undef), (some 66, fun v _ => v = undef), (some 67, fun v _ => v = undef), (some 68, fun v _ => v = undef), (some 69, fun v _ => v = undef), (some 70, fun v _ => v = undef), (some 71, fun v _ => v = undef), (some 72, fun v _ => v = undef), (some 73, fun v _ => v = undef), (some 74, fun v _ => v = undef), (some 75, fun v _ => v = undef), (some 76, fun v _ => v = undef), (some 77, fun v _ => v = undef), (some 78, fun v _ => v = undef), (some 79, fun v _ => v = undef), (some 80, fun v _ => v = .bool false)] [[], [], [0, 1], [2], [3], [4], [5], [6], [6, 7], [6, 8], [9], [10], [10], [10, 11, 12], [10, 13], [14], [14], [14, 16], [14, 15, 17], [14, 18], [14, 19], [14], [14], [14, 21, 22], [14, 23], [14, 24], [14, 25], [14, 20, 26], [10, 14, 27], [10, 28]] [(0, va), (3, .int .i64 i), (4, .int .i64 k), (5, .int .i64 (sel4 ((ix l i).k0) ((ix l i).k1) ((ix l i).k2) ((ix l i).k3) k))] (by exact ⟨rfl, rfl, rfl, rfl, trivial⟩) (by kernel_rfl) (by kernel_rfl) grown_none_refl (fun _ _ _ => grown_none_trans) ⟨fun _ _ _ h _ => by exact h, fun _ _ _ h _ => by exact h, fun _ _ _ h _ => by exact h, fun _ _ _ h _ => by exact h, fun _ _ _ h _ => by exact h, fun _ _ _ h _ => by exact h, fun _ _ _ h _ => by exact h, fun _ _ _ h _ => by exact h, fun _ _ _ h _ => by exact h, fun _ _ _ h _ => by exact h, fun _ _ _ h _ => by exact h, fun _ _ _ h _ => by exact h, fun _ _ _ h _ => by exact h, fun _ _ _ h _ => by exact h, fun _ _ _ h _ => by exact h, fun _ _ _ h _ => by exact h, fun _ _ _ h _ => by exact h, fun _ _ _ h _ => by exact h, fun _ _ _ h _ => by exact h, fun _ _ _ h _ => by exact h, fun _ _ _ h _ => by exact h, fun _ _ _ h _ => by exact h, fun _ _ _ h _ => by exact h, fun _ _ _ h _ => by exact h, fun _ _ _ h _ => by exact h, fun _ _ _ h _ => by exact h, fun _ _ _ h _ => by exact h, fun _ _ _ h _ => by exact h, fun _ _ _ h _ => by exact h, fun _ _ _ h _ => by exact h, trivial⟩ ?_
                    intro w67 k65 hs3
                    have hb67 := below_g0 hb2 k65
                    refine ⟨⟨?_, ?_, ?_, ?_, ?_, ?_, ?_, ?_, ?_, ?_, ?_, ?_, ?_, ?_, ?_, ?_, ?_, ?_, ?_, ?_, ?_, ?_, ?_, ?_, ?_, ?_, ?_, ?_, ?_, ?_, trivial⟩, ?_⟩
                    · intro w68 k66
                      have hb68 := below_g0 hb67 k66
                      refine op1 (s_move rfl ?_)
                      exact ⟨rfl, grown_none_refl _⟩
                    · intro w69 k67
                      have hb69 := below_g0 hb67 k67
                      refine op1 (s_move rfl ?_)
                      exact ⟨rfl, grown_none_refl _⟩
                    · intro w70 k68
                      have hb70 := below_g0 hb67 k68
                      intro v_ hv_; subst v_
                      rintro _ rfl
                      refine op1 (s_idxat sl22 rfl rfl hat5 ?_)
                      exact ⟨rfl, grown_none_refl _⟩
                    · intro w71 k69
                      have hb71 := below_g0 hb67 k69
                      rintro _ rfl
                      refine op1 (s_faddr fld35_0 rfl ?_)
                      exact ⟨rfl, grown_none_refl _⟩
                    · intro w72 k70
                      have hb72 := below_g0 hb67 k70
                      rintro _ rfl
                      refine op1 (s_load one3 rfl (range_g0 (range_g0 hc9 k65) k70) (j := 0) rfl ?_)
                      exact ⟨rfl, grown_none_refl _⟩
                    · intro w73 k71
                      have hb73 := below_g0 hb67 k71
                      rintro _ rfl
                      refine op1 (s_gt rfl rfl ?_)
                      exact ⟨rfl, grown_none_refl _⟩
                    · intro w74 k72
                      have hb74 := below_g0 hb67 k72
                      rintro _ rfl
                      refine op1 (s_move rfl ?_)
                      exact ⟨(by rw [decide_eq_true h8]), grown_none_refl _⟩
                    · intro w75 k73
                      have hb75 := below_g0 hb67 k73
                      rintro _ rfl
                      refine op1g (s_move rfl ?_)
                      exact ⟨rfl, grown_none_refl _⟩
                    · intro w76 k74
                      have hb76 := below_g0 hb67 k74
                      rintro _ rfl
                      rintro _ rfl
                      refine op1g (s_gt rfl rfl ?_)
                      exact ⟨rfl, grown_none_refl _⟩
                    · intro w77 k75
                      have hb77 := below_g0 hb67 k75
                      rintro _ rfl
                      rintro _ rfl
                      refine op1 (s_pick rfl rfl ?_)
                      exact ⟨rfl, grown_none_refl _⟩
                    · intro w78 k76
                      have hb78 := below_g0 hb67 k76
                      rintro _ rfl
                      refine op1 (s_move rfl ?_)
                      exact ⟨(by rw [decide_eq_false h9]), grown_none_refl _⟩
                    · intro w79 k77
                      have hb79 := below_g0 hb67 k77
                      rintro _ rfl
                      refine op1p ⟨rfl, grown_none_refl _⟩
                    · intro w80 k78
                      have hb80 := below_g0 hb67 k78
                      rintro _ rfl
                      refine op1p ⟨rfl, grown_none_refl _⟩
                    · intro w81 k79
                      have hb81 := below_g0 hb67 k79
                      rintro _ rfl
                      intro v_ hv_; subst v_
                      intro v_ hv_; subst v_
                      refine op1p ⟨rfl, grown_none_refl _⟩
                    · intro w82 k80
                      have hb82 := below_g0 hb67 k80
                      rintro _ rfl
                      intro v_ hv_; subst v_
                      refine op1p ⟨rfl, grown_none_refl _⟩
                    · intro w83 k81
                      have hb83 := below_g0 hb67 k81
                      intro v_ hv_; subst v_
                      refine op1u ⟨rfl, grown_none_refl _⟩
                    · intro w84 k82
                      have hb84 := below_g0 hb67 k82
                      intro v_ hv_; subst v_
                      refine op1u ⟨rfl, grown_none_refl _⟩
                    · intro w85 k83
                      have hb85 := below_g0 hb67 k83
                      intro v_ hv_; subst v_
                      intro v_ hv_; subst v_
                      refine op1u ⟨rfl, grown_none_refl _⟩
                    · intro w86 k84
                      have hb86 := below_g0 hb67 k84
                      intro v_ hv_; subst v_
                      intro v_ hv_; subst v_
                      intro v_ hv_; subst v_
                      refine op1u ⟨rfl, grown_none_refl _⟩
                    · intro w87 k85
                      have hb87 := below_g0 hb67 k85
                      intro v_ hv_; subst v_
                      intro v_ hv_; subst v_
                      refine op1u ⟨rfl, grown_none_refl _⟩
                    · intro w88 k86
                      have hb88 := below_g0 hb67 k86
                      intro v_ hv_; subst v_
                      intro v_ hv_; subst v_
                      refine op1u ⟨rfl, grown_none_refl _⟩
                    · intro w89 k87
                      have hb89 := below_g0 hb67 k87
                      intro v_ hv_; subst v_
                      refine op1u ⟨rfl, grown_none_refl _⟩
                    · intro w90 k88
                      have hb90 := below_g0 hb67 k88
                      intro v_ hv_; subst v_
                      refine op1u ⟨rfl, grown_none_refl _⟩
                    · intro w91 k89
                      have hb91 := below_g0 hb67 k89
                      intro v_ hv_; subst v_
                      intro v_ hv_; subst v_
                      intro v_ hv_; subst v_
                      refine op1u ⟨rfl, grown_none_refl _⟩
                    · intro w92 k90
                      have hb92 := below_g0 hb67 k90
                      intro v_ hv_; subst v_
                      intro v_ hv_; subst v_
                      refine op1u ⟨rfl, grown_none_refl _⟩
                    · intro w93 k91
                      have hb93 := below_g0 hb67 k91
                      intro v_ hv_; subst v_
                      intro v_ hv_; subst v_
                      refine op1u ⟨rfl, grown_none_refl _⟩
                    · intro w94 k92
                      have hb94 := below_g0 hb67 k92
                      intro v_ hv_; subst v_
                      intro v_ hv_; subst v_
                      refine op1u ⟨rfl, grown_none_refl _⟩
                    · intro w95 k93
                      have hb95 := below_g0 hb67 k93
                      intro v_ hv_; subst v_
                      intro v_ hv_; subst v_
                      intro v_ hv_; subst v_
                      refine op1u ⟨rfl, grown_none_refl _⟩
                    · intro w96 k94
                      have hb96 := below_g0 hb67 k94
                      rintro _ rfl
                      intro v_ hv_; subst v_
                      intro v_ hv_; subst v_
                      refine op1p ⟨rfl, grown_none_refl _⟩
                    · intro w97 k95
                      have hb97 := below_g0 hb67 k95
                      rintro _ rfl
                      intro v_ hv_; subst v_
                      refine op1 (s_pick rfl rfl ?_)
                      exact ⟨rfl, grown_none_refl _⟩
                    · intro w98 k96
                      have hb98 := below_g0 hb67 k96
                      intro v_ hv_; subst v_
                      rintro _ rfl
                      rintro _ rfl
                      rintro _ rfl
                      rintro _ rfl
                      rintro _ rfl
                      rintro _ rfl
                      rintro _ rfl
                      rintro _ rfl
                      rintro _ rfl
                      rintro _ rfl
                      intro v_ hv_; subst v_
                      intro v_ hv_; subst v_
                      intro v_ hv_; subst v_
                      intro v_ hv_; subst v_
                      intro v_ hv_; subst v_
                      intro v_ hv_; subst v_
                      intro v_ hv_; subst v_
                      intro v_ hv_; subst v_
                      intro v_ hv_; subst v_
                      intro v_ hv_; subst v_
                      intro v_ hv_; subst v_
                      intro v_ hv_; subst v_
                      intro v_ hv_; subst v_
                      intro v_ hv_; subst v_
                      intro v_ hv_; subst v_
                      intro v_ hv_; subst v_
                      intro v_ hv_; subst v_
                      intro v_ hv_; subst v_
                      rintro _ rfl
                      refine r_end ?_
                      refine n_then ?_
                      refine w_condF rfl ?_
                      refine w_skip' ?_
                      refine n_block ?_
                      refine n_then ?_
                      refine w_region ?_
                      refine st (s_move rfl ?_)
                      refine st (s_add rfl rfl (by omega) ?_)
                      refine st (s_assign rfl ?_)
                      refine r_end ?_
                      exact n_round ((k + 1)) ⟨hb98, by omega, fun j j0 j1 => if e : j = k then by rw [e]; unfold Nd.kid; exact kidB_yes (by omega) (by omega) (by omega) else hk2 j j0 (by omega)⟩ (by omega) (by exact ⟨rfl, rfl, rfl, trivial⟩)
                · obtain ⟨b10, o10, _, hat6, ⟨rfl, _⟩, hc10, hF10, hlt10⟩ := (hl.at0 hb2).elem i (by omega) (by omega)
                  have hl_10 := Loc.lt hF10
                  refine w_draw 30 (fun a b => a.grownBy b none) [(some 51, fun v _ => v = va), (some 52, fun v _ => v = .int .i64 i), (some 53, fun v _ => v = .pointer (some ⟨b10, o10, none⟩)), (some 54, fun v _ => v = .pointer (some ⟨b10, o10 + 0, none⟩)), (some 55, fun v _ => v = .int .i64 ((ix l i).lv)), (some 56, fun v _ => v = .bool (decide (1 < (ix l i).lv))), (some 57, fun v _ => v = .bool false), (some 58, fun v _ => v = undef), (some 59, fun v _ => v = undef), (some 60, fun v _ => v = .bool false), (some 61, fun v _ => v = .bool false), (some 62, fun v _ => v = undef), (some 63, fun v _ => v = undef), (some 64, fun v _ => v = undef), (some 65, fun v _ => v = undef), (some 66, fun v _ => v = undef), (some 67, fun v _ => v = undef), (some 68, fun v _ => v = undef), (some 69, fun v _ => v = undef), (some 70, fun v _ => v = undef), (some 71, fun v _ => v = undef), (some 72, fun v _ => v = undef), (some 73, fun v _ => v = undef), (some 74, fun v _ => v = undef), (some 75, fun v _ => v = undef), (some 76, fun v _ => v = undef), (some 77, fun v _ => v = undef), (some 78, fun v _ => v = undef), (some 79, fun v _ => v = undef), (some 80, fun v _ => v = .bool false)] [[], [], [0, 1], [2], [3], [4], [5], [6], [6, 7], [6, 8], [9], [10], [10], [10, 11, 12], [10, 13], [14], [14], [14, 16], [14, 15, 17], [14, 18], [14, 19], [14], [14], [14, 21, 22], [14, 23], [14, 24], [14, 25], [14, 20, 26], [10, 14, 27], [10, 28]] [(0, va), (3, .int .i64 i), (4, .int .i64 k), (5, .int .i64 (sel4 ((ix l i).k0) ((ix l i).k1) ((ix l i).k2) ((ix l i).k3) k))] (by exact ⟨rfl, rfl, rfl, rfl, trivial⟩) (by kernel_rfl) (by kernel_rfl) grown_none_refl (fun _ _ _ => grown_none_trans) ⟨fun _ _ _ h _ => by exact h, fun _ _ _ h _ => by exact h, fun _ _ _ h _ => by exact h, fun _ _ _ h _ => by exact h, fun _ _ _ h _ => by exact h, fun _ _ _ h _ => by exact h, fun _ _ _ h _ => by exact h, fun _ _ _ h _ => by exact h, fun _ _ _ h _ => by exact h, fun _ _ _ h _ => by exact h, fun _ _ _ h _ => by exact h, fun _ _ _ h _ => by exact h, fun _ _ _ h _ => by exact h, fun _ _ _ h _ => by exact h, fun _ _ _ h _ => by exact h, fun _ _ _ h _ => by exact h, fun _ _ _ h _ => by exact h, fun _ _ _ h _ => by exact h, fun _ _ _ h _ => by exact h, fun _ _ _ h _ => by exact h, fun _ _ _ h _ => by exact h, fun _ _ _ h _ => by exact h, fun _ _ _ h _ => by exact h, fun _ _ _ h _ => by exact h, fun _ _ _ h _ => by exact h, fun _ _ _ h _ => by exact h, fun _ _ _ h _ => by exact h, fun _ _ _ h _ => by exact h, fun _ _ _ h _ => by exact h, fun _ _ _ h _ => by exact h, trivial⟩ ?_
                  intro w99 k97 hs4
                  have hb99 := below_g0 hb2 k97
                  refine ⟨⟨?_, ?_, ?_, ?_, ?_, ?_, ?_, ?_, ?_, ?_, ?_, ?_, ?_, ?_, ?_, ?_, ?_, ?_, ?_, ?_, ?_, ?_, ?_, ?_, ?_, ?_, ?_, ?_, ?_, ?_, trivial⟩, ?_⟩
                  · intro w100 k98
                    have hb100 := below_g0 hb99 k98
                    refine op1 (s_move rfl ?_)
                    exact ⟨rfl, grown_none_refl _⟩
                  · intro w101 k99
                    have hb101 := below_g0 hb99 k99
                    refine op1 (s_move rfl ?_)
                    exact ⟨rfl, grown_none_refl _⟩
                  · intro w102 k100
                    have hb102 := below_g0 hb99 k100
                    intro v_ hv_; subst v_
                    rintro _ rfl
                    refine op1 (s_idxat sl22 rfl rfl hat6 ?_)
                    exact ⟨rfl, grown_none_refl _⟩
                  · intro w103 k101
                    have hb103 := below_g0 hb99 k101
                    rintro _ rfl
                    refine op1 (s_faddr fld35_0 rfl ?_)
                    exact ⟨rfl, grown_none_refl _⟩
                  · intro w104 k102
                    have hb104 := below_g0 hb99 k102
                    rintro _ rfl
                    refine op1 (s_load one3 rfl (range_g0 (range_g0 hc10 k97) k102) (j := 0) rfl ?_)
                    exact ⟨rfl, grown_none_refl _⟩
                  · intro w105 k103
                    have hb105 := below_g0 hb99 k103
                    rintro _ rfl
                    refine op1 (s_gt rfl rfl ?_)
                    exact ⟨rfl, grown_none_refl _⟩
                  · intro w106 k104
                    have hb106 := below_g0 hb99 k104
                    rintro _ rfl
                    refine op1 (s_move rfl ?_)
                    exact ⟨(by rw [decide_eq_false h8]), grown_none_refl _⟩
                  · intro w107 k105
                    have hb107 := below_g0 hb99 k105
                    rintro _ rfl
                    refine op1p ⟨rfl, grown_none_refl _⟩
                  · intro w108 k106
                    have hb108 := below_g0 hb99 k106
                    rintro _ rfl
                    intro v_ hv_; subst v_
                    refine op1p ⟨rfl, grown_none_refl _⟩
                  · intro w109 k107
                    have hb109 := below_g0 hb99 k107
                    rintro _ rfl
                    intro v_ hv_; subst v_
                    refine op1 (s_pick rfl rfl ?_)
                    exact ⟨rfl, grown_none_refl _⟩
                  · intro w110 k108
                    have hb110 := below_g0 hb99 k108
                    rintro _ rfl
                    refine op1 (s_move rfl ?_)
                    exact ⟨rfl, grown_none_refl _⟩
                  · intro w111 k109
                    have hb111 := below_g0 hb99 k109
                    rintro _ rfl
                    refine op1p ⟨rfl, grown_none_refl _⟩
                  · intro w112 k110
                    have hb112 := below_g0 hb99 k110
                    rintro _ rfl
                    refine op1p ⟨rfl, grown_none_refl _⟩
                  · intro w113 k111
                    have hb113 := below_g0 hb99 k111
                    rintro _ rfl
                    intro v_ hv_; subst v_
                    intro v_ hv_; subst v_
                    refine op1p ⟨rfl, grown_none_refl _⟩
                  · intro w114 k112
                    have hb114 := below_g0 hb99 k112
                    rintro _ rfl
                    intro v_ hv_; subst v_
                    refine op1p ⟨rfl, grown_none_refl _⟩
                  · intro w115 k113
                    have hb115 := below_g0 hb99 k113
                    intro v_ hv_; subst v_
                    refine op1u ⟨rfl, grown_none_refl _⟩
                  · intro w116 k114
                    have hb116 := below_g0 hb99 k114
                    intro v_ hv_; subst v_
                    refine op1u ⟨rfl, grown_none_refl _⟩
                  · intro w117 k115
                    have hb117 := below_g0 hb99 k115
                    intro v_ hv_; subst v_
                    intro v_ hv_; subst v_
                    refine op1u ⟨rfl, grown_none_refl _⟩
                  · intro w118 k116
                    have hb118 := below_g0 hb99 k116
                    intro v_ hv_; subst v_
                    intro v_ hv_; subst v_
                    intro v_ hv_; subst v_
                    refine op1u ⟨rfl, grown_none_refl _⟩
                  · intro w119 k117
                    have hb119 := below_g0 hb99 k117
                    intro v_ hv_; subst v_
                    intro v_ hv_; subst v_
                    refine op1u ⟨rfl, grown_none_refl _⟩
                  · intro w120 k118
                    have hb120 := below_g0 hb99 k118
                    intro v_ hv_; subst v_
                    intro v_ hv_; subst v_
                    refine op1u ⟨rfl, grown_none_refl _⟩
                  · intro w121 k119
                    have hb121 := below_g0 hb99 k119
                    intro v_ hv_; subst v_
                    refine op1u ⟨rfl, grown_none_refl _⟩
                  · intro w122 k120
                    have hb122 := below_g0 hb99 k120
                    intro v_ hv_; subst v_
                    refine op1u ⟨rfl, grown_none_refl _⟩
                  · intro w123 k121
                    have hb123 := below_g0 hb99 k121
                    intro v_ hv_; subst v_
                    intro v_ hv_; subst v_
                    intro v_ hv_; subst v_
                    refine op1u ⟨rfl, grown_none_refl _⟩
                  · intro w124 k122
                    have hb124 := below_g0 hb99 k122
                    intro v_ hv_; subst v_
                    intro v_ hv_; subst v_
                    refine op1u ⟨rfl, grown_none_refl _⟩
                  · intro w125 k123
                    have hb125 := below_g0 hb99 k123
                    intro v_ hv_; subst v_
                    intro v_ hv_; subst v_
                    refine op1u ⟨rfl, grown_none_refl _⟩
                  · intro w126 k124
                    have hb126 := below_g0 hb99 k124
                    intro v_ hv_; subst v_
                    intro v_ hv_; subst v_
                    refine op1u ⟨rfl, grown_none_refl _⟩
                  · intro w127 k125
                    have hb127 := below_g0 hb99 k125
                    intro v_ hv_; subst v_
                    intro v_ hv_; subst v_
                    intro v_ hv_; subst v_
                    refine op1u ⟨rfl, grown_none_refl _⟩
                  · intro w128 k126
                    have hb128 := below_g0 hb99 k126
                    rintro _ rfl
                    intro v_ hv_; subst v_
                    intro v_ hv_; subst v_
                    refine op1p ⟨rfl, grown_none_refl _⟩
                  · intro w129 k127
                    have hb129 := below_g0 hb99 k127
                    rintro _ rfl
                    intro v_ hv_; subst v_
                    refine op1 (s_pick rfl rfl ?_)
                    exact ⟨rfl, grown_none_refl _⟩
                  · intro w130 k128
                    have hb130 := below_g0 hb99 k128
                    intro v_ hv_; subst v_
                    rintro _ rfl
                    rintro _ rfl
                    rintro _ rfl
                    rintro _ rfl
                    rintro _ rfl
                    rintro _ rfl
                    intro v_ hv_; subst v_
                    intro v_ hv_; subst v_
                    rintro _ rfl
                    rintro _ rfl
                    intro v_ hv_; subst v_
                    intro v_ hv_; subst v_
                    intro v_ hv_; subst v_
                    intro v_ hv_; subst v_
                    intro v_ hv_; subst v_
                    intro v_ hv_; subst v_
                    intro v_ hv_; subst v_
                    intro v_ hv_; subst v_
                    intro v_ hv_; subst v_
                    intro v_ hv_; subst v_
                    intro v_ hv_; subst v_
                    intro v_ hv_; subst v_
                    intro v_ hv_; subst v_
                    intro v_ hv_; subst v_
                    intro v_ hv_; subst v_
                    intro v_ hv_; subst v_
                    intro v_ hv_; subst v_
                    intro v_ hv_; subst v_
                    rintro _ rfl
                    refine r_end ?_
                    refine n_then ?_
                    refine w_condF rfl ?_
                    refine w_skip' ?_
                    refine n_block ?_
                    refine n_then ?_
                    refine w_region ?_
                    refine st (s_move rfl ?_)
                    refine st (s_add rfl rfl (by omega) ?_)
                    refine st (s_assign rfl ?_)
                    refine r_end ?_
                    exact n_round ((k + 1)) ⟨hb130, by omega, fun j j0 j1 => if e : j = k then by rw [e]; unfold Nd.kid; exact kidB_yes (by omega) (by omega) (by omega) else hk2 j j0 (by omega)⟩ (by omega) (by exact ⟨rfl, rfl, rfl, trivial⟩)
            · refine s_pass rfl rfl ?_
              refine s_pass rfl rfl ?_
              refine stg (s_pick rfl rfl ?_)
              refine st (s_pick rfl rfl ?_)
              refine r_end ?_
              refine n_then ?_
              refine w_condF rfl ?_
              refine w_skip' ?_
              refine n_then ?_
              refine w_seq ?_
              by_cases h12 : 1 < (ix l i).lv
              · by_cases h13 : 0 < (sel4 ((ix l i).k0) ((ix l i).k1) ((ix l i).k2) ((ix l i).k3) k)
                · by_cases h14 : i < (sel4 ((ix l i).k0) ((ix l i).k1) ((ix l i).k2) ((ix l i).k3) k)
                  · obtain ⟨b11, o11, _, hat7, ⟨rfl, _⟩, hc11, hF11, hlt11⟩ := (hl.at0 hb2).elem i (by omega) (by omega)
                    have hl_11 := Loc.lt hF11
                    refine w_draw 30 (fun a b => a.grownBy b none) [(some 51, fun v _ => v = va), (some 52, fun v _ => v = .int .i64 i), (some 53, fun v _ => v = .pointer (some ⟨b11, o11, none⟩)), (some 54, fun v _ => v = .pointer (some ⟨b11, o11 + 0, none⟩)), (some 55, fun v _ => v = .int .i64 ((ix l i).lv)), (some 56, fun v _ => v = .bool (decide (1 < (ix l i).lv))), (some 57, fun v _ => v = .bool true), (some 58, fun v _ => v = .int .i64 (sel4 ((ix l i).k0) ((ix l i).k1) ((ix l i).k2) ((ix l i).k3) k)), (some 59, fun v _ => v = .bool (decide (0 < (sel4 ((ix l i).k0) ((ix l i).k1) ((ix l i).k2) ((ix l i).k3) k)))), (some 60, fun v _ => v = .bool (decide (0 < (sel4 ((ix l i).k0) ((ix l i).k1) ((ix l i).k2) ((ix l i).k3) k)))), (some 61, fun v _ => v = .bool true), (some 62, fun v _ => v = .int .i64 (sel4 ((ix l i).k0) ((ix l i).k1) ((ix l i).k2) ((ix l i).k3) k)), (some 63, fun v _ => v = .int .i64 i), (some 64, fun v _ => v = .bool (decide (i < (sel4 ((ix l i).k0) ((ix l i).k1) ((ix l i).k2) ((ix l i).k3) k)))), (some 65, fun v _ => v = .bool true), (some 66, fun v _ => v = undef), (some 67, fun v _ => v = undef), (some 68, fun v _ => v = undef), (some 69, fun v _ => v = undef), (some 70, fun v _ => v = undef), (some 71, fun v _ => v = undef), (some 72, fun v _ => v = undef), (some 73, fun v _ => v = undef), (some 74, fun v _ => v = undef), (some 75, fun v _ => v = undef), (some 76, fun v _ => v = undef), (some 77, fun v _ => v = undef), (some 78, fun v _ => v = undef), (some 79, fun v _ => v = .bool true), (some 80, fun v _ => v = .bool true)] [[], [], [0, 1], [2], [3], [4], [5], [6], [6, 7], [6, 8], [9], [10], [10], [10, 11, 12], [10, 13], [14], [14], [14, 16], [14, 15, 17], [14, 18], [14, 19], [14], [14], [14, 21, 22], [14, 23], [14, 24], [14, 25], [14, 20, 26], [10, 14, 27], [10, 28]] [(0, va), (3, .int .i64 i), (4, .int .i64 k), (5, .int .i64 (sel4 ((ix l i).k0) ((ix l i).k1) ((ix l i).k2) ((ix l i).k3) k))] (by exact ⟨rfl, rfl, rfl, rfl, trivial⟩) (by kernel_rfl) (by kernel_rfl) grown_none_refl (fun _ _ _ => grown_none_trans) ⟨fun _ _ _ h _ => by exact h, fun _ _ _ h _ => by exact h, fun _ _ _ h _ => by exact h, fun _ _ _ h _ => by exact h, fun _ _ _ h _ => by exact h, fun _ _ _ h _ => by exact h, fun _ _ _ h _ => by exact h, fun _ _ _ h _ => by exact h, fun _ _ _ h _ => by exact h, fun _ _ _ h _ => by exact h, fun _ _ _ h _ => by exact h, fun _ _ _ h _ => by exact h, fun _ _ _ h _ => by exact h, fun _ _ _ h _ => by exact h, fun _ _ _ h _ => by exact h, fun _ _ _ h _ => by exact h, fun _ _ _ h _ => by exact h, fun _ _ _ h _ => by exact h, fun _ _ _ h _ => by exact h, fun _ _ _ h _ => by exact h, fun _ _ _ h _ => by exact h, fun _ _ _ h _ => by exact h, fun _ _ _ h _ => by exact h, fun _ _ _ h _ => by exact h, fun _ _ _ h _ => by exact h, fun _ _ _ h _ => by exact h, fun _ _ _ h _ => by exact h, fun _ _ _ h _ => by exact h, fun _ _ _ h _ => by exact h, fun _ _ _ h _ => by exact h, trivial⟩ ?_
                    intro w131 k129 hs5
                    have hb131 := below_g0 hb2 k129
                    refine ⟨⟨?_, ?_, ?_, ?_, ?_, ?_, ?_, ?_, ?_, ?_, ?_, ?_, ?_, ?_, ?_, ?_, ?_, ?_, ?_, ?_, ?_, ?_, ?_, ?_, ?_, ?_, ?_, ?_, ?_, ?_, trivial⟩, ?_⟩
                    · intro w132 k130
                      have hb132 := below_g0 hb131 k130
                      refine op1 (s_move rfl ?_)
                      exact ⟨rfl, grown_none_refl _⟩
                    · intro w133 k131
                      have hb133 := below_g0 hb131 k131
                      refine op1 (s_move rfl ?_)
                      exact ⟨rfl, grown_none_refl _⟩
                    · intro w134 k132
                      have hb134 := below_g0 hb131 k132
                      intro v_ hv_; subst v_
                      rintro _ rfl
                      refine op1 (s_idxat sl22 rfl rfl hat7 ?_)
                      exact ⟨rfl, grown_none_refl _⟩
                    · intro w135 k133
                      have hb135 := below_g0 hb131 k133
                      rintro _ rfl
                      refine op1 (s_faddr fld35_0 rfl ?_)
                      exact ⟨rfl, grown_none_refl _⟩
                    · intro w136 k134
                      have hb136 := below_g0 hb131 k134
                      rintro _ rfl
                      refine op1 (s_load one3 rfl (range_g0 (range_g0 hc11 k129) k134) (j := 0) rfl ?_)
                      exact ⟨rfl, grown_none_refl _⟩
                    · intro w137 k135
                      have hb137 := below_g0 hb131 k135
                      rintro _ rfl
                      refine op1 (s_gt rfl rfl ?_)
                      exact ⟨rfl, grown_none_refl _⟩
                    · intro w138 k136
                      have hb138 := below_g0 hb131 k136
                      rintro _ rfl
                      refine op1 (s_move rfl ?_)
                      exact ⟨(by rw [decide_eq_true h12]), grown_none_refl _⟩
                    · intro w139 k137
                      have hb139 := below_g0 hb131 k137
                      rintro _ rfl
                      refine op1g (s_move rfl ?_)
                      exact ⟨rfl, grown_none_refl _⟩
                    · intro w140 k138
                      have hb140 := below_g0 hb131 k138
                      rintro _ rfl
                      rintro _ rfl
                      refine op1g (s_gt rfl rfl ?_)
                      exact ⟨rfl, grown_none_refl _⟩
                    · intro w141 k139
                      have hb141 := below_g0 hb131 k139
                      rintro _ rfl
                      rintro _ rfl
                      refine op1 (s_pick rfl rfl ?_)
                      exact ⟨rfl, grown_none_refl _⟩
                    · intro w142 k140
                      have hb142 := below_g0 hb131 k140
                      rintro _ rfl
                      refine op1 (s_move rfl ?_)
                      exact ⟨(by rw [decide_eq_true h13]), grown_none_refl _⟩
                    · intro w143 k141
                      have hb143 := below_g0 hb131 k141
                      rintro _ rfl
                      refine op1g (s_move rfl ?_)
                      exact ⟨rfl, grown_none_refl _⟩
                    · intro w144 k142
                      have hb144 := below_g0 hb131 k142
                      rintro _ rfl
                      refine op1g (s_move rfl ?_)
                      exact ⟨rfl, grown_none_refl _⟩
                    · intro w145 k143
                      have hb145 := below_g0 hb131 k143
                      rintro _ rfl
                      rintro _ rfl
                      rintro _ rfl
                      refine op1g (s_gt rfl rfl ?_)
                      exact ⟨rfl, grown_none_refl _⟩
                    · intro w146 k144
                      have hb146 := below_g0 hb131 k144
                      rintro _ rfl
                      rintro _ rfl
                      refine op1g (s_move rfl ?_)
                      exact ⟨(by rw [decide_eq_true h14]), grown_none_refl _⟩
                    · intro w147 k145
                      have hb147 := below_g0 hb131 k145
                      rintro _ rfl
                      refine op1p ⟨rfl, grown_none_refl _⟩
                    · intro w148 k146
                      have hb148 := below_g0 hb131 k146
                      rintro _ rfl
                      refine op1p ⟨rfl, grown_none_refl _⟩
                    · intro w149 k147
                      have hb149 := below_g0 hb131 k147
                      rintro _ rfl
                      intro v_ hv_; subst v_
                      refine op1p ⟨rfl, grown_none_refl _⟩
                    · intro w150 k148
                      have hb150 := below_g0 hb131 k148
                      rintro _ rfl
                      intro v_ hv_; subst v_
                      intro v_ hv_; subst v_
                      refine op1p ⟨rfl, grown_none_refl _⟩
                    · intro w151 k149
                      have hb151 := below_g0 hb131 k149
                      rintro _ rfl
                      intro v_ hv_; subst v_
                      refine op1p ⟨rfl, grown_none_refl _⟩
                    · intro w152 k150
                      have hb152 := below_g0 hb131 k150
                      rintro _ rfl
                      intro v_ hv_; subst v_
                      refine op1p ⟨rfl, grown_none_refl _⟩
                    · intro w153 k151
                      have hb153 := below_g0 hb131 k151
                      rintro _ rfl
                      refine op1p ⟨rfl, grown_none_refl _⟩
                    · intro w154 k152
                      have hb154 := below_g0 hb131 k152
                      rintro _ rfl
                      refine op1p ⟨rfl, grown_none_refl _⟩
                    · intro w155 k153
                      have hb155 := below_g0 hb131 k153
                      rintro _ rfl
                      intro v_ hv_; subst v_
                      intro v_ hv_; subst v_
                      refine op1p ⟨rfl, grown_none_refl _⟩
                    · intro w156 k154
                      have hb156 := below_g0 hb131 k154
                      rintro _ rfl
                      intro v_ hv_; subst v_
                      refine op1p ⟨rfl, grown_none_refl _⟩
                    · intro w157 k155
                      have hb157 := below_g0 hb131 k155
                      rintro _ rfl
                      intro v_ hv_; subst v_
                      refine op1p ⟨rfl, grown_none_refl _⟩
                    · intro w158 k156
                      have hb158 := below_g0 hb131 k156
                      rintro _ rfl
                      intro v_ hv_; subst v_
                      refine op1p ⟨rfl, grown_none_refl _⟩
                    · intro w159 k157
                      have hb159 := below_g0 hb131 k157
                      rintro _ rfl
                      intro v_ hv_; subst v_
                      intro v_ hv_; subst v_
                      refine op1p ⟨rfl, grown_none_refl _⟩
                    · intro w160 k158
                      have hb160 := below_g0 hb131 k158
                      rintro _ rfl
                      rintro _ rfl
                      intro v_ hv_; subst v_
                      refine op1g (s_pick rfl rfl ?_)
                      exact ⟨rfl, grown_none_refl _⟩
                    · intro w161 k159
                      have hb161 := below_g0 hb131 k159
                      rintro _ rfl
                      rintro _ rfl
                      refine op1 (s_pick rfl rfl ?_)
                      exact ⟨rfl, grown_none_refl _⟩
                    · intro w162 k160
                      have hb162 := below_g0 hb131 k160
                      intro v_ hv_; subst v_
                      rintro _ rfl
                      rintro _ rfl
                      rintro _ rfl
                      rintro _ rfl
                      rintro _ rfl
                      rintro _ rfl
                      rintro _ rfl
                      rintro _ rfl
                      rintro _ rfl
                      rintro _ rfl
                      rintro _ rfl
                      rintro _ rfl
                      rintro _ rfl
                      rintro _ rfl
                      intro v_ hv_; subst v_
                      intro v_ hv_; subst v_
                      intro v_ hv_; subst v_
                      intro v_ hv_; subst v_
                      intro v_ hv_; subst v_
                      intro v_ hv_; subst v_
                      intro v_ hv_; subst v_
                      intro v_ hv_; subst v_
                      intro v_ hv_; subst v_
                      intro v_ hv_; subst v_
                      intro v_ hv_; subst v_
                      intro v_ hv_; subst v_
                      intro v_ hv_; subst v_
                      rintro _ rfl
                      rintro _ rfl
                      refine r_end ?_
                      refine n_then ?_
                      refine w_condT rfl ?_
                      refine w_seq ?_
                      refine w_region ?_
                      refine st (s_assign rfl ?_)
                      refine r_end ?_
                      refine n_then ?_
                      refine w_ret1 rfl rfl ?_
                      refine ⟨_, rfl, hb162, ?_⟩
                      rw [loose_no i hi.1 (by omega)]
                      rw [ne_eq, okAt_iff]
                      rintro ⟨e1, e2⟩
                      first | omega | (have e3 := e2 k (by omega) (by omega); unfold Nd.kid at e3; exact kidB_no e3 (by omega))
                  · obtain ⟨b12, o12, _, hat8, ⟨rfl, _⟩, hc12, hF12, hlt12⟩ := (hl.at0 hb2).elem i (by omega) (by omega)
                    have hl_12 := Loc.lt hF12
                    obtain ⟨b13, o13, _, hat9, ⟨rfl, _⟩, hc13, hF13, hlt13⟩ := (hl.at0 hb2).elem ((sel4 ((ix l i).k0) ((ix l i).k1) ((ix l i).k2) ((ix l i).k3) k) - 1) (by omega) (by omega)
                    have hl_13 := Loc.lt hF13
                    obtain ⟨b14, o14, _, hat10, ⟨rfl, _⟩, hc14, hF14, hlt14⟩ := (hl.at0 hb2).elem i (by omega) (by omega)
                    have hl_14 := Loc.lt hF14
                    refine w_draw 30 (fun a b => a.grownBy b none) [(some 51, fun v _ => v = va), (some 52, fun v _ => v = .int .i64 i), (some 53, fun v _ => v = .pointer (some ⟨b12, o12, none⟩)), (some 54, fun v _ => v = .pointer (some ⟨b12, o12 + 0, none⟩)), (some 55, fun v _ => v = .int .i64 ((ix l i).lv)), (some 56, fun v _ => v = .bool (decide (1 < (ix l i).lv))), (some 57, fun v _ => v = .bool true), (some 58, fun v _ => v = .int .i64 (sel4 ((ix l i).k0) ((ix l i).k1) ((ix l i).k2) ((ix l i).k3) k)), (some 59, fun v _ => v = .bool (decide (0 < (sel4 ((ix l i).k0) ((ix l i).k1) ((ix l i).k2) ((ix l i).k3) k)))), (some 60, fun v _ => v = .bool (decide (0 < (sel4 ((ix l i).k0) ((ix l i).k1) ((ix l i).k2) ((ix l i).k3) k)))), (some 61, fun v _ => v = .bool true), (some 62, fun v _ => v = .int .i64 (sel4 ((ix l i).k0) ((ix l i).k1) ((ix l i).k2) ((ix l i).k3) k)), (some 63, fun v _ => v = .int .i64 i), (some 64, fun v _ => v = .bool (decide (i < (sel4 ((ix l i).k0) ((ix l i).k1) ((ix l i).k2) ((ix l i).k3) k)))), (some 65, fun v _ => v = .bool false), (some 66, fun v _ => v = va), (some 67, fun v _ => v = .int .i64 (sel4 ((ix l i).k0) ((ix l i).k1) ((ix l i).k2) ((ix l i).k3) k)), (some 68, fun v _ => v = .int .i64 ((sel4 ((ix l i).k0) ((ix l i).k1) ((ix l i).k2) ((ix l i).k3) k) - 1)), (some 69, fun v _ => v = .pointer (some ⟨b13, o13, none⟩)), (some 70, fun v _ => v = .pointer (some ⟨b13, o13 + 0, none⟩)), (some 71, fun v _ => v = .int .i64 ((ix l ((sel4 ((ix l i).k0) ((ix l i).k1) ((ix l i).k2) ((ix l i).k3) k) - 1)).lv)), (some 72, fun v _ => v = va), (some 73, fun v _ => v = .int .i64 i), (some 74, fun v _ => v = .pointer (some ⟨b14, o14, none⟩)), (some 75, fun v _ => v = .pointer (some ⟨b14, o14 + 0, none⟩)), (some 76, fun v _ => v = .int .i64 ((ix l i).lv)), (some 77, fun v _ => v = .int .i64 ((ix l i).lv - 1)), (some 78, fun v _ => v = .bool (decide ((ix l ((sel4 ((ix l i).k0) ((ix l i).k1) ((ix l i).k2) ((ix l i).k3) k) - 1)).lv ≠ ((ix l i).lv - 1)))), (some 79, fun v _ => v = .bool (decide ((ix l ((sel4 ((ix l i).k0) ((ix l i).k1) ((ix l i).k2) ((ix l i).k3) k) - 1)).lv ≠ ((ix l i).lv - 1)))), (some 80, fun v _ => v = .bool (decide ((ix l ((sel4 ((ix l i).k0) ((ix l i).k1) ((ix l i).k2) ((ix l i).k3) k) - 1)).lv ≠ ((ix l i).lv - 1))))] [[], [], [0, 1], [2], [3], [4], [5], [6], [6, 7], [6, 8], [9], [10], [10], [10, 11, 12], [10, 13], [14], [14], [14, 16], [14, 15, 17], [14, 18], [14, 19], [14], [14], [14, 21, 22], [14, 23], [14, 24], [14, 25], [14, 20, 26], [10, 14, 27], [10, 28]] [(0, va), (3, .int .i64 i), (4, .int .i64 k), (5, .int .i64 (sel4 ((ix l i).k0) ((ix l i).k1) ((ix l i).k2) ((ix l i).k3) k))] (by exact ⟨rfl, rfl, rfl, rfl, trivial⟩) (by kernel_rfl) (by kernel_rfl) grown_none_refl (fun _ _ _ => grown_none_trans) ⟨fun _ _ _ h _ => by exact h, fun _ _ _ h _ => by exact h, fun _ _ _ h _ => by exact h, fun _ _ _ h _ => by exact h, fun _ _ _ h _ => by exact h, fun _ _ _ h _ => by exact h, fun _ _ _ h _ => by exact h, fun _ _ _ h _ => by exact h, fun _ _ _ h _ => by exact h, fun _ _ _ h _ => by exact h, fun _ _ _ h _ => by exact h, fun _ _ _ h _ => by exact h, fun _ _ _ h _ => by exact h, fun _ _ _ h _ => by exact h, fun _ _ _ h _ => by exact h, fun _ _ _ h _ => by exact h, fun _ _ _ h _ => by exact h, fun _ _ _ h _ => by exact h, fun _ _ _ h _ => by exact h, fun _ _ _ h _ => by exact h, fun _ _ _ h _ => by exact h, fun _ _ _ h _ => by exact h, fun _ _ _ h _ => by exact h, fun _ _ _ h _ => by exact h, fun _ _ _ h _ => by exact h, fun _ _ _ h _ => by exact h, fun _ _ _ h _ => by exact h, fun _ _ _ h _ => by exact h, fun _ _ _ h _ => by exact h, fun _ _ _ h _ => by exact h, trivial⟩ ?_
                    intro w163 k161 hs6
                    have hb163 := below_g0 hb2 k161
                    refine ⟨⟨?_, ?_, ?_, ?_, ?_, ?_, ?_, ?_, ?_, ?_, ?_, ?_, ?_, ?_, ?_, ?_, ?_, ?_, ?_, ?_, ?_, ?_, ?_, ?_, ?_, ?_, ?_, ?_, ?_, ?_, trivial⟩, ?_⟩
                    · intro w164 k162
                      have hb164 := below_g0 hb163 k162
                      refine op1 (s_move rfl ?_)
                      exact ⟨rfl, grown_none_refl _⟩
                    · intro w165 k163
                      have hb165 := below_g0 hb163 k163
                      refine op1 (s_move rfl ?_)
                      exact ⟨rfl, grown_none_refl _⟩
                    · intro w166 k164
                      have hb166 := below_g0 hb163 k164
                      intro v_ hv_; subst v_
                      rintro _ rfl
                      refine op1 (s_idxat sl22 rfl rfl hat8 ?_)
                      exact ⟨rfl, grown_none_refl _⟩
                    · intro w167 k165
                      have hb167 := below_g0 hb163 k165
                      rintro _ rfl
                      refine op1 (s_faddr fld35_0 rfl ?_)
                      exact ⟨rfl, grown_none_refl _⟩
                    · intro w168 k166
                      have hb168 := below_g0 hb163 k166
                      rintro _ rfl
                      refine op1 (s_load one3 rfl (range_g0 (range_g0 hc12 k161) k166) (j := 0) rfl ?_)
                      exact ⟨rfl, grown_none_refl _⟩
                    · intro w169 k167
                      have hb169 := below_g0 hb163 k167
                      rintro _ rfl
                      refine op1 (s_gt rfl rfl ?_)
                      exact ⟨rfl, grown_none_refl _⟩
                    · intro w170 k168
                      have hb170 := below_g0 hb163 k168
                      rintro _ rfl
                      refine op1 (s_move rfl ?_)
                      exact ⟨(by rw [decide_eq_true h12]), grown_none_refl _⟩
                    · intro w171 k169
                      have hb171 := below_g0 hb163 k169
                      rintro _ rfl
                      refine op1g (s_move rfl ?_)
                      exact ⟨rfl, grown_none_refl _⟩
                    · intro w172 k170
                      have hb172 := below_g0 hb163 k170
                      rintro _ rfl
                      rintro _ rfl
                      refine op1g (s_gt rfl rfl ?_)
                      exact ⟨rfl, grown_none_refl _⟩
                    · intro w173 k171
                      have hb173 := below_g0 hb163 k171
                      rintro _ rfl
                      rintro _ rfl
                      refine op1 (s_pick rfl rfl ?_)
                      exact ⟨rfl, grown_none_refl _⟩
                    · intro w174 k172
                      have hb174 := below_g0 hb163 k172
                      rintro _ rfl
                      refine op1 (s_move rfl ?_)
                      exact ⟨(by rw [decide_eq_true h13]), grown_none_refl _⟩
                    · intro w175 k173
                      have hb175 := below_g0 hb163 k173
                      rintro _ rfl
                      refine op1g (s_move rfl ?_)
                      exact ⟨rfl, grown_none_refl _⟩
                    · intro w176 k174
                      have hb176 := below_g0 hb163 k174
                      rintro _ rfl
                      refine op1g (s_move rfl ?_)
                      exact ⟨rfl, grown_none_refl _⟩
                    · intro w177 k175
                      have hb177 := below_g0 hb163 k175
                      rintro _ rfl
                      rintro _ rfl
                      rintro _ rfl
                      refine op1g (s_gt rfl rfl ?_)
                      exact ⟨rfl, grown_none_refl _⟩
                    · intro w178 k176
                      have hb178 := below_g0 hb163 k176
                      rintro _ rfl
                      rintro _ rfl
                      refine op1g (s_move rfl ?_)
                      exact ⟨(by rw [decide_eq_false h14]), grown_none_refl _⟩
                    · intro w179 k177
                      have hb179 := below_g0 hb163 k177
                      rintro _ rfl
                      refine op1g (s_move rfl ?_)
                      exact ⟨rfl, grown_none_refl _⟩
                    · intro w180 k178
                      have hb180 := below_g0 hb163 k178
                      rintro _ rfl
                      refine op1g (s_move rfl ?_)
                      exact ⟨rfl, grown_none_refl _⟩
                    · intro w181 k179
                      have hb181 := below_g0 hb163 k179
                      rintro _ rfl
                      rintro _ rfl
                      refine op1g (s_sub rfl rfl (by omega) ?_)
                      exact ⟨rfl, grown_none_refl _⟩
                    · intro w182 k180
                      have hb182 := below_g0 hb163 k180
                      rintro _ rfl
                      intro v_ hv_; subst v_
                      rintro _ rfl
                      refine op1g (s_idxat sl22 rfl rfl hat9 ?_)
                      exact ⟨rfl, grown_none_refl _⟩
                    · intro w183 k181
                      have hb183 := below_g0 hb163 k181
                      rintro _ rfl
                      rintro _ rfl
                      refine op1g (s_faddr fld35_0 rfl ?_)
                      exact ⟨rfl, grown_none_refl _⟩
                    · intro w184 k182
                      have hb184 := below_g0 hb163 k182
                      rintro _ rfl
                      rintro _ rfl
                      refine op1g (s_load one3 rfl (range_g0 (range_g0 hc13 k161) k182) (j := 0) rfl ?_)
                      exact ⟨rfl, grown_none_refl _⟩
                    · intro w185 k183
                      have hb185 := below_g0 hb163 k183
                      rintro _ rfl
                      refine op1g (s_move rfl ?_)
                      exact ⟨rfl, grown_none_refl _⟩
                    · intro w186 k184
                      have hb186 := below_g0 hb163 k184
                      rintro _ rfl
                      refine op1g (s_move rfl ?_)
                      exact ⟨rfl, grown_none_refl _⟩
                    · intro w187 k185
                      have hb187 := below_g0 hb163 k185
                      rintro _ rfl
                      intro v_ hv_; subst v_
                      rintro _ rfl
                      refine op1g (s_idxat sl22 rfl rfl hat10 ?_)
                      exact ⟨rfl, grown_none_refl _⟩
                    · intro w188 k186
                      have hb188 := below_g0 hb163 k186
                      rintro _ rfl
                      rintro _ rfl
                      refine op1g (s_faddr fld35_0 rfl ?_)
                      exact ⟨rfl, grown_none_refl _⟩
                    · intro w189 k187
                      have hb189 := below_g0 hb163 k187
                      rintro _ rfl
                      rintro _ rfl
                      refine op1g (s_load one3 rfl (range_g0 (range_g0 hc14 k161) k187) (j := 0) rfl ?_)
                      exact ⟨rfl, grown_none_refl _⟩
                    · intro w190 k188
                      have hb190 := below_g0 hb163 k188
                      rintro _ rfl
                      rintro _ rfl
                      refine op1g (s_sub rfl rfl (by omega) ?_)
                      exact ⟨rfl, grown_none_refl _⟩
                    · intro w191 k189
                      have hb191 := below_g0 hb163 k189
                      rintro _ rfl
                      rintro _ rfl
                      rintro _ rfl
                      refine op1g (s_ne rfl rfl ?_)
                      exact ⟨rfl, grown_none_refl _⟩
                    · intro w192 k190
                      have hb192 := below_g0 hb163 k190
                      rintro _ rfl
                      rintro _ rfl
                      rintro _ rfl
                      refine op1g (s_pick rfl rfl ?_)
                      exact ⟨rfl, grown_none_refl _⟩
                    · intro w193 k191
                      have hb193 := below_g0 hb163 k191
                      rintro _ rfl
                      rintro _ rfl
                      refine op1 (s_pick rfl rfl ?_)
                      exact ⟨rfl, grown_none_refl _⟩
                    · intro w194 k192
                      have hb194 := below_g0 hb163 k192
                      intro v_ hv_; subst v_
                      rintro _ rfl
                      rintro _ rfl
                      rintro _ rfl
                      rintro _ rfl
                      rintro _ rfl
                      rintro _ rfl
                      rintro _ rfl
                      rintro _ rfl
                      rintro _ rfl
                      rintro _ rfl
                      rintro _ rfl
                      rintro _ rfl
                      rintro _ rfl
                      rintro _ rfl
                      intro v_ hv_; subst v_
                      rintro _ rfl
                      rintro _ rfl
                      rintro _ rfl
                      rintro _ rfl
                      rintro _ rfl
                      intro v_ hv_; subst v_
                      rintro _ rfl
                      rintro _ rfl
                      rintro _ rfl
                      rintro _ rfl
                      rintro _ rfl
                      rintro _ rfl
                      rintro _ rfl
                      rintro _ rfl
                      refine r_end ?_
                      refine n_then ?_
                      refine w_condP rfl (fun h15 => ?_) (fun h15 => ?_)
                      · refine w_seq ?_
                        refine w_region ?_
                        refine st (s_assign rfl ?_)
                        refine r_end ?_
                        refine n_then ?_
                        refine w_ret1 rfl rfl ?_
                        refine ⟨_, rfl, hb194, ?_⟩
                        rw [loose_no i hi.1 (by omega)]
                        rw [ne_eq, okAt_iff]
                        rintro ⟨e1, e2⟩
                        first | omega | (have e3 := e2 k (by omega) (by omega); unfold Nd.kid at e3; exact kidB_no e3 (by omega))
                      · refine w_skip' ?_
                        refine n_block ?_
                        refine n_then ?_
                        refine w_region ?_
                        refine st (s_move rfl ?_)
                        refine st (s_add rfl rfl (by omega) ?_)
                        refine st (s_assign rfl ?_)
                        refine r_end ?_
                        exact n_round ((k + 1)) ⟨hb194, by omega, fun j j0 j1 => if e : j = k then by rw [e]; unfold Nd.kid; exact kidB_yes (by omega) (by omega) (by omega) else hk2 j j0 (by omega)⟩ (by omega) (by exact ⟨rfl, rfl, rfl, trivial⟩)
                · obtain ⟨b15, o15, _, hat11, ⟨rfl, _⟩, hc15, hF15, hlt15⟩ := (hl.at0 hb2).elem i (by omega) (by omega)
                  have hl_15 := Loc.lt hF15
                  refine w_draw 30 (fun a b => a.grownBy b none) [(some 51, fun v _ => v = va), (some 52, fun v _ => v = .int .i64 i), (some 53, fun v _ => v = .pointer (some ⟨b15, o15, none⟩)), (some 54, fun v _ => v = .pointer (some ⟨b15, o15 + 0, none⟩)), (some 55, fun v _ => v = .int .i64 ((ix l i).lv)), (some 56, fun v _ => v = .bool (decide (1 < (ix l i).lv))), (some 57, fun v _ => v = .bool true), (some 58, fun v _ => v = .int .i64 (sel4 ((ix l i).k0) ((ix l i).k1) ((ix l i).k2) ((ix l i).k3) k)), (some 59, fun v _ => v = .bool (decide (0 < (sel4 ((ix l i).k0) ((ix l i).k1) ((ix l i).k2) ((ix l i).k3) k)))), (some 60, fun v _ => v = .bool (decide (0 < (sel4 ((ix l i).k0) ((ix l i).k1) ((ix l i).k2) ((ix l i).k3) k)))), (some 61, fun v _ => v = .bool false), (some 62, fun v _ => v = undef), (some 63, fun v _ => v = undef), (some 64, fun v _ => v = undef), (some 65, fun v _ => v = undef), (some 66, fun v _ => v = undef), (some 67, fun v _ => v = undef), (some 68, fun v _ => v = undef), (some 69, fun v _ => v = undef), (some 70, fun v _ => v = undef), (some 71, fun v _ => v = undef), (some 72, fun v _ => v = undef), (some 73, fun v _ => v = undef), (some 74, fun v _ => v = undef), (some 75, fun v _ => v = undef), (some 76, fun v _ => v = undef), (some 77, fun v _ => v = undef), (some 78, fun v _ => v = undef), (some 79, fun v _ => v = undef), (some 80, fun v _ => v = .bool false)] [[], [], [0, 1], [2], [3], [4], [5], [6], [6, 7], [6, 8], [9], [10], [10], [10, 11, 12], [10, 13], [14], [14], [14, 16], [14, 15, 17], [14, 18], [14, 19], [14], [14], [14, 21, 22], [14, 23], [14, 24], [14, 25], [14, 20, 26], [10, 14, 27], [10, 28]] [(0, va), (3, .int .i64 i), (4, .int .i64 k), (5, .int .i64 (sel4 ((ix l i).k0) ((ix l i).k1) ((ix l i).k2) ((ix l i).k3) k))] (by exact ⟨rfl, rfl, rfl, rfl, trivial⟩) (by kernel_rfl) (by kernel_rfl) grown_none_refl (fun _ _ _ => grown_none_trans) ⟨fun _ _ _ h _ => by exact h, fun _ _ _ h _ => by exact h, fun _ _ _ h _ => by exact h, fun _ _ _ h _ => by exact h, fun _ _ _ h _ => by exact h, fun _ _ _ h _ => by exact h, fun _ _ _ h _ => by exact h, fun _ _ _ h _ => by exact h, fun _ _ _ h _ => by exact h, fun _ _ _ h _ => by exact h, fun _ _ _ h _ => by exact h, fun _ _ _ h _ => by exact h, fun _ _ _ h _ => by exact h, fun _ _ _ h _ => by exact h, fun _ _ _ h _ => by exact h, fun _ _ _ h _ => by exact h, fun _ _ _ h _ => by exact h, fun _ _ _ h _ => by exact h, fun _ _ _ h _ => by exact h, fun _ _ _ h _ => by exact h, fun _ _ _ h _ => by exact h, fun _ _ _ h _ => by exact h, fun _ _ _ h _ => by exact h, fun _ _ _ h _ => by exact h, fun _ _ _ h _ => by exact h, fun _ _ _ h _ => by exact h, fun _ _ _ h _ => by exact h, fun _ _ _ h _ => by exact h, fun _ _ _ h _ => by exact h, fun _ _ _ h _ => by exact h, trivial⟩ ?_
                  intro w195 k193 hs7
                  have hb195 := below_g0 hb2 k193
                  refine ⟨⟨?_, ?_, ?_, ?_, ?_, ?_, ?_, ?_, ?_, ?_, ?_, ?_, ?_, ?_, ?_, ?_, ?_, ?_, ?_, ?_, ?_, ?_, ?_, ?_, ?_, ?_, ?_, ?_, ?_, ?_, trivial⟩, ?_⟩
                  · intro w196 k194
                    have hb196 := below_g0 hb195 k194
                    refine op1 (s_move rfl ?_)
                    exact ⟨rfl, grown_none_refl _⟩
                  · intro w197 k195
                    have hb197 := below_g0 hb195 k195
                    refine op1 (s_move rfl ?_)
                    exact ⟨rfl, grown_none_refl _⟩
                  · intro w198 k196
                    have hb198 := below_g0 hb195 k196
                    intro v_ hv_; subst v_
                    rintro _ rfl
                    refine op1 (s_idxat sl22 rfl rfl hat11 ?_)
                    exact ⟨rfl, grown_none_refl _⟩
                  · intro w199 k197
                    have hb199 := below_g0 hb195 k197
                    rintro _ rfl
                    refine op1 (s_faddr fld35_0 rfl ?_)
                    exact ⟨rfl, grown_none_refl _⟩
                  · intro w200 k198
                    have hb200 := below_g0 hb195 k198
                    rintro _ rfl
                    refine op1 (s_load one3 rfl (range_g0 (range_g0 hc15 k193) k198) (j := 0) rfl ?_)
                    exact ⟨rfl, grown_none_refl _⟩
                  · intro w201 k199
                    have hb201 := below_g0 hb195 k199
                    rintro _ rfl
                    refine op1 (s_gt rfl rfl ?_)
                    exact ⟨rfl, grown_none_refl _⟩
                  · intro w202 k200
                    have hb202 := below_g0 hb195 k200
                    rintro _ rfl
                    refine op1 (s_move rfl ?_)
                    exact ⟨(by rw [decide_eq_true h12]), grown_none_refl _⟩
                  · intro w203 k201
                    have hb203 := below_g0 hb195 k201
                    rintro _ rfl
                    refine op1g (s_move rfl ?_)
                    exact ⟨rfl, grown_none_refl _⟩
                  · intro w204 k202
                    have hb204 := below_g0 hb195 k202
                    rintro _ rfl
                    rintro _ rfl
                    refine op1g (s_gt rfl rfl ?_)
                    exact ⟨rfl, grown_none_refl _⟩
                  · intro w205 k203
                    have hb205 := below_g0 hb195 k203
                    rintro _ rfl
                    rintro _ rfl
                    refine op1 (s_pick rfl rfl ?_)
                    exact ⟨rfl, grown_none_refl _⟩
                  · intro w206 k204
                    have hb206 := below_g0 hb195 k204
                    rintro _ rfl
                    refine op1 (s_move rfl ?_)
                    exact ⟨(by rw [decide_eq_false h13]), grown_none_refl _⟩
                  · intro w207 k205
                    have hb207 := below_g0 hb195 k205
                    rintro _ rfl
                    refine op1p ⟨rfl, grown_none_refl _⟩
                  · intro w208 k206
                    have hb208 := below_g0 hb195 k206
                    rintro _ rfl
                    refine op1p ⟨rfl, grown_none_refl _⟩
                  · intro w209 k207
                    have hb209 := below_g0 hb195 k207
                    rintro _ rfl
                    intro v_ hv_; subst v_
                    intro v_ hv_; subst v_
                    refine op1p ⟨rfl, grown_none_refl _⟩
                  · intro w210 k208
                    have hb210 := below_g0 hb195 k208
                    rintro _ rfl
                    intro v_ hv_; subst v_
                    refine op1p ⟨rfl, grown_none_refl _⟩
                  · intro w211 k209
                    have hb211 := below_g0 hb195 k209
                    intro v_ hv_; subst v_
                    refine op1u ⟨rfl, grown_none_refl _⟩
                  · intro w212 k210
                    have hb212 := below_g0 hb195 k210
                    intro v_ hv_; subst v_
                    refine op1u ⟨rfl, grown_none_refl _⟩
                  · intro w213 k211
                    have hb213 := below_g0 hb195 k211
                    intro v_ hv_; subst v_
                    intro v_ hv_; subst v_
                    refine op1u ⟨rfl, grown_none_refl _⟩
                  · intro w214 k212
                    have hb214 := below_g0 hb195 k212
                    intro v_ hv_; subst v_
                    intro v_ hv_; subst v_
                    intro v_ hv_; subst v_
                    refine op1u ⟨rfl, grown_none_refl _⟩
                  · intro w215 k213
                    have hb215 := below_g0 hb195 k213
                    intro v_ hv_; subst v_
                    intro v_ hv_; subst v_
                    refine op1u ⟨rfl, grown_none_refl _⟩
                  · intro w216 k214
                    have hb216 := below_g0 hb195 k214
                    intro v_ hv_; subst v_
                    intro v_ hv_; subst v_
                    refine op1u ⟨rfl, grown_none_refl _⟩
                  · intro w217 k215
                    have hb217 := below_g0 hb195 k215
                    intro v_ hv_; subst v_
                    refine op1u ⟨rfl, grown_none_refl _⟩
                  · intro w218 k216
                    have hb218 := below_g0 hb195 k216
                    intro v_ hv_; subst v_
                    refine op1u ⟨rfl, grown_none_refl _⟩
                  · intro w219 k217
                    have hb219 := below_g0 hb195 k217
                    intro v_ hv_; subst v_
                    intro v_ hv_; subst v_
                    intro v_ hv_; subst v_
                    refine op1u ⟨rfl, grown_none_refl _⟩
                  · intro w220 k218
                    have hb220 := below_g0 hb195 k218
                    intro v_ hv_; subst v_
                    intro v_ hv_; subst v_
                    refine op1u ⟨rfl, grown_none_refl _⟩
                  · intro w221 k219
                    have hb221 := below_g0 hb195 k219
                    intro v_ hv_; subst v_
                    intro v_ hv_; subst v_
                    refine op1u ⟨rfl, grown_none_refl _⟩
                  · intro w222 k220
                    have hb222 := below_g0 hb195 k220
                    intro v_ hv_; subst v_
                    intro v_ hv_; subst v_
                    refine op1u ⟨rfl, grown_none_refl _⟩
                  · intro w223 k221
                    have hb223 := below_g0 hb195 k221
                    intro v_ hv_; subst v_
                    intro v_ hv_; subst v_
                    intro v_ hv_; subst v_
                    refine op1u ⟨rfl, grown_none_refl _⟩
                  · intro w224 k222
                    have hb224 := below_g0 hb195 k222
                    rintro _ rfl
                    intro v_ hv_; subst v_
                    intro v_ hv_; subst v_
                    refine op1p ⟨rfl, grown_none_refl _⟩
                  · intro w225 k223
                    have hb225 := below_g0 hb195 k223
                    rintro _ rfl
                    intro v_ hv_; subst v_
                    refine op1 (s_pick rfl rfl ?_)
                    exact ⟨rfl, grown_none_refl _⟩
                  · intro w226 k224
                    have hb226 := below_g0 hb195 k224
                    intro v_ hv_; subst v_
                    rintro _ rfl
                    rintro _ rfl
                    rintro _ rfl
                    rintro _ rfl
                    rintro _ rfl
                    rintro _ rfl
                    rintro _ rfl
                    rintro _ rfl
                    rintro _ rfl
                    rintro _ rfl
                    intro v_ hv_; subst v_
                    intro v_ hv_; subst v_
                    intro v_ hv_; subst v_
                    intro v_ hv_; subst v_
                    intro v_ hv_; subst v_
                    intro v_ hv_; subst v_
                    intro v_ hv_; subst v_
                    intro v_ hv_; subst v_
                    intro v_ hv_; subst v_
                    intro v_ hv_; subst v_
                    intro v_ hv_; subst v_
                    intro v_ hv_; subst v_
                    intro v_ hv_; subst v_
                    intro v_ hv_; subst v_
                    intro v_ hv_; subst v_
                    intro v_ hv_; subst v_
                    intro v_ hv_; subst v_
                    intro v_ hv_; subst v_
                    rintro _ rfl
                    refine r_end ?_
                    refine n_then ?_
                    refine w_condF rfl ?_
                    refine w_skip' ?_
                    refine n_block ?_
                    refine n_then ?_
                    refine w_region ?_
                    refine st (s_move rfl ?_)
                    refine st (s_add rfl rfl (by omega) ?_)
                    refine st (s_assign rfl ?_)
                    refine r_end ?_
                    exact n_round ((k + 1)) ⟨hb226, by omega, fun j j0 j1 => if e : j = k then by rw [e]; unfold Nd.kid; exact kidB_yes (by omega) (by omega) (by omega) else hk2 j j0 (by omega)⟩ (by omega) (by exact ⟨rfl, rfl, rfl, trivial⟩)
              · obtain ⟨b16, o16, _, hat12, ⟨rfl, _⟩, hc16, hF16, hlt16⟩ := (hl.at0 hb2).elem i (by omega) (by omega)
                have hl_16 := Loc.lt hF16
                refine w_draw 30 (fun a b => a.grownBy b none) [(some 51, fun v _ => v = va), (some 52, fun v _ => v = .int .i64 i), (some 53, fun v _ => v = .pointer (some ⟨b16, o16, none⟩)), (some 54, fun v _ => v = .pointer (some ⟨b16, o16 + 0, none⟩)), (some 55, fun v _ => v = .int .i64 ((ix l i).lv)), (some 56, fun v _ => v = .bool (decide (1 < (ix l i).lv))), (some 57, fun v _ => v = .bool false), (some 58, fun v _ => v = undef), (some 59, fun v _ => v = undef), (some 60, fun v _ => v = .bool false), (some 61, fun v _ => v = .bool false), (some 62, fun v _ => v = undef), (some 63, fun v _ => v = undef), (some 64, fun v _ => v = undef), (some 65, fun v _ => v = undef), (some 66, fun v _ => v = undef), (some 67, fun v _ => v = undef), (some 68, fun v _ => v = undef), (some 69, fun v _ => v = undef), (some 70, fun v _ => v = undef), (some 71, fun v _ => v = undef), (some 72, fun v _ => v = undef), (some 73, fun v _ => v = undef), (some 74, fun v _ => v = undef), (some 75, fun v _ => v = undef), (some 76, fun v _ => v = undef), (some 77, fun v _ => v = undef), (some 78, fun v _ => v = undef), (some 79, fun v _ => v = undef), (some 80, fun v _ => v = .bool false)] [[], [], [0, 1], [2], [3], [4], [5], [6], [6, 7], [6, 8], [9], [10], [10], [10, 11, 12], [10, 13], [14], [14], [14, 16], [14, 15, 17], [14, 18], [14, 19], [14], [14], [14, 21, 22], [14, 23], [14, 24], [14, 25], [14, 20, 26], [10, 14, 27], [10, 28]] [(0, va), (3, .int .i64 i), (4, .int .i64 k), (5, .int .i64 (sel4 ((ix l i).k0) ((ix l i).k1) ((ix l i).k2) ((ix l i).k3) k))] (by exact ⟨rfl, rfl, rfl, rfl, trivial⟩) (by kernel_rfl) (by kernel_rfl) grown_none_refl (fun _ _ _ => grown_none_trans) ⟨fun _ _ _ h _ => by exact h, fun _ _ _ h _ => by exact h, fun _ _ _ h _ => by exact h, fun _ _ _ h _ => by exact h, fun _ _ _ h _ => by exact h, fun _ _ _ h _ => by exact h, fun _ _ _ h _ => by exact h, fun _ _ _ h _ => by exact h, fun _ _ _ h _ => by exact h, fun _ _ _ h _ => by exact h, fun _ _ _ h _ => by exact h, fun _ _ _ h _ => by exact h, fun _ _ _ h _ => by exact h, fun _ _ _ h _ => by exact h, fun _ _ _ h _ => by exact h, fun _ _ _ h _ => by exact h, fun _ _ _ h _ => by exact h, fun _ _ _ h _ => by exact h, fun _ _ _ h _ => by exact h, fun _ _ _ h _ => by exact h, fun _ _ _ h _ => by exact h, fun _ _ _ h _ => by exact h, fun _ _ _ h _ => by exact h, fun _ _ _ h _ => by exact h, fun _ _ _ h _ => by exact h, fun _ _ _ h _ => by exact h, fun _ _ _ h _ => by exact h, fun _ _ _ h _ => by exact h, fun _ _ _ h _ => by exact h, fun _ _ _ h _ => by exact h, trivial⟩ ?_
                intro w227 k225 hs8
                have hb227 := below_g0 hb2 k225
                refine ⟨⟨?_, ?_, ?_, ?_, ?_, ?_, ?_, ?_, ?_, ?_, ?_, ?_, ?_, ?_, ?_, ?_, ?_, ?_, ?_, ?_, ?_, ?_, ?_, ?_, ?_, ?_, ?_, ?_, ?_, ?_, trivial⟩, ?_⟩
                · intro w228 k226
                  have hb228 := below_g0 hb227 k226
                  refine op1 (s_move rfl ?_)
                  exact ⟨rfl, grown_none_refl _⟩
                · intro w229 k227
                  have hb229 := below_g0 hb227 k227
                  refine op1 (s_move rfl ?_)
                  exact ⟨rfl, grown_none_refl _⟩
                · intro w230 k228
                  have hb230 := below_g0 hb227 k228
                  intro v_ hv_; subst v_
                  rintro _ rfl
                  refine op1 (s_idxat sl22 rfl rfl hat12 ?_)
                  exact ⟨rfl, grown_none_refl _⟩
                · intro w231 k229
                  have hb231 := below_g0 hb227 k229
                  rintro _ rfl
                  refine op1 (s_faddr fld35_0 rfl ?_)
                  exact ⟨rfl, grown_none_refl _⟩
                · intro w232 k230
                  have hb232 := below_g0 hb227 k230
                  rintro _ rfl
                  refine op1 (s_load one3 rfl (range_g0 (range_g0 hc16 k225) k230) (j := 0) rfl ?_)
                  exact ⟨rfl, grown_none_refl _⟩
                · intro w233 k231
                  have hb233 := below_g0 hb227 k231
                  rintro _ rfl
                  refine op1 (s_gt rfl rfl ?_)
                  exact ⟨rfl, grown_none_refl _⟩
                · intro w234 k232
                  have hb234 := below_g0 hb227 k232
                  rintro _ rfl
                  refine op1 (s_move rfl ?_)
                  exact ⟨(by rw [decide_eq_false h12]), grown_none_refl _⟩
                · intro w235 k233
                  have hb235 := below_g0 hb227 k233
                  rintro _ rfl
                  refine op1p ⟨rfl, grown_none_refl _⟩
                · intro w236 k234
                  have hb236 := below_g0 hb227 k234
                  rintro _ rfl
                  intro v_ hv_; subst v_
                  refine op1p ⟨rfl, grown_none_refl _⟩
                · intro w237 k235
                  have hb237 := below_g0 hb227 k235
                  rintro _ rfl
                  intro v_ hv_; subst v_
                  refine op1 (s_pick rfl rfl ?_)
                  exact ⟨rfl, grown_none_refl _⟩
                · intro w238 k236
                  have hb238 := below_g0 hb227 k236
                  rintro _ rfl
                  refine op1 (s_move rfl ?_)
                  exact ⟨rfl, grown_none_refl _⟩
                · intro w239 k237
                  have hb239 := below_g0 hb227 k237
                  rintro _ rfl
                  refine op1p ⟨rfl, grown_none_refl _⟩
                · intro w240 k238
                  have hb240 := below_g0 hb227 k238
                  rintro _ rfl
                  refine op1p ⟨rfl, grown_none_refl _⟩
                · intro w241 k239
                  have hb241 := below_g0 hb227 k239
                  rintro _ rfl
                  intro v_ hv_; subst v_
                  intro v_ hv_; subst v_
                  refine op1p ⟨rfl, grown_none_refl _⟩
                · intro w242 k240
                  have hb242 := below_g0 hb227 k240
                  rintro _ rfl
                  intro v_ hv_; subst v_
                  refine op1p ⟨rfl, grown_none_refl _⟩
                · intro w243 k241
                  have hb243 := below_g0 hb227 k241
                  intro v_ hv_; subst v_
                  refine op1u ⟨rfl, grown_none_refl _⟩
                · intro w244 k242
                  have hb244 := below_g0 hb227 k242
                  intro v_ hv_; subst v_
                  refine op1u ⟨rfl, grown_none_refl _⟩
                · intro w245 k243
                  have hb245 := below_g0 hb227 k243
                  intro v_ hv_; subst v_
                  intro v_ hv_; subst v_
                  refine op1u ⟨rfl, grown_none_refl _⟩
                · intro w246 k244
                  have hb246 := below_g0 hb227 k244
                  intro v_ hv_; subst v_
                  intro v_ hv_; subst v_
                  intro v_ hv_; subst v_
                  refine op1u ⟨rfl, grown_none_refl _⟩
                · intro w247 k245
                  have hb247 := below_g0 hb227 k245
                  intro v_ hv_; subst v_
                  intro v_ hv_; subst v_
                  refine op1u ⟨rfl, grown_none_refl _⟩
                · intro w248 k246
                  have hb248 := below_g0 hb227 k246
                  intro v_ hv_; subst v_
                  intro v_ hv_; subst v_
                  refine op1u ⟨rfl, grown_none_refl _⟩
                · intro w249 k247
                  have hb249 := below_g0 hb227 k247
                  intro v_ hv_; subst v_
                  refine op1u ⟨rfl, grown_none_refl _⟩
                · intro w250 k248
                  have hb250 := below_g0 hb227 k248
                  intro v_ hv_; subst v_
                  refine op1u ⟨rfl, grown_none_refl _⟩
                · intro w251 k249
                  have hb251 := below_g0 hb227 k249
                  intro v_ hv_; subst v_
                  intro v_ hv_; subst v_
                  intro v_ hv_; subst v_
                  refine op1u ⟨rfl, grown_none_refl _⟩
                · intro w252 k250
                  have hb252 := below_g0 hb227 k250
                  intro v_ hv_; subst v_
                  intro v_ hv_; subst v_
                  refine op1u ⟨rfl, grown_none_refl _⟩
                · intro w253 k251
                  have hb253 := below_g0 hb227 k251
                  intro v_ hv_; subst v_
                  intro v_ hv_; subst v_
                  refine op1u ⟨rfl, grown_none_refl _⟩
                · intro w254 k252
                  have hb254 := below_g0 hb227 k252
                  intro v_ hv_; subst v_
                  intro v_ hv_; subst v_
                  refine op1u ⟨rfl, grown_none_refl _⟩
                · intro w255 k253
                  have hb255 := below_g0 hb227 k253
                  intro v_ hv_; subst v_
                  intro v_ hv_; subst v_
                  intro v_ hv_; subst v_
                  refine op1u ⟨rfl, grown_none_refl _⟩
                · intro w256 k254
                  have hb256 := below_g0 hb227 k254
                  rintro _ rfl
                  intro v_ hv_; subst v_
                  intro v_ hv_; subst v_
                  refine op1p ⟨rfl, grown_none_refl _⟩
                · intro w257 k255
                  have hb257 := below_g0 hb227 k255
                  rintro _ rfl
                  intro v_ hv_; subst v_
                  refine op1 (s_pick rfl rfl ?_)
                  exact ⟨rfl, grown_none_refl _⟩
                · intro w258 k256
                  have hb258 := below_g0 hb227 k256
                  intro v_ hv_; subst v_
                  rintro _ rfl
                  rintro _ rfl
                  rintro _ rfl
                  rintro _ rfl
                  rintro _ rfl
                  rintro _ rfl
                  intro v_ hv_; subst v_
                  intro v_ hv_; subst v_
                  rintro _ rfl
                  rintro _ rfl
                  intro v_ hv_; subst v_
                  intro v_ hv_; subst v_
                  intro v_ hv_; subst v_
                  intro v_ hv_; subst v_
                  intro v_ hv_; subst v_
                  intro v_ hv_; subst v_
                  intro v_ hv_; subst v_
                  intro v_ hv_; subst v_
                  intro v_ hv_; subst v_
                  intro v_ hv_; subst v_
                  intro v_ hv_; subst v_
                  intro v_ hv_; subst v_
                  intro v_ hv_; subst v_
                  intro v_ hv_; subst v_
                  intro v_ hv_; subst v_
                  intro v_ hv_; subst v_
                  intro v_ hv_; subst v_
                  intro v_ hv_; subst v_
                  rintro _ rfl
                  refine r_end ?_
                  refine n_then ?_
                  refine w_condF rfl ?_
                  refine w_skip' ?_
                  refine n_block ?_
                  refine n_then ?_
                  refine w_region ?_
                  refine st (s_move rfl ?_)
                  refine st (s_add rfl rfl (by omega) ?_)
                  refine st (s_assign rfl ?_)
                  refine r_end ?_
                  exact n_round ((k + 1)) ⟨hb258, by omega, fun j j0 j1 => if e : j = k then by rw [e]; unfold Nd.kid; exact kidB_yes (by omega) (by omega) (by omega) else hk2 j j0 (by omega)⟩ (by omega) (by exact ⟨rfl, rfl, rfl, trivial⟩)
        · refine w_exit' ?_
          refine n_then_exit ?_
          refine n_then_exit ?_
          refine n_block_exit ?_
          refine n_block ?_
          refine n_then ?_
          refine w_region ?_
          refine st (s_move rfl ?_)
          refine st (s_add rfl rfl (by omega) ?_)
          refine st (s_assign rfl ?_)
          refine r_end ?_
          exact n_round ((i + 1)) ⟨hb2, by omega, fun j j0 j1 => if e : j = i then by rw [e, okAt_iff]; exact ⟨by omega, fun k k0 k1 => hk2 k k0 (by omega)⟩ else ha j j0 (by omega)⟩ (by omega) (by exact ⟨rfl, rfl, trivial⟩)
  · refine w_exit' ?_
    refine n_then_exit ?_
    refine n_then_exit ?_
    refine n_block_exit ?_
    refine n_then ?_
    refine w_seq ?_
    refine w_region ?_
    refine st (s_assign rfl ?_)
    refine r_end ?_
    refine n_then ?_
    refine w_ret1 rfl rfl ?_
    exact ⟨_, rfl, hb1, by rw [(looseB_iff l).2]; intro j j0 j1; exact ha j j0 (by omega)⟩
end Go.Proofs.Ytdeiiagkbbimhaa
