/- Part of the proof that is named in YtdeiiagkbbimhaaNRowCanJust: a library for walks, or a function's walk. -/
import Derived.Test.YtdeiiagkbbimhaaNV
set_option maxRecDepth 20000
set_option linter.unusedSimpArgs false
set_option linter.unusedVariables false
namespace Go.Proofs.Ytdeiiagkbbimhaa
open Go.RowKit Go.Gw
theorem canonOf_any {va : Value} {l : List Nd} {F : Nat → Prop} {w : World} (hl : Sl Kd.node w F va l) {n : Int} :
    Calls Try.prog 6 [va, .int .i64 n].toArray w (Pure w fun v _ => v = .bool true) := by
  have hb0 := Below.refl w.heap.size w
  have hln1 := hl.lenle
  refine enter Try.func6 rfl rfl ?_
  refine w_seq ?_
  refine w_region ?_
  refine st (s_assign rfl ?_)
  refine r_end ?_
  refine n_then ?_
  refine w_seq ?_
  refine w_seq ?_
  refine w_region ?_
  refine st (s_call fn20 rfl (alive6_any) ?_)
  rintro _ w1 ⟨hq1, rfl⟩
  have k1 := grown_of_below hq1 none
  have hb1 := below_g0 hb0 k1
  have hz1 := hb1.size
  refine st (s_not rfl ?_)
  refine r_end ?_
  refine n_then ?_
  refine w_condF rfl ?_
  refine w_skip' ?_
  refine n_then ?_
  refine w_seq ?_
  refine w_seq ?_
  refine w_region ?_
  refine st (s_move rfl ?_)
  refine st (s_len sl22 rfl (hl.at0 hb1) ?_)
  refine st (s_gt rfl rfl ?_)
  refine r_end ?_
  refine n_then ?_
  refine w_condP rfl (fun h1 => ?_) (fun h1 => ?_)
  · refine w_seq ?_
    refine w_region ?_
    refine st (s_assign rfl ?_)
    refine r_end ?_
    refine n_then ?_
    refine w_ret1 rfl rfl ?_
    exact ⟨_, rfl, hb1, rfl⟩
  · have hll : l.length ≤ 1000000 := by omega
    refine w_skip' ?_
    refine n_then ?_
    refine w_seq ?_
    refine w_region ?_
    refine st (s_bslice0 (K := Kd.node) (base := w.heap.size) (F := (fun _ => False)) sl22 (by omega) (fun _ h => h.elim) ?_)
    intro v1 w2 hO1 k2
    have hb2 := below_g0 hb1 k2
    have hz2 := hb2.size
    refine st (s_move rfl ?_)
    refine st (s_append (K := Kd.node) sl22 rfl rfl hO1 ((hl.at0 hb2).weak (fun k hk h => h.elim (fun h => by first | exact h.elim | exact h | exact Or.inl h) (fun h => by have h9 := (hO1.lt k h).1; first | exact Or.inr h9 | (simp [Loc]; omega)))) node_ones (by simp; omega) (by simp; omega) (by first | exact Nat.le_refl _ | omega) (fun _ h => h.elim) ?_)
    intro v2 w3 hO2 k3 hr1
    rw [List.nil_append] at hO2
    have hb3 := hb2.grown k3 hb2.size (fun k_ hk_ => (hO1.lt k_ hk_).1)
    have hz3 := hb3.size
    refine st (s_assign rfl ?_)
    refine r_end ?_
    refine n_then ?_
    refine w_seq ?_
    refine w_region ?_
    refine st (s_move rfl ?_)
    refine st (s_move rfl ?_)
    refine st (s_call fn21 rfl (of_any (n := n) hO2.sl (by first | omega | decide)) ?_)
    rintro _ w4 ⟨hq2, v3, rfl, hS1, hlq1⟩
    have k4 := grown_of_below hq2 none
    have hz4 := hq2.size
    have hS2 := hS1.at0 (Below.refl _ _)
    have hb4 := below_g0 hb3 k4
    have hz5 := hb4.size
    have hO3 := hO2.g0 k4
    refine st (s_move rfl ?_)
    refine st (s_extract rfl rfl ?_)
    refine st (s_extract rfl rfl ?_)
    refine st (s_alloc zero27 ?_)
    intro g1 w5 hg1 hB1 k5 hs1
    have hb5 := below_g0 hb4 k5
    have hO4 := hO3.g0 k5
    refine st0 (s_storeN row27 rfl rfl hB1 (by simp only [List.all_cons, List.all_nil, hS2.one, Bool.and_true, Bool.and_self] <;> rfl) rfl rfl ?_)
    intro w6 hB2 k6 hs2
    have hb6 := below_g hb5 k6 (by omega)
    have hO5 := Own.keptF node_flat hO4 k6 (hO4.ne_blk hB1 (by decide))
    clear hB1
    refine st (s_assign rfl ?_)
    refine r_end ?_
    refine n_then ?_
    refine w_seq ?_
    refine w_region ?_
    refine st (s_move rfl ?_)
    refine st (s_move rfl ?_)
    refine st (s_call fn22 rfl (rof_any (n := n) (hl.at0 hb6) (by first | omega | decide)) ?_)
    rintro _ w7 ⟨hq3, v4, rfl, hS3⟩
    have k7 := grown_of_below hq3 none
    have hz6 := hq3.size
    have hS4 := hS3.at0 (Below.refl _ _)
    have hb7 := below_g0 hb6 k7
    have hz7 := hb7.size
    have hO6 := hO5.g0 k7
    refine st (s_move rfl ?_)
    refine st (s_extract rfl rfl ?_)
    refine st (s_extract rfl rfl ?_)
    refine st (s_alloc zero27 ?_)
    intro g2 w8 hg2 hB3 k8 hs3
    have hb8 := below_g0 hb7 k8
    have hO7 := hO6.g0 k8
    refine st0 (s_storeN row27 rfl rfl hB3 (by simp only [List.all_cons, List.all_nil, hS4.one, Bool.and_true, Bool.and_self] <;> rfl) rfl rfl ?_)
    intro w9 hB4 k9 hs4
    have hb9 := below_g hb8 k9 (by omega)
    have hO8 := Own.keptF node_flat hO7 k9 (hO7.ne_blk hB3 (by decide))
    clear hB3
    refine st (s_assign rfl ?_)
    refine r_end ?_
    refine n_then ?_
    refine w_seq ?_
    refine w_region ?_
    refine st (s_loadW row27 rfl (((hB2.g0 k7).g0 k8).gne k9 (by omega)).range rfl ?_)
    refine st (s_loadW row27 rfl hB4.range rfl ?_)
    refine st (s_call fn23 rfl (rsame_any (((((hS2.g0 k5).g k6 (.inr (by omega))).g0 k7).g0 k8).g k9 (.inr (by omega))).none ((hS4.g0 k8).g k9 (.inr (by omega))).none) ?_)
    rintro _ w10 ⟨hq4, rfl⟩
    have k10 := grown_of_below hq4 none
    have hz8 := hq4.size
    have hb10 := below_g0 hb9 k10
    have hz9 := hb10.size
    have hO9 := hO8.g0 k10
    refine st (s_move rfl ?_)
    refine r_case 33 rfl (fun h2 => ?_) (fun h2 => ?_)
    · refine stg (s_move rfl ?_)
      refine stg (s_move rfl ?_)
      refine stg (s_eq rfl rfl ?_)
      refine st (s_pick rfl rfl ?_)
      refine st (s_move rfl ?_)
      refine r_caseP 38 rfl (fun h3 => ?_) (fun h3 => ?_)
      · refine stg (s_move rfl ?_)
        refine stg (s_move rfl ?_)
        refine stg (s_call fn14 rfl (rnodes_any hO9.sl.none (hl.at0 hb10).none) ?_)
        rintro _ w11 ⟨hq5, rfl⟩
        have k11 := grown_of_below hq5 none
        have hz10 := hq5.size
        have hb11 := below_g0 hb10 k11
        have hz11 := hb11.size
        have hO10 := hO9.g0 k11
        refine st (s_pick rfl rfl ?_)
        refine st (s_move rfl ?_)
        refine r_case 43 rfl (fun h4 => ?_) (fun h4 => ?_)
        · refine stg (s_loadW row27 rfl (((((hB2.g0 k7).g0 k8).gne k9 (by omega)).g0 k10).g0 k11).range rfl ?_)
          refine stg (s_call fn12 rfl (rright_any (((((((hS2.g0 k5).g k6 (.inr (by omega))).g0 k7).g0 k8).g k9 (.inr (by omega))).g0 k10).g0 k11) (by omega)) ?_)
          rintro _ w12 ⟨hq6, rfl⟩
          have k12 := grown_of_below hq6 none
          have hb12 := below_g0 hb11 k12
          have hz12 := hb12.size
          have hO11 := hO10.g0 k12
          refine st (s_pick rfl rfl ?_)
          refine st (s_assign rfl ?_)
          refine r_end ?_
          refine n_then ?_
          refine w_ret1 rfl rfl ?_
          refine ⟨_, rfl, hb12, ?_⟩
          simp [eqv_self, of_right]
        · refine s_pass rfl rfl ?_
          refine s_pass rfl rfl ?_
          refine st (s_pick rfl rfl ?_)
          refine st (s_assign rfl ?_)
          refine r_end ?_
          refine n_then ?_
          refine w_ret1 rfl rfl ?_
          exfalso
          first | exact absurd rfl h4 | exact absurd h4 (by simp [eqv_self, of_right]) | (rw [of_yes hl_ok (by omega) (by omega)] at h4; exact absurd rfl h4) | (rw [hag] at h4; exact absurd rfl h4) | (rw [hne, of_yes hl_ok (by omega) (by omega)] at h4; exact absurd rfl h4) | exact absurd h4 (by simp [hag, hne, eqv_self])
      · refine s_pass rfl rfl ?_
        refine s_pass rfl rfl ?_
        refine s_pass rfl rfl ?_
        refine st (s_pick rfl rfl ?_)
        refine st (s_move rfl ?_)
        refine s_pass rfl rfl ?_
        refine s_pass rfl rfl ?_
        refine st (s_pick rfl rfl ?_)
        refine st (s_assign rfl ?_)
        refine r_end ?_
        refine n_then ?_
        refine w_ret1 rfl rfl ?_
        exfalso
        first | exact absurd rfl h3 | exact absurd h3 (by simp [eqv_self, of_right]) | (rw [of_yes hl_ok (by omega) (by omega)] at h3; exact absurd rfl h3) | (rw [hag] at h3; exact absurd rfl h3) | (rw [hne, of_yes hl_ok (by omega) (by omega)] at h3; exact absurd rfl h3) | exact absurd h3 (by simp [hag, hne, eqv_self])
    · refine s_pass rfl rfl ?_
      refine s_pass rfl rfl ?_
      refine s_pass rfl rfl ?_
      refine st (s_pick rfl rfl ?_)
      refine st (s_move rfl ?_)
      refine s_pass rfl rfl ?_
      refine s_pass rfl rfl ?_
      refine s_pass rfl rfl ?_
      refine st (s_pick rfl rfl ?_)
      refine st (s_move rfl ?_)
      refine s_pass rfl rfl ?_
      refine s_pass rfl rfl ?_
      refine st (s_pick rfl rfl ?_)
      refine st (s_assign rfl ?_)
      refine r_end ?_
      refine n_then ?_
      refine w_ret1 rfl rfl ?_
      exfalso
      first | exact absurd rfl h2 | exact absurd h2 (by simp [eqv_self, of_right]) | (rw [of_yes hl_ok (by omega) (by omega)] at h2; exact absurd rfl h2) | (rw [hag] at h2; exact absurd rfl h2) | (rw [hne, of_yes hl_ok (by omega) (by omega)] at h2; exact absurd rfl h2) | exact absurd h2 (by simp [hag, hne, eqv_self])

theorem canonJust_any {va vb : Value} {l m : List Nd} {F : Nat → Prop} {w : World} {n : Int} (hl : Sl Kd.node w F va l) (hm : Sl Kd.node w F vb m) :
    Calls Try.prog 7 [va, vb, .int .i64 n].toArray w (Pure w fun v _ => v = .bool true) := by
  have hb0 := Below.refl w.heap.size w
  have hln1 := hl.lenle
  have hln2 := hm.lenle
  refine enter Try.func7 rfl rfl ?_
  refine w_seq ?_
  refine w_region ?_
  refine st (s_assign rfl ?_)
  refine r_end ?_
  refine n_then ?_
  refine w_seq ?_
  refine w_seq ?_
  refine w_region ?_
  refine st (s_call fn20 rfl (alive6_any) ?_)
  rintro _ w1 ⟨hq1, rfl⟩
  have k1 := grown_of_below hq1 none
  have hb1 := below_g0 hb0 k1
  have hz1 := hb1.size
  refine st (s_not rfl ?_)
  refine r_end ?_
  refine n_then ?_
  refine w_condF rfl ?_
  refine w_skip' ?_
  refine n_then ?_
  refine w_seq ?_
  refine w_seq ?_
  refine w_region ?_
  refine st (s_move rfl ?_)
  refine st (s_len sl22 rfl (hl.at0 hb1) ?_)
  refine st (s_gt rfl rfl ?_)
  refine st (s_move rfl ?_)
  refine r_caseP 19 rfl (fun h1 => ?_) (fun h1 => ?_)
  · refine s_pass rfl rfl ?_
    refine s_pass rfl rfl ?_
    refine s_pass rfl rfl ?_
    refine st (s_pick rfl rfl ?_)
    refine st (s_move rfl ?_)
    refine s_pass rfl rfl ?_
    refine s_pass rfl rfl ?_
    refine s_pass rfl rfl ?_
    refine st (s_pick rfl rfl ?_)
    refine st (s_move rfl ?_)
    refine s_pass rfl rfl ?_
    refine s_pass rfl rfl ?_
    refine s_pass rfl rfl ?_
    refine st (s_pick rfl rfl ?_)
    refine st (s_move rfl ?_)
    refine s_pass rfl rfl ?_
    refine s_pass rfl rfl ?_
    refine st (s_pick rfl rfl ?_)
    refine st (s_move rfl ?_)
    refine s_pass rfl rfl ?_
    refine s_pass rfl rfl ?_
    refine s_pass rfl rfl ?_
    refine s_pass rfl rfl ?_
    refine st (s_pick rfl rfl ?_)
    refine r_end ?_
    refine n_then ?_
    refine w_condT rfl ?_
    refine w_seq ?_
    refine w_region ?_
    refine st (s_assign rfl ?_)
    refine r_end ?_
    refine n_then ?_
    refine w_ret1 rfl rfl ?_
    exact ⟨_, rfl, hb1, rfl⟩
  · have hll : l.length ≤ 1000000 := by omega
    refine stg (s_move rfl ?_)
    refine stg (s_len sl22 rfl (hm.at0 hb1) ?_)
    refine stg (s_gt rfl rfl ?_)
    refine st (s_pick rfl rfl ?_)
    refine st (s_move rfl ?_)
    refine r_caseP 24 rfl (fun h2 => ?_) (fun h2 => ?_)
    · refine s_pass rfl rfl ?_
      refine s_pass rfl rfl ?_
      refine s_pass rfl rfl ?_
      refine st (s_pick rfl rfl ?_)
      refine st (s_move rfl ?_)
      refine s_pass rfl rfl ?_
      refine s_pass rfl rfl ?_
      refine s_pass rfl rfl ?_
      refine st (s_pick rfl rfl ?_)
      refine st (s_move rfl ?_)
      refine s_pass rfl rfl ?_
      refine s_pass rfl rfl ?_
      refine st (s_pick rfl rfl ?_)
      refine st (s_move rfl ?_)
      refine s_pass rfl rfl ?_
      refine s_pass rfl rfl ?_
      refine s_pass rfl rfl ?_
      refine s_pass rfl rfl ?_
      refine st (s_pick rfl rfl ?_)
      refine r_end ?_
      refine n_then ?_
      refine w_condT rfl ?_
      refine w_seq ?_
      refine w_region ?_
      refine st (s_assign rfl ?_)
      refine r_end ?_
      refine n_then ?_
      refine w_ret1 rfl rfl ?_
      exact ⟨_, rfl, hb1, rfl⟩
    · refine stg (s_move rfl ?_)
      refine stg (s_call fn10 rfl (rloose_any (hl.at0 hb1)) ?_)
      rintro _ w2 ⟨hq2, rfl⟩
      have k2 := grown_of_below hq2 none
      have hz2 := hq2.size
      have hb2 := below_g0 hb1 k2
      have hz3 := hb2.size
      refine stg (s_not rfl ?_)
      refine st (s_pick rfl rfl ?_)
      refine st (s_move rfl ?_)
      refine r_case 29 rfl (fun h3 => ?_) (fun h3 => ?_)
      · refine s_pass rfl rfl ?_
        refine s_pass rfl rfl ?_
        refine s_pass rfl rfl ?_
        refine st (s_pick rfl rfl ?_)
        refine st (s_move rfl ?_)
        refine s_pass rfl rfl ?_
        refine s_pass rfl rfl ?_
        refine st (s_pick rfl rfl ?_)
        refine st (s_move rfl ?_)
        refine s_pass rfl rfl ?_
        refine s_pass rfl rfl ?_
        refine s_pass rfl rfl ?_
        refine s_pass rfl rfl ?_
        refine st (s_pick rfl rfl ?_)
        refine r_end ?_
        refine n_then ?_
        refine w_condT rfl ?_
        refine w_seq ?_
        refine w_region ?_
        refine st (s_assign rfl ?_)
        refine r_end ?_
        refine n_then ?_
        refine w_ret1 rfl rfl ?_
        exact ⟨_, rfl, hb2, rfl⟩
      · have hl_ok : looseB l = true := by simpa using h3
        refine stg (s_move rfl ?_)
        refine stg (s_call fn10 rfl (rloose_any (hm.at0 hb2)) ?_)
        rintro _ w3 ⟨hq3, rfl⟩
        have k3 := grown_of_below hq3 none
        have hz4 := hq3.size
        have hb3 := below_g0 hb2 k3
        have hz5 := hb3.size
        refine stg (s_not rfl ?_)
        refine st (s_pick rfl rfl ?_)
        refine st (s_move rfl ?_)
        refine r_case 34 rfl (fun h4 => ?_) (fun h4 => ?_)
        · refine s_pass rfl rfl ?_
          refine s_pass rfl rfl ?_
          refine st (s_pick rfl rfl ?_)
          refine st (s_move rfl ?_)
          refine s_pass rfl rfl ?_
          refine s_pass rfl rfl ?_
          refine s_pass rfl rfl ?_
          refine s_pass rfl rfl ?_
          refine st (s_pick rfl rfl ?_)
          refine r_end ?_
          refine n_then ?_
          refine w_condT rfl ?_
          refine w_seq ?_
          refine w_region ?_
          refine st (s_assign rfl ?_)
          refine r_end ?_
          refine n_then ?_
          refine w_ret1 rfl rfl ?_
          exact ⟨_, rfl, hb3, rfl⟩
        · have hm_ok : looseB m = true := by simpa using h4
          refine stg (s_move rfl ?_)
          refine stg (s_lt rfl rfl ?_)
          refine st (s_pick rfl rfl ?_)
          refine st (s_move rfl ?_)
          refine r_caseP 38 rfl (fun h5 => ?_) (fun h5 => ?_)
          · refine s_pass rfl rfl ?_
            refine s_pass rfl rfl ?_
            refine s_pass rfl rfl ?_
            refine s_pass rfl rfl ?_
            refine st (s_pick rfl rfl ?_)
            refine r_end ?_
            refine n_then ?_
            refine w_condT rfl ?_
            refine w_seq ?_
            refine w_region ?_
            refine st (s_assign rfl ?_)
            refine r_end ?_
            refine n_then ?_
            refine w_ret1 rfl rfl ?_
            exact ⟨_, rfl, hb3, rfl⟩
          · refine stg (s_move rfl ?_)
            refine stg (s_move rfl ?_)
            refine stg (s_len sl22 rfl (hl.at0 hb3) ?_)
            refine stg (s_gt rfl rfl ?_)
            refine st (s_pick rfl rfl ?_)
            refine r_end ?_
            refine n_then ?_
            refine w_condP rfl (fun h6 => ?_) (fun h6 => ?_)
            · refine w_seq ?_
              refine w_region ?_
              refine st (s_assign rfl ?_)
              refine r_end ?_
              refine n_then ?_
              refine w_ret1 rfl rfl ?_
              exact ⟨_, rfl, hb3, rfl⟩
            · have hag := of_again (n := n) hl_ok (by omega) (by omega)
              have hof := of_yes (n := n) hl_ok (by omega) (by omega)
              have hnl := nest_len m l
              refine w_skip' ?_
              refine n_then ?_
              refine w_seq ?_
              refine w_region ?_
              refine st (s_move rfl ?_)
              refine st (s_move rfl ?_)
              refine st (s_call fn21 rfl (of_any (n := n) (hl.at0 hb3) (by first | omega | decide)) ?_)
              rintro _ w4 ⟨hq4, v1, rfl, hS1, hlq1⟩
              have k4 := grown_of_below hq4 none
              have hz6 := hq4.size
              have hS2 := hS1.at0 (Below.refl _ _)
              have hb4 := below_g0 hb3 k4
              have hz7 := hb4.size
              refine st (s_move rfl ?_)
              refine st (s_extract rfl rfl ?_)
              refine st (s_extract rfl rfl ?_)
              refine st (s_alloc zero27 ?_)
              intro g1 w5 hg1 hB1 k5 hs1
              have hb5 := below_g0 hb4 k5
              refine st0 (s_storeN row27 rfl rfl hB1 (by simp only [List.all_cons, List.all_nil, hS2.one, Bool.and_true, Bool.and_self] <;> rfl) rfl rfl ?_)
              intro w6 hB2 k6 hs2
              have hb6 := below_g hb5 k6 (by omega)
              clear hB1
              refine st (s_assign rfl ?_)
              refine r_end ?_
              refine n_then ?_
              refine w_seq ?_
              refine w_seq ?_
              refine w_region ?_
              refine st (s_move rfl ?_)
              refine st (s_ne rfl rfl ?_)
              refine r_end ?_
              refine n_then ?_
              refine w_condP rfl (fun h7 => ?_) (fun h7 => ?_)
              · refine w_seq ?_
                refine w_region ?_
                refine st (s_assign rfl ?_)
                refine r_end ?_
                refine n_then ?_
                refine w_ret1 rfl rfl ?_
                exfalso
                first | (refine absurd h7 ?_; simp [hag, eqv_self]; done) | (refine absurd h7 ?_; simp [hof, eqv_self]; done) | (rw [hag] at h7; exact absurd rfl h7) | omega
              · refine w_skip' ?_
                refine n_then ?_
                refine w_seq ?_
                refine w_region ?_
                refine st (s_faddr fld27_0 rfl ?_)
                refine st (s_load one22 rfl hB2.range (j := 0) rfl ?_)
                refine st (s_faddr fld27_0 rfl ?_)
                refine st (s_load one22 rfl hB2.range (j := 0) rfl ?_)
                refine st (s_len sl22 rfl ((hS2.g0 k5).g k6 (.inr (by omega))) ?_)
                refine st (s_call fn21 rfl (of_any (n := (((ofL l n).1).length : Int)) ((hS2.g0 k5).g k6 (.inr (by omega))) (by first | omega | decide)) ?_)
                rintro _ w7 ⟨hq5, v2, rfl, hS3, hlq2⟩
                have k7 := grown_of_below hq5 none
                have hz8 := hq5.size
                have hS4 := hS3.at0 (Below.refl _ _)
                have hb7 := below_g0 hb6 k7
                have hz9 := hb7.size
                refine st (s_move rfl ?_)
                refine st (s_extract rfl rfl ?_)
                refine st (s_extract rfl rfl ?_)
                refine st (s_alloc zero27 ?_)
                intro g2 w8 hg2 hB3 k8 hs3
                have hb8 := below_g0 hb7 k8
                refine st0 (s_storeN row27 rfl rfl hB3 (by simp only [List.all_cons, List.all_nil, hS4.one, Bool.and_true, Bool.and_self] <;> rfl) rfl rfl ?_)
                intro w9 hB4 k9 hs4
                have hb9 := below_g hb8 k9 (by omega)
                clear hB3
                refine st (s_assign rfl ?_)
                refine r_end ?_
                refine n_then ?_
                refine w_seq ?_
                refine w_region ?_
                refine st (s_move rfl ?_)
                refine st (s_assign rfl ?_)
                refine r_end ?_
                refine n_then ?_
                refine w_seq ?_
                refine w_seq ?_
                refine w_region ?_
                refine st (s_move rfl ?_)
                refine st (s_gt rfl rfl ?_)
                refine r_end ?_
                refine n_then ?_
                refine w_condP rfl (fun h8 => ?_) (fun h8 => ?_)
                · have hne : ofL (nestL m l) (n + (m.length : Int)) = ofL l n := of_nest hm_ok hl_ok (by omega) (by omega) (by rw [if_pos h8])
                  refine w_region ?_
                  refine st (s_move rfl ?_)
                  refine st (s_move rfl ?_)
                  refine st (s_len sl22 rfl (hm.at0 hb9) ?_)
                  refine st (s_add rfl rfl (by omega) ?_)
                  refine st (s_assign rfl ?_)
                  refine r_end ?_
                  refine n_then ?_
                  refine w_seq ?_
                  refine w_region ?_
                  refine st (s_move rfl ?_)
                  refine st (s_move rfl ?_)
                  refine st (s_call fn24 rfl (nest_any (hm.at0 hb9) (hl.at0 hb9) hl_ok (by omega) (by omega)) ?_)
                  rintro v3 w10 ⟨hq6, hS5⟩
                  have k10 := grown_of_below hq6 none
                  have hz10 := hq6.size
                  have hb10 := below_g0 hb9 k10
                  have hz11 := hb10.size
                  refine st (s_move rfl ?_)
                  refine st (s_call fn21 rfl (of_any (n := (n + (m.length : Int))) hS5 (by first | omega | decide)) ?_)
                  rintro _ w11 ⟨hq7, v4, rfl, hS6, hlq3⟩
                  have k11 := grown_of_below hq7 none
                  have hz12 := hq7.size
                  have hS7 := hS6.at0 (Below.refl _ _)
                  have hb11 := below_g0 hb10 k11
                  have hz13 := hb11.size
                  refine st (s_move rfl ?_)
                  refine st (s_extract rfl rfl ?_)
                  refine st (s_extract rfl rfl ?_)
                  refine st (s_alloc zero27 ?_)
                  intro g3 w12 hg3 hB5 k12 hs5
                  have hb12 := below_g0 hb11 k12
                  refine st0 (s_storeN row27 rfl rfl hB5 (by simp only [List.all_cons, List.all_nil, hS7.one, Bool.and_true, Bool.and_self] <;> rfl) rfl rfl ?_)
                  intro w13 hB6 k13 hs6
                  have hb13 := below_g hb12 k13 (by omega)
                  clear hB5
                  refine st (s_assign rfl ?_)
                  refine r_end ?_
                  refine n_then ?_
                  refine w_seq ?_
                  refine w_region ?_
                  refine st (s_move rfl ?_)
                  refine st (s_eq rfl rfl ?_)
                  refine st (s_move rfl ?_)
                  refine r_caseP 78 rfl (fun h9 => ?_) (fun h9 => ?_)
                  · refine stg (s_move rfl ?_)
                    refine stg (s_eq rfl rfl ?_)
                    refine st (s_pick rfl rfl ?_)
                    refine st (s_move rfl ?_)
                    refine r_caseP 82 rfl (fun h10 => ?_) (fun h10 => ?_)
                    · refine stg (s_loadW row27 rfl ((((hB4.g0 k10).g0 k11).g0 k12).gne k13 (by omega)).range rfl ?_)
                      refine stg (s_loadW row27 rfl (((((((hB2.g0 k7).g0 k8).gne k9 (by omega)).g0 k10).g0 k11).g0 k12).gne k13 (by omega)).range rfl ?_)
                      refine stg (s_call fn23 rfl (rsame_any ((((((hS4.g0 k8).g k9 (.inr (by omega))).g0 k10).g0 k11).g0 k12).g k13 (.inr (by omega))).none (((((((((hS2.g0 k5).g k6 (.inr (by omega))).g0 k7).g0 k8).g k9 (.inr (by omega))).g0 k10).g0 k11).g0 k12).g k13 (.inr (by omega))).none) ?_)
                      rintro _ w14 ⟨hq8, rfl⟩
                      have k14 := grown_of_below hq8 none
                      have hz14 := hq8.size
                      have hb14 := below_g0 hb13 k14
                      have hz15 := hb14.size
                      refine st (s_pick rfl rfl ?_)
                      refine st (s_move rfl ?_)
                      refine r_case 87 rfl (fun h11 => ?_) (fun h11 => ?_)
                      · refine stg (s_loadW row27 rfl (hB6.g0 k14).range rfl ?_)
                        refine stg (s_loadW row27 rfl ((((((((hB2.g0 k7).g0 k8).gne k9 (by omega)).g0 k10).g0 k11).g0 k12).gne k13 (by omega)).g0 k14).range rfl ?_)
                        refine stg (s_call fn23 rfl (rsame_any (((hS7.g0 k12).g k13 (.inr (by omega))).g0 k14).none ((((((((((hS2.g0 k5).g k6 (.inr (by omega))).g0 k7).g0 k8).g k9 (.inr (by omega))).g0 k10).g0 k11).g0 k12).g k13 (.inr (by omega))).g0 k14).none) ?_)
                        rintro _ w15 ⟨hq9, rfl⟩
                        have k15 := grown_of_below hq9 none
                        have hz16 := hq9.size
                        have hb15 := below_g0 hb14 k15
                        have hz17 := hb15.size
                        refine st (s_pick rfl rfl ?_)
                        refine st (s_assign rfl ?_)
                        refine r_end ?_
                        refine n_then ?_
                        refine w_ret1 rfl rfl ?_
                        refine ⟨_, rfl, hb15, ?_⟩
                        simp [hne, hag, eqv_self]
                      · refine s_pass rfl rfl ?_
                        refine s_pass rfl rfl ?_
                        refine s_pass rfl rfl ?_
                        refine st (s_pick rfl rfl ?_)
                        refine st (s_assign rfl ?_)
                        refine r_end ?_
                        refine n_then ?_
                        refine w_ret1 rfl rfl ?_
                        exfalso
                        first | (refine absurd h11 ?_; simp [hne, hag, eqv_self]; done) | (refine absurd h11 ?_; simp [hne, hof, eqv_self]; done) | (rw [hag] at h11; exact absurd rfl h11) | omega
                    · refine s_pass rfl rfl ?_
                      refine s_pass rfl rfl ?_
                      refine s_pass rfl rfl ?_
                      refine st (s_pick rfl rfl ?_)
                      refine st (s_move rfl ?_)
                      refine s_pass rfl rfl ?_
                      refine s_pass rfl rfl ?_
                      refine s_pass rfl rfl ?_
                      refine st (s_pick rfl rfl ?_)
                      refine st (s_assign rfl ?_)
                      refine r_end ?_
                      refine n_then ?_
                      refine w_ret1 rfl rfl ?_
                      exfalso
                      first | (refine absurd h10 ?_; simp [hne, hag, eqv_self]; done) | (refine absurd h10 ?_; simp [hne, hof, eqv_self]; done) | (rw [hag] at h10; exact absurd rfl h10) | omega
                  · refine s_pass rfl rfl ?_
                    refine s_pass rfl rfl ?_
                    refine st (s_pick rfl rfl ?_)
                    refine st (s_move rfl ?_)
                    refine s_pass rfl rfl ?_
                    refine s_pass rfl rfl ?_
                    refine s_pass rfl rfl ?_
                    refine st (s_pick rfl rfl ?_)
                    refine st (s_move rfl ?_)
                    refine s_pass rfl rfl ?_
                    refine s_pass rfl rfl ?_
                    refine s_pass rfl rfl ?_
                    refine st (s_pick rfl rfl ?_)
                    refine st (s_assign rfl ?_)
                    refine r_end ?_
                    refine n_then ?_
                    refine w_ret1 rfl rfl ?_
                    exfalso
                    first | (refine absurd h9 ?_; simp [hne, hag, eqv_self]; done) | (refine absurd h9 ?_; simp [hne, hof, eqv_self]; done) | (rw [hag] at h9; exact absurd rfl h9) | omega
                · have hne : ofL (nestL m l) n = ofL l n := of_nest hm_ok hl_ok (by omega) (by omega) (by rw [if_neg h8])
                  refine w_skip' ?_
                  refine n_then ?_
                  refine w_seq ?_
                  refine w_region ?_
                  refine st (s_move rfl ?_)
                  refine st (s_move rfl ?_)
                  refine st (s_call fn24 rfl (nest_any (hm.at0 hb9) (hl.at0 hb9) hl_ok (by omega) (by omega)) ?_)
                  rintro v5 w16 ⟨hq10, hS8⟩
                  have k16 := grown_of_below hq10 none
                  have hz18 := hq10.size
                  have hb16 := below_g0 hb9 k16
                  have hz19 := hb16.size
                  refine st (s_move rfl ?_)
                  refine st (s_call fn21 rfl (of_any (n := n) hS8 (by first | omega | decide)) ?_)
                  rintro _ w17 ⟨hq11, v6, rfl, hS9, hlq4⟩
                  have k17 := grown_of_below hq11 none
                  have hz20 := hq11.size
                  have hS10 := hS9.at0 (Below.refl _ _)
                  have hb17 := below_g0 hb16 k17
                  have hz21 := hb17.size
                  refine st (s_move rfl ?_)
                  refine st (s_extract rfl rfl ?_)
                  refine st (s_extract rfl rfl ?_)
                  refine st (s_alloc zero27 ?_)
                  intro g4 w18 hg4 hB7 k18 hs7
                  have hb18 := below_g0 hb17 k18
                  refine st0 (s_storeN row27 rfl rfl hB7 (by simp only [List.all_cons, List.all_nil, hS10.one, Bool.and_true, Bool.and_self] <;> rfl) rfl rfl ?_)
                  intro w19 hB8 k19 hs8
                  have hb19 := below_g hb18 k19 (by omega)
                  clear hB7
                  refine st (s_assign rfl ?_)
                  refine r_end ?_
                  refine n_then ?_
                  refine w_seq ?_
                  refine w_region ?_
                  refine st (s_move rfl ?_)
                  refine st (s_eq rfl rfl ?_)
                  refine st (s_move rfl ?_)
                  refine r_caseP 78 rfl (fun h12 => ?_) (fun h12 => ?_)
                  · refine stg (s_move rfl ?_)
                    refine stg (s_eq rfl rfl ?_)
                    refine st (s_pick rfl rfl ?_)
                    refine st (s_move rfl ?_)
                    refine r_caseP 82 rfl (fun h13 => ?_) (fun h13 => ?_)
                    · refine stg (s_loadW row27 rfl ((((hB4.g0 k16).g0 k17).g0 k18).gne k19 (by omega)).range rfl ?_)
                      refine stg (s_loadW row27 rfl (((((((hB2.g0 k7).g0 k8).gne k9 (by omega)).g0 k16).g0 k17).g0 k18).gne k19 (by omega)).range rfl ?_)
                      refine stg (s_call fn23 rfl (rsame_any ((((((hS4.g0 k8).g k9 (.inr (by omega))).g0 k16).g0 k17).g0 k18).g k19 (.inr (by omega))).none (((((((((hS2.g0 k5).g k6 (.inr (by omega))).g0 k7).g0 k8).g k9 (.inr (by omega))).g0 k16).g0 k17).g0 k18).g k19 (.inr (by omega))).none) ?_)
                      rintro _ w20 ⟨hq12, rfl⟩
                      have k20 := grown_of_below hq12 none
                      have hz22 := hq12.size
                      have hb20 := below_g0 hb19 k20
                      have hz23 := hb20.size
                      refine st (s_pick rfl rfl ?_)
                      refine st (s_move rfl ?_)
                      refine r_case 87 rfl (fun h14 => ?_) (fun h14 => ?_)
                      · refine stg (s_loadW row27 rfl (hB8.g0 k20).range rfl ?_)
                        refine stg (s_loadW row27 rfl ((((((((hB2.g0 k7).g0 k8).gne k9 (by omega)).g0 k16).g0 k17).g0 k18).gne k19 (by omega)).g0 k20).range rfl ?_)
                        refine stg (s_call fn23 rfl (rsame_any (((hS10.g0 k18).g k19 (.inr (by omega))).g0 k20).none ((((((((((hS2.g0 k5).g k6 (.inr (by omega))).g0 k7).g0 k8).g k9 (.inr (by omega))).g0 k16).g0 k17).g0 k18).g k19 (.inr (by omega))).g0 k20).none) ?_)
                        rintro _ w21 ⟨hq13, rfl⟩
                        have k21 := grown_of_below hq13 none
                        have hz24 := hq13.size
                        have hb21 := below_g0 hb20 k21
                        have hz25 := hb21.size
                        refine st (s_pick rfl rfl ?_)
                        refine st (s_assign rfl ?_)
                        refine r_end ?_
                        refine n_then ?_
                        refine w_ret1 rfl rfl ?_
                        refine ⟨_, rfl, hb21, ?_⟩
                        simp [hne, hag, eqv_self]
                      · refine s_pass rfl rfl ?_
                        refine s_pass rfl rfl ?_
                        refine s_pass rfl rfl ?_
                        refine st (s_pick rfl rfl ?_)
                        refine st (s_assign rfl ?_)
                        refine r_end ?_
                        refine n_then ?_
                        refine w_ret1 rfl rfl ?_
                        exfalso
                        first | (refine absurd h14 ?_; simp [hne, hag, eqv_self]; done) | (refine absurd h14 ?_; simp [hne, hof, eqv_self]; done) | (rw [hag] at h14; exact absurd rfl h14) | omega
                    · refine s_pass rfl rfl ?_
                      refine s_pass rfl rfl ?_
                      refine s_pass rfl rfl ?_
                      refine st (s_pick rfl rfl ?_)
                      refine st (s_move rfl ?_)
                      refine s_pass rfl rfl ?_
                      refine s_pass rfl rfl ?_
                      refine s_pass rfl rfl ?_
                      refine st (s_pick rfl rfl ?_)
                      refine st (s_assign rfl ?_)
                      refine r_end ?_
                      refine n_then ?_
                      refine w_ret1 rfl rfl ?_
                      exfalso
                      first | (refine absurd h13 ?_; simp [hne, hag, eqv_self]; done) | (refine absurd h13 ?_; simp [hne, hof, eqv_self]; done) | (rw [hag] at h13; exact absurd rfl h13) | omega
                  · refine s_pass rfl rfl ?_
                    refine s_pass rfl rfl ?_
                    refine st (s_pick rfl rfl ?_)
                    refine st (s_move rfl ?_)
                    refine s_pass rfl rfl ?_
                    refine s_pass rfl rfl ?_
                    refine s_pass rfl rfl ?_
                    refine st (s_pick rfl rfl ?_)
                    refine st (s_move rfl ?_)
                    refine s_pass rfl rfl ?_
                    refine s_pass rfl rfl ?_
                    refine s_pass rfl rfl ?_
                    refine st (s_pick rfl rfl ?_)
                    refine st (s_assign rfl ?_)
                    refine r_end ?_
                    refine n_then ?_
                    refine w_ret1 rfl rfl ?_
                    exfalso
                    first | (refine absurd h12 ?_; simp [hne, hag, eqv_self]; done) | (refine absurd h12 ?_; simp [hne, hof, eqv_self]; done) | (rw [hag] at h12; exact absurd rfl h12) | omega
end Go.Proofs.Ytdeiiagkbbimhaa
