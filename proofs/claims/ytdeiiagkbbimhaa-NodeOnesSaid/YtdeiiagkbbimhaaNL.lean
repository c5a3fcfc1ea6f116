/- Part of the proof that is named in YtdeiiagkbbimhaaNRowOnes: a library for walks, or a function's walk. -/
import Derived.Test.YtdeiiagkbbimhaaNK
set_option linter.unusedSimpArgs false
set_option linter.unusedVariables false
namespace Go.Proofs.Ytdeiiagkbbimhaa
open Go.RowKit Go.Gw
theorem tells_any {va vb : Value} {l m : List Nd} {F : Nat → Prop} {w : World} {n : Int} (hl : Sl Kd.node w F va l) (hm : Sl Kd.node w F vb m) :
    Calls Try.prog 3 [va, vb, .int .i64 n].toArray w (Pure w fun v _ => v = .bool true) := by
  have hb0 := Below.refl w.heap.size w
  have hln1 := hl.lenle
  have hln2 := hm.lenle
  refine enter Try.func3 rfl rfl ?_
  refine w_seq ?_
  refine w_region ?_
  refine st (s_assign rfl ?_)
  refine r_end ?_
  refine n_then ?_
  refine w_seq ?_
  refine w_seq ?_
  refine w_region ?_
  refine st (s_call fn8 rfl (alive_any) ?_)
  rintro _ w1 ⟨hq1, rfl⟩
  have k1 := grown_of_below hq1 none
  have hb1 := below_g0 hb0 k1
  have hz1 := hb1.size
  refine st (s_not rfl ?_)
  refine r_end ?_
  refine n_then ?_
  refine w_condF rfl ?_
  refine w_skip' ?_
  refine n_then ?_
  refine w_seq ?_
  refine w_seq ?_
  refine w_region ?_
  refine st (s_move rfl ?_)
  refine st (s_len sl22 rfl (hl.at0 hb1) ?_)
  refine st (s_gt rfl rfl ?_)
  refine st (s_move rfl ?_)
  refine r_caseP 14 rfl (fun h1 => ?_) (fun h1 => ?_)
  · refine s_pass rfl rfl ?_
    refine s_pass rfl rfl ?_
    refine s_pass rfl rfl ?_
    refine st (s_pick rfl rfl ?_)
    refine r_end ?_
    refine n_then ?_
    refine w_condT rfl ?_
    refine w_seq ?_
    refine w_region ?_
    refine st (s_assign rfl ?_)
    refine r_end ?_
    refine n_then ?_
    refine w_ret1 rfl rfl ?_
    exact ⟨_, rfl, hb1, rfl⟩
  · have hll : l.length ≤ 1000000 := by omega
    refine stg (s_move rfl ?_)
    refine stg (s_len sl22 rfl (hm.at0 hb1) ?_)
    refine stg (s_gt rfl rfl ?_)
    refine st (s_pick rfl rfl ?_)
    refine r_end ?_
    refine n_then ?_
    refine w_condP rfl (fun h2 => ?_) (fun h2 => ?_)
    · refine w_seq ?_
      refine w_region ?_
      refine st (s_assign rfl ?_)
      refine r_end ?_
      refine n_then ?_
      refine w_ret1 rfl rfl ?_
      exact ⟨_, rfl, hb1, rfl⟩
    · refine w_skip' ?_
      refine n_then ?_
      refine w_seq ?_
      refine w_region ?_
      refine st (s_bslice0 (K := Kd.node) (base := w.heap.size) (F := (fun _ => False)) sl22 (by omega) (fun _ h => h.elim) ?_)
      intro v1 w2 hO1 k2
      have hb2 := below_g0 hb1 k2
      have hz2 := hb2.size
      refine st (s_move rfl ?_)
      refine st (s_append (K := Kd.node) sl22 rfl rfl hO1 ((hl.at0 hb2).weak (fun k hk h => h.elim (fun h => by first | exact h.elim | exact h | exact Or.inl h) (fun h => by have h9 := (hO1.lt k h).1; first | exact Or.inr h9 | (simp [Loc]; omega)))) node_ones (by simp; omega) (by simp; omega) (by first | exact Nat.le_refl _ | omega) (fun _ h => h.elim) ?_)
      intro v2 w3 hO2 k3 hr1
      rw [List.nil_append] at hO2
      have hb3 := hb2.grown k3 hb2.size (fun k_ hk_ => (hO1.lt k_ hk_).1)
      have hz3 := hb3.size
      refine st (s_assign rfl ?_)
      refine r_end ?_
      refine n_then ?_
      refine w_seq ?_
      refine w_region ?_
      refine st (s_move rfl ?_)
      refine st (s_call fn9 rfl (loose_any hO2.sl) ?_)
      rintro _ w4 ⟨hq2, rfl⟩
      have k4 := grown_of_below hq2 none
      have hz4 := hq2.size
      have hb4 := below_g0 hb3 k4
      have hz5 := hb4.size
      have hO3 := hO2.g0 k4
      refine st (s_move rfl ?_)
      refine st (s_call fn10 rfl (rloose_any (hl.at0 hb4)) ?_)
      rintro _ w5 ⟨hq3, rfl⟩
      have k5 := grown_of_below hq3 none
      have hz6 := hq3.size
      have hb5 := below_g0 hb4 k5
      have hz7 := hb5.size
      have hO4 := hO3.g0 k5
      refine st (s_eqbool bool4 rfl rfl ?_)
      refine st (s_move rfl ?_)
      refine r_case 27 rfl (fun h3 => ?_) (fun h3 => ?_)
      · refine stg (s_move rfl ?_)
        refine stg (s_build (ps := [(0, .tmp 28)]) (ccs := [#[v2]]) (cells := [v2]) rfl (by simp only [List.map_cons, List.map_nil, hO4.cells1] <;> rfl) (by kernel_rfl) ?_)
        refine stg (s_call fn11 rfl (right_any hO4.sl (by omega)) ?_)
        rintro _ w6 ⟨hq4, rfl⟩
        have k6 := grown_of_below hq4 none
        have hz8 := hq4.size
        have hb6 := below_g0 hb5 k6
        have hz9 := hb6.size
        have hO5 := hO4.g0 k6
        refine stg (s_move rfl ?_)
        refine stg (s_build (ps := [(0, .tmp 31)]) (ccs := [#[va]]) (cells := [va]) rfl (by simp only [List.map_cons, List.map_nil, hl.cells1] <;> rfl) (by kernel_rfl) ?_)
        refine stg (s_call fn12 rfl (rright_any (hl.at0 hb6) (by omega)) ?_)
        rintro _ w7 ⟨hq5, rfl⟩
        have k7 := grown_of_below hq5 none
        have hz10 := hq5.size
        have hb7 := below_g0 hb6 k7
        have hz11 := hb7.size
        have hO6 := hO5.g0 k7
        refine stg (s_eqbool bool4 rfl rfl ?_)
        refine st (s_pick rfl rfl ?_)
        refine st (s_move rfl ?_)
        refine r_case 36 rfl (fun h4 => ?_) (fun h4 => ?_)
        · refine stg (s_move rfl ?_)
          refine stg (s_build (ps := [(0, .tmp 37)]) (ccs := [#[va]]) (cells := [va]) rfl (by simp only [List.map_cons, List.map_nil, hl.cells1] <;> rfl) (by kernel_rfl) ?_)
          refine stg (s_move rfl ?_)
          refine stg (s_build (ps := [(0, .tmp 39)]) (ccs := [#[vb]]) (cells := [vb]) rfl (by simp only [List.map_cons, List.map_nil, hm.cells1] <;> rfl) (by kernel_rfl) ?_)
          refine stg (s_call fn13 rfl (same_any (hl.at0 hb7).none (hm.at0 hb7).none) ?_)
          rintro _ w8 ⟨hq6, rfl⟩
          have k8 := grown_of_below hq6 none
          have hz12 := hq6.size
          have hb8 := below_g0 hb7 k8
          have hz13 := hb8.size
          have hO7 := hO6.g0 k8
          refine stg (s_move rfl ?_)
          refine stg (s_move rfl ?_)
          refine stg (s_call fn14 rfl (rnodes_any (hl.at0 hb8).none (hm.at0 hb8).none) ?_)
          rintro _ w9 ⟨hq7, rfl⟩
          have k9 := grown_of_below hq7 none
          have hz14 := hq7.size
          have hb9 := below_g0 hb8 k9
          have hz15 := hb9.size
          have hO8 := hO7.g0 k9
          refine stg (s_eqbool bool4 rfl rfl ?_)
          refine st (s_pick rfl rfl ?_)
          refine st (s_move rfl ?_)
          refine r_case 47 rfl (fun h5 => ?_) (fun h5 => ?_)
          · refine stg (s_move rfl ?_)
            refine stg (s_move rfl ?_)
            refine stg (s_call fn14 rfl (rnodes_any hO8.sl.none (hl.at0 hb9).none) ?_)
            rintro _ w10 ⟨hq8, rfl⟩
            have k10 := grown_of_below hq8 none
            have hz16 := hq8.size
            have hb10 := below_g0 hb9 k10
            have hz17 := hb10.size
            have hO9 := hO8.g0 k10
            refine st (s_pick rfl rfl ?_)
            refine st (s_assign rfl ?_)
            refine r_end ?_
            refine n_then ?_
            refine w_seq ?_
            refine w_seq ?_
            refine w_region ?_
            refine st (s_move rfl ?_)
            refine st (s_not rfl ?_)
            refine st (s_move rfl ?_)
            refine r_case 54 rfl (fun h6 => ?_) (fun h6 => ?_)
            · refine s_pass rfl rfl ?_
              refine s_pass rfl rfl ?_
              refine s_pass rfl rfl ?_
              refine st (s_pick rfl rfl ?_)
              refine st (s_move rfl ?_)
              refine s_pass rfl rfl ?_
              refine s_pass rfl rfl ?_
              refine st (s_pick rfl rfl ?_)
              refine st (s_move rfl ?_)
              refine s_pass rfl rfl ?_
              refine s_pass rfl rfl ?_
              refine s_pass rfl rfl ?_
              refine s_pass rfl rfl ?_
              refine st (s_pick rfl rfl ?_)
              refine r_end ?_
              refine n_then ?_
              refine w_condT rfl ?_
              refine w_seq ?_
              refine w_region ?_
              refine st (s_move rfl ?_)
              refine st (s_assign rfl ?_)
              refine r_end ?_
              refine n_then ?_
              refine w_ret1 rfl rfl ?_
              exact ⟨_, rfl, hb10, by simp [Nd.eqv]⟩
            · refine stg (s_move rfl ?_)
              refine stg (s_call fn10 rfl (rloose_any (hl.at0 hb10)) ?_)
              rintro _ w11 ⟨hq9, rfl⟩
              have k11 := grown_of_below hq9 none
              have hz18 := hq9.size
              have hb11 := below_g0 hb10 k11
              have hz19 := hb11.size
              have hO10 := hO9.g0 k11
              refine stg (s_not rfl ?_)
              refine st (s_pick rfl rfl ?_)
              refine st (s_move rfl ?_)
              refine r_case 59 rfl (fun h7 => ?_) (fun h7 => ?_)
              · refine s_pass rfl rfl ?_
                refine s_pass rfl rfl ?_
                refine st (s_pick rfl rfl ?_)
                refine st (s_move rfl ?_)
                refine s_pass rfl rfl ?_
                refine s_pass rfl rfl ?_
                refine s_pass rfl rfl ?_
                refine s_pass rfl rfl ?_
                refine st (s_pick rfl rfl ?_)
                refine r_end ?_
                refine n_then ?_
                refine w_condT rfl ?_
                refine w_seq ?_
                refine w_region ?_
                refine st (s_move rfl ?_)
                refine st (s_assign rfl ?_)
                refine r_end ?_
                refine n_then ?_
                refine w_ret1 rfl rfl ?_
                exact ⟨_, rfl, hb11, by simp [Nd.eqv]⟩
              · have hl_ok : looseB l = true := by simpa using h7
                refine stg (s_move rfl ?_)
                refine stg (s_lt rfl rfl ?_)
                refine st (s_pick rfl rfl ?_)
                refine st (s_move rfl ?_)
                refine r_caseP 63 rfl (fun h8 => ?_) (fun h8 => ?_)
                · refine s_pass rfl rfl ?_
                  refine s_pass rfl rfl ?_
                  refine s_pass rfl rfl ?_
                  refine s_pass rfl rfl ?_
                  refine st (s_pick rfl rfl ?_)
                  refine r_end ?_
                  refine n_then ?_
                  refine w_condT rfl ?_
                  refine w_seq ?_
                  refine w_region ?_
                  refine st (s_move rfl ?_)
                  refine st (s_assign rfl ?_)
                  refine r_end ?_
                  refine n_then ?_
                  refine w_ret1 rfl rfl ?_
                  exact ⟨_, rfl, hb11, by simp [Nd.eqv]⟩
                · refine stg (s_move rfl ?_)
                  refine stg (s_move rfl ?_)
                  refine stg (s_len sl22 rfl (hl.at0 hb11) ?_)
                  refine stg (s_gt rfl rfl ?_)
                  refine st (s_pick rfl rfl ?_)
                  refine r_end ?_
                  refine n_then ?_
                  refine w_condP rfl (fun h9 => ?_) (fun h9 => ?_)
                  · refine w_seq ?_
                    refine w_region ?_
                    refine st (s_move rfl ?_)
                    refine st (s_assign rfl ?_)
                    refine r_end ?_
                    refine n_then ?_
                    refine w_ret1 rfl rfl ?_
                    exact ⟨_, rfl, hb11, by simp [Nd.eqv]⟩
                  · refine w_skip' ?_
                    refine n_then ?_
                    refine w_seq ?_
                    refine w_region ?_
                    refine st (s_move rfl ?_)
                    refine st (s_move rfl ?_)
                    refine st (s_call fn15 rfl (empty_any (hl.at0 hb11) hl_ok hll (by omega) (by omega)) ?_)
                    rintro _ w12 ⟨hq10, rfl⟩
                    have k12 := grown_of_below hq10 none
                    have hz20 := hq10.size
                    have hb12 := below_g0 hb11 k12
                    have hz21 := hb12.size
                    have hO11 := hO10.g0 k12
                    refine st (s_move rfl ?_)
                    refine st (s_move rfl ?_)
                    refine st (s_call fn16 rfl (rempty_any (hl.at0 hb12) hl_ok hll (by omega) (by omega)) ?_)
                    rintro _ w13 ⟨hq11, rfl⟩
                    have k13 := grown_of_below hq11 none
                    have hz22 := hq11.size
                    have hb13 := below_g0 hb12 k13
                    have hz23 := hb13.size
                    have hO12 := hO11.g0 k13
                    refine st (s_eqbool bool4 rfl rfl ?_)
                    refine st (s_move rfl ?_)
                    refine r_case 77 rfl (fun h10 => ?_) (fun h10 => ?_)
                    · refine stg (s_move rfl ?_)
                      refine stg (s_move rfl ?_)
                      refine stg (s_call fn17 rfl (hollow_any (hl.at0 hb13) hl_ok hll (by omega) (by omega)) ?_)
                      rintro _ w14 ⟨hq12, rfl⟩
                      have k14 := grown_of_below hq12 none
                      have hz24 := hq12.size
                      have hb14 := below_g0 hb13 k14
                      have hz25 := hb14.size
                      have hO13 := hO12.g0 k14
                      refine stg (s_move rfl ?_)
                      refine stg (s_move rfl ?_)
                      refine stg (s_call fn18 rfl (rhollow_any (hl.at0 hb14) hl_ok hll (by omega) (by omega)) ?_)
                      rintro _ w15 ⟨hq13, rfl⟩
                      have k15 := grown_of_below hq13 none
                      have hz26 := hq13.size
                      have hb15 := below_g0 hb14 k15
                      have hz27 := hb15.size
                      have hO14 := hO13.g0 k15
                      refine stg (s_eqbool bool4 rfl rfl ?_)
                      refine st (s_pick rfl rfl ?_)
                      refine st (s_assign rfl ?_)
                      refine r_end ?_
                      refine n_then ?_
                      refine w_ret1 rfl rfl ?_
                      exact ⟨_, rfl, hb15, by simp [Nd.eqv]⟩
                    · refine s_pass rfl rfl ?_
                      refine s_pass rfl rfl ?_
                      refine s_pass rfl rfl ?_
                      refine s_pass rfl rfl ?_
                      refine s_pass rfl rfl ?_
                      refine s_pass rfl rfl ?_
                      refine s_pass rfl rfl ?_
                      refine st (s_pick rfl rfl ?_)
                      refine st (s_assign rfl ?_)
                      refine r_end ?_
                      refine n_then ?_
                      refine w_ret1 rfl rfl ?_
                      exfalso
                      first | (exact absurd h10 (by simp [Nd.eqv])) | (exact absurd h9 (by simp [Nd.eqv])) | (exact absurd h8 (by simp [Nd.eqv])) | (exact absurd h7 (by simp [Nd.eqv])) | (exact absurd h6 (by simp [Nd.eqv])) | (exact absurd h5 (by simp [Nd.eqv])) | (exact absurd h4 (by simp [Nd.eqv])) | (exact absurd h3 (by simp [Nd.eqv])) | (exact absurd h2 (by simp [Nd.eqv])) | (exact absurd h1 (by simp [Nd.eqv]))
          · refine s_pass rfl rfl ?_
            refine s_pass rfl rfl ?_
            refine s_pass rfl rfl ?_
            refine st (s_pick rfl rfl ?_)
            refine st (s_assign rfl ?_)
            refine r_end ?_
            refine n_then ?_
            refine w_seq ?_
            refine w_seq ?_
            refine w_region ?_
            refine st (s_move rfl ?_)
            refine st (s_not rfl ?_)
            refine st (s_move rfl ?_)
            refine s_pass rfl rfl ?_
            refine s_pass rfl rfl ?_
            refine s_pass rfl rfl ?_
            refine st (s_pick rfl rfl ?_)
            refine st (s_move rfl ?_)
            refine s_pass rfl rfl ?_
            refine s_pass rfl rfl ?_
            refine st (s_pick rfl rfl ?_)
            refine st (s_move rfl ?_)
            refine s_pass rfl rfl ?_
            refine s_pass rfl rfl ?_
            refine s_pass rfl rfl ?_
            refine s_pass rfl rfl ?_
            refine st (s_pick rfl rfl ?_)
            refine r_end ?_
            refine n_then ?_
            refine w_condT rfl ?_
            refine w_seq ?_
            refine w_region ?_
            refine st (s_move rfl ?_)
            refine st (s_assign rfl ?_)
            refine r_end ?_
            refine n_then ?_
            refine w_ret1 rfl rfl ?_
            exfalso
            first | (exact absurd h5 (by simp [Nd.eqv])) | (exact absurd h4 (by simp [Nd.eqv])) | (exact absurd h3 (by simp [Nd.eqv])) | (exact absurd h2 (by simp [Nd.eqv])) | (exact absurd h1 (by simp [Nd.eqv]))
        · refine s_pass rfl rfl ?_
          refine s_pass rfl rfl ?_
          refine s_pass rfl rfl ?_
          refine s_pass rfl rfl ?_
          refine s_pass rfl rfl ?_
          refine s_pass rfl rfl ?_
          refine s_pass rfl rfl ?_
          refine s_pass rfl rfl ?_
          refine s_pass rfl rfl ?_
          refine st (s_pick rfl rfl ?_)
          refine st (s_move rfl ?_)
          refine s_pass rfl rfl ?_
          refine s_pass rfl rfl ?_
          refine s_pass rfl rfl ?_
          refine st (s_pick rfl rfl ?_)
          refine st (s_assign rfl ?_)
          refine r_end ?_
          refine n_then ?_
          refine w_seq ?_
          refine w_seq ?_
          refine w_region ?_
          refine st (s_move rfl ?_)
          refine st (s_not rfl ?_)
          refine st (s_move rfl ?_)
          refine s_pass rfl rfl ?_
          refine s_pass rfl rfl ?_
          refine s_pass rfl rfl ?_
          refine st (s_pick rfl rfl ?_)
          refine st (s_move rfl ?_)
          refine s_pass rfl rfl ?_
          refine s_pass rfl rfl ?_
          refine st (s_pick rfl rfl ?_)
          refine st (s_move rfl ?_)
          refine s_pass rfl rfl ?_
          refine s_pass rfl rfl ?_
          refine s_pass rfl rfl ?_
          refine s_pass rfl rfl ?_
          refine st (s_pick rfl rfl ?_)
          refine r_end ?_
          refine n_then ?_
          refine w_condT rfl ?_
          refine w_seq ?_
          refine w_region ?_
          refine st (s_move rfl ?_)
          refine st (s_assign rfl ?_)
          refine r_end ?_
          refine n_then ?_
          refine w_ret1 rfl rfl ?_
          exfalso
          first | (exact absurd h4 (by simp [Nd.eqv])) | (exact absurd h3 (by simp [Nd.eqv])) | (exact absurd h2 (by simp [Nd.eqv])) | (exact absurd h1 (by simp [Nd.eqv]))
      · refine s_pass rfl rfl ?_
        refine s_pass rfl rfl ?_
        refine s_pass rfl rfl ?_
        refine s_pass rfl rfl ?_
        refine s_pass rfl rfl ?_
        refine s_pass rfl rfl ?_
        refine s_pass rfl rfl ?_
        refine st (s_pick rfl rfl ?_)
        refine st (s_move rfl ?_)
        refine s_pass rfl rfl ?_
        refine s_pass rfl rfl ?_
        refine s_pass rfl rfl ?_
        refine s_pass rfl rfl ?_
        refine s_pass rfl rfl ?_
        refine s_pass rfl rfl ?_
        refine s_pass rfl rfl ?_
        refine s_pass rfl rfl ?_
        refine s_pass rfl rfl ?_
        refine st (s_pick rfl rfl ?_)
        refine st (s_move rfl ?_)
        refine s_pass rfl rfl ?_
        refine s_pass rfl rfl ?_
        refine s_pass rfl rfl ?_
        refine st (s_pick rfl rfl ?_)
        refine st (s_assign rfl ?_)
        refine r_end ?_
        refine n_then ?_
        refine w_seq ?_
        refine w_seq ?_
        refine w_region ?_
        refine st (s_move rfl ?_)
        refine st (s_not rfl ?_)
        refine st (s_move rfl ?_)
        refine s_pass rfl rfl ?_
        refine s_pass rfl rfl ?_
        refine s_pass rfl rfl ?_
        refine st (s_pick rfl rfl ?_)
        refine st (s_move rfl ?_)
        refine s_pass rfl rfl ?_
        refine s_pass rfl rfl ?_
        refine st (s_pick rfl rfl ?_)
        refine st (s_move rfl ?_)
        refine s_pass rfl rfl ?_
        refine s_pass rfl rfl ?_
        refine s_pass rfl rfl ?_
        refine s_pass rfl rfl ?_
        refine st (s_pick rfl rfl ?_)
        refine r_end ?_
        refine n_then ?_
        refine w_condT rfl ?_
        refine w_seq ?_
        refine w_region ?_
        refine st (s_move rfl ?_)
        refine st (s_assign rfl ?_)
        refine r_end ?_
        refine n_then ?_
        refine w_ret1 rfl rfl ?_
        exfalso
        first | (exact absurd h3 (by simp [Nd.eqv])) | (exact absurd h2 (by simp [Nd.eqv])) | (exact absurd h1 (by simp [Nd.eqv]))
end Go.Proofs.Ytdeiiagkbbimhaa
