/- Part of the proof that is named in YtdeiiagkbbimhaaNRowCanJust: a library for walks, or a function's walk. -/
import Derived.Test.YtdeiiagkbbimhaaNG
set_option maxRecDepth 20000
set_option linter.unusedSimpArgs false
set_option linter.unusedVariables false
namespace Go.Proofs.Ytdeiiagkbbimhaa
open Go.RowKit Go.Gw
theorem right_any {va : Value} {l : List Nd} {F : Nat → Prop} {w : World} (hl : Sl Kd.node w F va l) (hll : l.length ≤ 1000000) :
    Calls Try.prog 11 [.agg [va].toArray].toArray w (Pure w fun v _ => v = .bool (rightB l)) := by
  have hb0 := Below.refl w.heap.size w
  have hln0 := hl.lenle
  refine enter Try.func11 rfl rfl ?_
  refine w_seq ?_
  refine w_region ?_
  refine st (s_box rfl ?_)
  intro g1 w1 hg1 hB1 k1 hs1
  have hb1 := below_g0 hb0 k1
  refine st (s_assign rfl ?_)
  refine r_end ?_
  refine n_then ?_
  refine w_seq ?_
  refine w_region ?_
  refine st (s_faddr fld27_0 rfl ?_)
  refine st (s_load one22 rfl hB1.range (j := 0) rfl ?_)
  refine st (s_assign rfl ?_)
  refine r_end ?_
  refine n_then ?_
  refine w_seq ?_
  refine w_seq ?_
  refine w_region ?_
  refine st (s_move rfl ?_)
  refine st (s_len sl22 rfl (hl.at0 hb1) ?_)
  refine st (s_eq rfl rfl ?_)
  refine r_end ?_
  refine n_then ?_
  refine w_condP rfl (fun h1 => ?_) (fun h1 => ?_)
  · refine w_seq ?_
    refine w_region ?_
    refine st (s_assign rfl ?_)
    refine r_end ?_
    refine n_then ?_
    refine w_ret1 rfl rfl ?_
    exact ⟨_, rfl, hb1, by unfold rightB; rw [decide_eq_true (by omega : l.length = 0)]; rfl⟩
  · refine w_skip' ?_
    refine n_then ?_
    refine w_seq ?_
    refine w_seq ?_
    refine w_region ?_
    refine st (s_move rfl ?_)
    refine st (s_call fn9 rfl (loose_any (hl.at0 hb1)) ?_)
    rintro _ w2 ⟨hq1, rfl⟩
    have k2 := grown_of_below hq1 none
    have hz1 := hq1.size
    have hb2 := below_g0 hb1 k2
    have hz2 := hb2.size
    refine st (s_not rfl ?_)
    refine st (s_move rfl ?_)
    refine r_case 15 rfl (fun h2 => ?_) (fun h2 => ?_)
    · refine s_pass rfl rfl ?_
      refine s_pass rfl rfl ?_
      refine s_pass rfl rfl ?_
      refine s_pass rfl rfl ?_
      refine st (s_pick rfl rfl ?_)
      refine st (s_move rfl ?_)
      refine s_pass rfl rfl ?_
      refine s_pass rfl rfl ?_
      refine s_pass rfl rfl ?_
      refine s_pass rfl rfl ?_
      refine st (s_pick rfl rfl ?_)
      refine r_end ?_
      refine n_then ?_
      refine w_condT rfl ?_
      refine w_seq ?_
      refine w_region ?_
      refine st (s_assign rfl ?_)
      refine r_end ?_
      refine n_then ?_
      refine w_ret1 rfl rfl ?_
      refine ⟨_, rfl, hb2, ?_⟩
      unfold rightB; rw [decide_eq_false (by omega : ¬ l.length = 0)]
      simp only [fullB]
      simp_all
    · have hl_ok : looseB l = true := by simpa using h2
      have hlen := hasL_length l
      refine stg (s_move rfl ?_)
      refine stg (s_move rfl ?_)
      refine stg (s_len sl22 rfl (hl.at0 hb2) ?_)
      refine stg (s_call fn17 rfl (hollow_any (hl.at0 hb2) hl_ok hll (by omega) (by omega)) ?_)
      rintro _ w3 ⟨hq2, rfl⟩
      have k3 := grown_of_below hq2 none
      have hz3 := hq2.size
      have hb3 := below_g0 hb2 k3
      have hz4 := hb3.size
      refine st (s_pick rfl rfl ?_)
      refine st (s_move rfl ?_)
      refine r_case 21 rfl (fun h3 => ?_) (fun h3 => ?_)
      · refine s_pass rfl rfl ?_
        refine s_pass rfl rfl ?_
        refine s_pass rfl rfl ?_
        refine s_pass rfl rfl ?_
        refine st (s_pick rfl rfl ?_)
        refine r_end ?_
        refine n_then ?_
        refine w_condT rfl ?_
        refine w_seq ?_
        refine w_region ?_
        refine st (s_assign rfl ?_)
        refine r_end ?_
        refine n_then ?_
        refine w_ret1 rfl rfl ?_
        refine ⟨_, rfl, hb3, ?_⟩
        unfold rightB; rw [decide_eq_false (by omega : ¬ l.length = 0)]
        simp only [fullB]
        simp_all
      · refine stg (s_move rfl ?_)
        refine stg (s_call fn27 rfl (full_any (hl.at0 hb3) hl_ok hll) ?_)
        rintro v1 w4 ⟨hq3, hS1⟩
        have k4 := grown_of_below hq3 none
        have hz5 := hq3.size
        have hb4 := below_g0 hb3 k4
        have hz6 := hb4.size
        refine stg (s_sllo sl43 rfl rfl hS1 (by first | omega | (simp; omega)) (by first | omega | (simp; omega)) ?_)
        intro v2 hS2
        refine stg (s_call fn26 rfl (conb_any (b := false) hS2) ?_)
        rintro _ w5 ⟨hq4, rfl⟩
        have k5 := grown_of_below hq4 none
        have hz7 := hq4.size
        have hb5 := below_g0 hb4 k5
        have hz8 := hb5.size
        refine st (s_pick rfl rfl ?_)
        refine r_end ?_
        refine n_then ?_
        refine w_cond rfl (fun h4 => ?_) (fun h4 => ?_)
        · refine w_seq ?_
          refine w_region ?_
          refine st (s_assign rfl ?_)
          refine r_end ?_
          refine n_then ?_
          refine w_ret1 rfl rfl ?_
          refine ⟨_, rfl, hb5, ?_⟩
          unfold rightB; rw [decide_eq_false (by omega : ¬ l.length = 0)]
          simp only [fullB]
          simp_all
        · refine w_skip' ?_
          refine n_then ?_
          refine w_seq ?_
          refine w_region ?_
          refine st (s_makemap Nd.val Value.bool ?_)
          intro g2 w6 hg2 hM1 k6 hs2
          have hb6 := below_g0 hb5 k6
          refine st (s_assign rfl ?_)
          refine r_end ?_
          refine n_then ?_
          refine w_seq ?_
          refine w_seq ?_
          refine w_region ?_
          refine st (s_move rfl ?_)
          refine st (s_len sl22 rfl (hl.at0 hb6) ?_)
          refine st (s_move rfl ?_)
          refine r_end ?_
          refine n_then ?_
          refine w_block ?_
          refine w_loop (α := Int) (fun (i : Int) => [(3, va), (4, .map (some g2)), (28, va), (29, .int .i64 (l.length : Int)), (30, .int .i64 i)]) (fun (i : Int) W => Below w.heap.size w W ∧ (0 ≤ i ∧ i ≤ l.length) ∧ (IsMap Nd.val Value.bool W g2 (seenM l i)) ∧ ((l.take i.toNat).Nodup) ∧ (w.heap.size ≤ g2 ∧ g2 < W.heap.size)) (fun (i : Int) => (l.length - i).toNat) (0) ⟨hb6, by omega, by rw [seen_zero]; exact hM1, by simp, by omega⟩ (by exact ⟨rfl, rfl, rfl, rfl, rfl, trivial⟩) ?_
          rintro i w7 ⟨hb7, hi, hMp, hnd, hgm⟩
          have hz9 := hb7.size
          refine w_seq ?_
          refine w_region ?_
          refine st (s_lt rfl rfl ?_)
          refine r_end ?_
          refine n_then ?_
          refine w_seq ?_
          refine w_condP rfl (fun h5 => ?_) (fun h5 => ?_)
          · have hlt := h5
            refine w_skip' ?_
            refine n_then ?_
            refine w_seq ?_
            refine w_block ?_
            refine w_seq ?_
            refine w_region ?_
            refine st (s_idx sl22 rfl rfl (hl.at0 hb7) (by omega) (by omega) ?_)
            rintro b1 o1 _ ⟨rfl, _⟩ hc1 hF1 hlt1
            have hl_1 := Loc.lt hF1
            refine st (s_loadW row35 rfl hc1 rfl ?_)
            refine st (s_alloc zero35 ?_)
            intro g3 w8 hg3 hB2 k7 hs3
            have hb8 := below_g0 hb7 k7
            have hM2 := hMp.g0 k7
            refine st0 (s_storeN row35 rfl rfl hB2 rfl rfl rfl ?_)
            intro w9 hB3 k8 hs4
            have hb9 := below_g hb8 k8 (by omega)
            have hM3 := hM2.kept k8 (by simpa using hM2.ne_blk hB2)
            clear hB2
            refine r_end ?_
            refine n_then ?_
            refine w_seq ?_
            refine w_seq ?_
            refine w_region ?_
            refine st (s_move rfl ?_)
            refine st (s_loadW row35 rfl hB3.range rfl ?_)
            refine st (s_lookupB map45 keyNode rfl rfl hM3 (by kernel_rfl) ?_)
            refine r_end ?_
            refine n_then ?_
            refine w_cond rfl (fun h6 => ?_) (fun h6 => ?_)
            · refine w_seq ?_
              refine w_region ?_
              refine st (s_assign rfl ?_)
              refine r_end ?_
              refine n_then ?_
              refine w_ret1 rfl rfl ?_
              refine ⟨_, rfl, hb9, ?_⟩
              unfold rightB; rw [decide_eq_false (by omega : ¬ l.length = 0)]
              rw [dup_no hi.1 hlt (by simpa using h6)]
              simp
            · refine w_skip' ?_
              refine n_then ?_
              refine w_region ?_
              refine st (s_move rfl ?_)
              refine st (s_loadW row35 rfl hB3.range rfl ?_)
              refine st0 (s_mapput (a := (ix l i)) (v := true) map45 keyNode rfl rfl rfl hM3 ?_)
              intro w10 hM4 k9 hs5
              have hb10 := below_g hb9 k9 (by omega)
              refine r_end ?_
              refine n_block ?_
              refine n_then ?_
              refine w_region ?_
              refine st (s_add rfl rfl (by omega) ?_)
              refine st (s_move rfl ?_)
              refine r_end ?_
              exact n_round ((i + 1)) ⟨hb10, by omega, by rw [← seen_put hi.1 hlt (by simpa using h6)]; exact hM4, nodup_step hi.1 hlt hnd (by simpa using h6), by omega⟩ (by omega) (by exact ⟨rfl, rfl, rfl, rfl, rfl, trivial⟩)
          · refine w_exit' ?_
            refine n_then_exit ?_
            refine n_then_exit ?_
            refine n_block_exit ?_
            refine n_then ?_
            refine w_seq ?_
            refine w_region ?_
            refine st (s_move rfl ?_)
            refine st (s_call fn28 rfl (ordered_any (hl.at0 hb7) hl_ok hll (by omega)) ?_)
            rintro _ w11 ⟨hq5, rfl⟩
            have k10 := grown_of_below hq5 none
            have hz10 := hq5.size
            have hb11 := below_g0 hb7 k10
            have hz11 := hb11.size
            have hM5 := hMp.g0 k10
            refine st (s_assign rfl ?_)
            refine r_end ?_
            refine n_then ?_
            refine w_ret1 rfl rfl ?_
            have e := nodup_end (by omega : i = (l.length : Int)) hnd
            refine ⟨_, rfl, hb11, ?_⟩
            unfold rightB; rw [decide_eq_false (by omega : ¬ l.length = 0)]
            rw [e]
            simp only [fullB]
            simp_all
end Go.Proofs.Ytdeiiagkbbimhaa
