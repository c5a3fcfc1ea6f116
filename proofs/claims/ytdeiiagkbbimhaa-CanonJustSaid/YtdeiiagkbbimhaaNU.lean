/- Part of the proof that is named in YtdeiiagkbbimhaaNRowCanJust: a library for walks, or a function's walk. -/
import Derived.Test.YtdeiiagkbbimhaaNT
set_option maxRecDepth 20000
set_option linter.unusedSimpArgs false
set_option linter.unusedVariables false
namespace Go.Proofs.Ytdeiiagkbbimhaa
open Go.RowKit Go.Gw
theorem of_any {va : Value} {l : List Nd} {F : Nat → Prop} {w : World} (hl : Sl Kd.node w F va l) {n : Int} (hll : l.length ≤ 100000) :
    Calls Try.prog 21 [va, .int .i64 n].toArray w (Pure w fun v w' => ∃ sv, v = .tuple #[.agg #[sv], .int .i64 (ofL l n).2] ∧ Sl Kd.node w' (fun _ => False) sv (ofL l n).1 ∧ (ofL l n).1.length ≤ l.length + 1330) := by
  have hb0 := Below.refl w.heap.size w
  have hln1 := hl.lenle
  refine enter Try.func21 rfl rfl ?_
  refine w_seq ?_
  refine w_region ?_
  refine st (s_box1 rfl hl.cells1 ?_)
  intro g1 w1 hg1 hB1 k1 hs1
  have hb1 := below_g0 hb0 k1
  refine st (s_alloc zero27 ?_)
  intro g2 w2 hg2 hB2 k2 hs2
  have hb2 := below_g0 hb1 k2
  refine st (s_assign rfl ?_)
  refine r_end ?_
  refine n_then ?_
  refine w_seq ?_
  refine w_seq ?_
  refine w_region ?_
  refine st (s_load one22 rfl (hB1.g0 k2).range (j := 0) rfl ?_)
  refine st (s_call fn9 rfl (loose_any (hl.at0 hb2)) ?_)
  rintro _ w3 ⟨hq1, rfl⟩
  have k3 := grown_of_below hq1 none
  have hz1 := hq1.size
  have hb3 := below_g0 hb2 k3
  have hz2 := hb3.size
  refine st (s_not rfl ?_)
  refine st (s_move rfl ?_)
  refine r_case 12 rfl (fun h1 => ?_) (fun h1 => ?_)
  · refine s_pass rfl rfl ?_
    refine s_pass rfl rfl ?_
    refine st (s_pick rfl rfl ?_)
    refine st (s_move rfl ?_)
    refine s_pass rfl rfl ?_
    refine s_pass rfl rfl ?_
    refine s_pass rfl rfl ?_
    refine s_pass rfl rfl ?_
    refine st (s_pick rfl rfl ?_)
    refine r_end ?_
    refine n_then ?_
    refine w_condT rfl ?_
    refine w_seq ?_
    refine w_region ?_
    refine st (s_build (ps := []) (ccs := []) (cells := [.slice none 0 0]) rfl rfl (by kernel_rfl) ?_)
    refine st0 (s_storeN row27 rfl rfl (hB2.g0 k3) rfl rfl rfl ?_)
    intro w4 hB3 k4 hs3
    have hb4 := below_g hb3 k4 (by omega)
    refine st (s_assign rfl ?_)
    refine r_end ?_
    refine n_then ?_
    refine w_retc2 rfl row27 rfl rfl hB3.range rfl ?_
    refine ⟨_, rfl, hb4, .slice none 0 0, ?_, ?_, ?_⟩
    · rw [of_no (by first | exact .inl (by simpa using h1) | exact .inr (by omega))]
    · rw [of_no (by first | exact .inl (by simpa using h1) | exact .inr (by omega))]; exact (Own.nil Kd.node 35 0 _ _).sl
    · rw [of_no (by first | exact .inl (by simpa using h1) | exact .inr (by omega))]; simp
  · have hl_ok : looseB l = true := by simpa using h1
    refine stg (s_move rfl ?_)
    refine stg (s_lt rfl rfl ?_)
    refine st (s_pick rfl rfl ?_)
    refine st (s_move rfl ?_)
    refine r_caseP 16 rfl (fun h2 => ?_) (fun h2 => ?_)
    · refine s_pass rfl rfl ?_
      refine s_pass rfl rfl ?_
      refine s_pass rfl rfl ?_
      refine s_pass rfl rfl ?_
      refine st (s_pick rfl rfl ?_)
      refine r_end ?_
      refine n_then ?_
      refine w_condT rfl ?_
      refine w_seq ?_
      refine w_region ?_
      refine st (s_build (ps := []) (ccs := []) (cells := [.slice none 0 0]) rfl rfl (by kernel_rfl) ?_)
      refine st0 (s_storeN row27 rfl rfl (hB2.g0 k3) rfl rfl rfl ?_)
      intro w5 hB4 k5 hs4
      have hb5 := below_g hb3 k5 (by omega)
      refine st (s_assign rfl ?_)
      refine r_end ?_
      refine n_then ?_
      refine w_retc2 rfl row27 rfl rfl hB4.range rfl ?_
      refine ⟨_, rfl, hb5, .slice none 0 0, ?_, ?_, ?_⟩
      · rw [of_no (by first | exact .inl (by simpa using h1) | exact .inr (by omega))]
      · rw [of_no (by first | exact .inl (by simpa using h1) | exact .inr (by omega))]; exact (Own.nil Kd.node 35 0 _ _).sl
      · rw [of_no (by first | exact .inl (by simpa using h1) | exact .inr (by omega))]; simp
    · refine stg (s_move rfl ?_)
      refine stg (s_load one22 rfl ((hB1.g0 k2).g0 k3).range (j := 0) rfl ?_)
      refine stg (s_len sl22 rfl (hl.at0 hb3) ?_)
      refine stg (s_gt rfl rfl ?_)
      refine st (s_pick rfl rfl ?_)
      refine r_end ?_
      refine n_then ?_
      refine w_condP rfl (fun h3 => ?_) (fun h3 => ?_)
      · refine w_seq ?_
        refine w_region ?_
        refine st (s_build (ps := []) (ccs := []) (cells := [.slice none 0 0]) rfl rfl (by kernel_rfl) ?_)
        refine st0 (s_storeN row27 rfl rfl (hB2.g0 k3) rfl rfl rfl ?_)
        intro w6 hB5 k6 hs5
        have hb6 := below_g hb3 k6 (by omega)
        refine st (s_assign rfl ?_)
        refine r_end ?_
        refine n_then ?_
        refine w_retc2 rfl row27 rfl rfl hB5.range rfl ?_
        refine ⟨_, rfl, hb6, .slice none 0 0, ?_, ?_, ?_⟩
        · rw [of_no (by first | exact .inl (by simpa using h1) | exact .inr (by omega))]
        · rw [of_no (by first | exact .inl (by simpa using h1) | exact .inr (by omega))]; exact (Own.nil Kd.node 35 0 _ _).sl
        · rw [of_no (by first | exact .inl (by simpa using h1) | exact .inr (by omega))]; simp
      · refine w_skip' ?_
        refine n_then ?_
        refine w_seq ?_
        refine w_region ?_
        refine st (s_load one22 rfl ((hB1.g0 k2).g0 k3).range (j := 0) rfl ?_)
        refine st (s_move rfl ?_)
        refine st (s_call fn33 rfl (shrink_any (n0 := n) (hl.at0 hb3) hl_ok hll (by omega) (by omega)) ?_)
        rintro _ w7 ⟨hq2, L1, n1, v1, rfl, hS1, hLok1, hn1, hn2, hT1, hH1, hLl1⟩
        have k7 := grown_of_below hq2 none
        have hz3 := hq2.size
        have hO1 := Own.rebase hS1 hb3.size
        have hb7 := below_g0 hb3 k7
        have hz4 := hb7.size
        have hlen9 := emptL_length L1
        refine st (s_move rfl ?_)
        refine st (s_extract rfl rfl ?_)
        refine st (s_extract rfl rfl ?_)
        refine st0 (s_store one22 rfl rfl (hO1.one) (((hB1.g0 k2).g0 k3).g0 k7) (of_decide_eq_true rfl) ?_)
        intro w8 hB6 k8 hs6
        have hb8 := below_g hb7 k8 (by omega)
        have hO2 := Own.keptF node_flat hO1 k8 (hO1.ne_blk (((hB1.g0 k2).g0 k3).g0 k7) (by decide))
        refine st (s_assign rfl ?_)
        refine r_end ?_
        refine n_then ?_
        refine w_seq ?_
        refine w_region ?_
        refine st (s_makemap Nd.val ekI ?_)
        intro g3 w9 hg3 hM1 k9 hs7
        have hb9 := below_g0 hb8 k9
        have hO3 := hO2.g0 k9
        refine st (s_build (ps := [(1, .tmp 29)]) (ccs := [#[.map (some g3)]]) (cells := [.slice none 0 0, .map (some g3)]) rfl rfl (by kernel_rfl) ?_)
        refine st (s_box rfl ?_)
        intro g4 w10 hg4 hB7 k10 hs8
        have hb10 := below_g0 hb9 k10
        have hO4 := hO3.g0 k10
        have hM2 := hM1.g0 k10
        refine st (s_alloc zero51 ?_)
        intro g5 w11 hg5 hB8 k11 hs9
        have hb11 := below_g0 hb10 k11
        have hO5 := hO4.g0 k11
        have hM3 := hM2.g0 k11
        refine st0 (s_store one51 rfl rfl rfl hB8 (of_decide_eq_true rfl) ?_)
        intro w12 hB9 k12 hs10
        have hb12 := below_g hb11 k12 (by omega)
        have hO6 := Own.keptF node_flat hO5 k12 (hO5.ne_blk hB8 (by decide))
        have hM4 := hM3.kept k12 (by simpa using hM3.ne_blk hB8)
        clear hB8
        refine r_end ?_
        refine n_then ?_
        refine w_seq ?_
        refine w_region ?_
        refine st (s_makemap ekI ekI ?_)
        intro g6 w13 hg6 hM5 k13 hs11
        have hb13 := below_g0 hb12 k13
        have hO7 := hO6.g0 k13
        have hM6 := hM4.g0 k13
        refine st0 (s_mapins (a := 0) (v := 0) map55 keyI rfl rfl rfl hM5 ?_)
        intro w14 hM7 k14 hs12
        have hb14 := below_g hb13 k14 (by omega)
        have hO8 := Own.keptF node_flat hO7 k14 (hM5.ne_own hO7)
        have hM8 := hM6.kept k14 (by simp; omega)
        refine st (s_move rfl ?_)
        refine st (s_alloc zero55 ?_)
        intro g7 w15 hg7 hB10 k15 hs13
        have hb15 := below_g0 hb14 k15
        have hO9 := hO8.g0 k15
        have hM9 := hM8.g0 k15
        have hM10 := hM7.g0 k15
        refine st0 (s_store one55 rfl rfl rfl hB10 (of_decide_eq_true rfl) ?_)
        intro w16 hB11 k16 hs14
        have hb16 := below_g hb15 k16 (by omega)
        have hO10 := Own.keptF node_flat hO9 k16 (hO9.ne_blk hB10 (by decide))
        have hM11 := hM9.kept k16 (by simpa using hM9.ne_blk hB10)
        have hM12 := hM10.kept k16 (by simpa using hM10.ne_blk hB10)
        clear hB10
        refine r_end ?_
        refine n_then ?_
        refine w_seq ?_
        refine w_region ?_
        refine st (s_alloc zero56 ?_)
        intro g8 w17 hg8 hB12 k17 hs15
        have hb17 := below_g0 hb16 k17
        have hO11 := hO10.g0 k17
        have hM13 := hM11.g0 k17
        have hM14 := hM12.g0 k17
        refine r_end ?_
        refine n_then ?_
        refine w_seq ?_
        refine w_region ?_
        refine st (s_func rfl rfl ?_)
        refine st0 (s_store one56 rfl rfl rfl hB12 (of_decide_eq_true rfl) ?_)
        intro w18 hB13 k18 hs16
        have hb18 := below_g hb17 k18 (by omega)
        have hO12 := Own.keptF node_flat hO11 k18 (hO11.ne_blk hB12 (by decide))
        have hM15 := hM13.kept k18 (by simpa using hM13.ne_blk hB12)
        have hM16 := hM14.kept k18 (by simpa using hM14.ne_blk hB12)
        clear hB12
        refine r_end ?_
        refine n_then ?_
        refine w_seq ?_
        refine w_region ?_
        refine st (s_load one56 rfl hB13.range (j := 0) rfl ?_)
        refine st (s_move rfl ?_)
        have hb19 := Below.refl w8.heap.size w8
        have hb20 := below_g0 hb19 k9
        have hb21 := below_g0 hb20 k10
        have hb22 := below_g0 hb21 k11
        have hb23 := below_g hb22 k12 (by omega)
        have hb24 := below_g0 hb23 k13
        have hb25 := below_g hb24 k14 (by omega)
        have hb26 := below_g0 hb25 k15
        have hb27 := below_g hb26 k16 (by omega)
        have hb28 := below_g0 hb27 k17
        have hb29 := below_g hb28 k18 (by omega)
        have hdst1 : Dist g7 g1 g8 g5 g4 g6 g3 := ⟨by omega, by omega, by omega, by omega, by omega⟩
        have hmd9 := hM16
        rw [show mput ([] : List (Int × Int)) 0 0 = [(0, 0)] from rfl] at hmd9
        refine st (s_callc fn34 rfl rfl (visit1_any (a0 := w8) hO2.sl hLok1 (by omega) ⟨by omega, by omega, by omega⟩ hdst1 (L1.length + 1) (n := n1) (by omega) (by omega) (by omega) hb29 ((hB11.g0 k17).gne k18 (by omega)) ((((((((((hB6.g0 k9).g0 k10).g0 k11).gne k12 (by omega)).g0 k13).gne k14 (hM5.ne_blk (((((hB6.g0 k9).g0 k10).g0 k11).gne k12 (by omega)).g0 k13)).symm).g0 k15).gne k16 (by omega)).g0 k17).gne k18 (by omega)) hB13 ((((((hB9.g0 k13).gne k14 (hM5.ne_blk (hB9.g0 k13)).symm).g0 k15).gne k16 (by omega)).g0 k17).gne k18 (by omega)) ((((((((hB7.g0 k11).gne k12 (by omega)).g0 k13).gne k14 (hM5.ne_blk (((hB7.g0 k11).gne k12 (by omega)).g0 k13)).symm).g0 k15).gne k16 (by omega)).g0 k17).gne k18 (by omega)) hmd9 hM15 (Own.nil _ _ _ _ _) (dok_start _) minv_nil can_nil) ?_)
        rintro _ w19 ⟨rfl, vo1, D1, M1, hb30, hB14, hM17, hM18, hO13, hp1, hp2, hp3, hp4, hp5⟩
        have hb31 := hb8.trans (hb30.mono hb8.size)
        have hz5 := hb31.size
        have hB15 := Blk.frm ((((((hB9.g0 k13).gne k14 (hM5.ne_blk (hB9.g0 k13)).symm).g0 k15).gne k16 (by omega)).g0 k17).gne k18 (by omega)) hp5 hdst1.x6 (by simp [Value.ownBlock])
        have hB16 : Blk w19 g2 27 _ := (hb30.block _ (((hB2.g0 k3).g0 k7).gne k8 (by omega)).lt).trans (((hB2.g0 k3).g0 k7).gne k8 (by omega))
        refine r_end ?_
        refine n_then ?_
        refine w_seq ?_
        refine w_region ?_
        refine st (s_load one51 rfl hB15.range (j := 0) rfl ?_)
        refine st (s_nilp rfl ?_)
        refine st (s_faddr fld54_0 rfl ?_)
        refine st (s_load one22 rfl hB14.range (j := 0) rfl ?_)
        refine st (s_build (ps := [(0, .tmp 41)]) (ccs := [#[vo1]]) (cells := [vo1]) rfl (by simp only [List.map_cons, List.map_nil, hO13.cells1] <;> rfl) (by kernel_rfl) ?_)
        refine st0 (s_storeN row27 rfl rfl hB16 (by simp only [List.all_cons, List.all_nil, hO13.one, Bool.and_true, Bool.and_self] <;> rfl) rfl rfl ?_)
        intro w20 hB17 k20 hs17
        have hb32 := below_g hb31 k20 (by omega)
        have hO14 := Own.keptF node_flat hO13 k20 (hO13.ne_blk hB16 (by decide))
        clear hB16
        refine st (s_assign rfl ?_)
        refine r_end ?_
        refine n_then ?_
        refine w_retc2 rfl row27 rfl rfl hB17.range rfl ?_
        refine ⟨_, rfl, hb32, vo1, ?_, ?_, ?_⟩
        · rw [of_yes hl_ok (by omega) (by omega)]
        · rw [of_yes hl_ok (by omega) (by omega), canT, ← hT1]; exact hO14.sl
        · rw [of_yes hl_ok (by omega) (by omega), canT, ← hT1]; have q1_ := hp1.cnt; have q2_ := hp1.len; simp only; omega

theorem grow_any {va : Value} {l : List Nd} {F : Nat → Prop} {w : World} (hl : Sl Kd.node w F va l) {level : Int} (hl1 : 1 ≤ l.length) (hll : l.length ≤ 100000) (hlv : 0 ≤ (lastN' l).lv ∧ (lastN' l).lv ≤ 1329) (hle : level ≤ 1329) :
    Calls Try.prog 32 [.agg [va].toArray, .int .i64 level].toArray w (Pure w fun v w' => ∃ sv, v = .tuple #[sv, .int .i64 ((growF (level - (lastN' l).lv).toNat l).length : Int)] ∧ Sl Kd.node w' (fun _ => False) sv (growF (level - (lastN' l).lv).toNat l)) := by
  have hb0 := Below.refl w.heap.size w
  have hln0 := hl.lenle
  refine enter Try.func32 rfl rfl ?_
  refine w_seq ?_
  refine w_region ?_
  refine st (s_box rfl ?_)
  intro g1 w1 hg1 hB1 k1 hs1
  have hb1 := below_g0 hb0 k1
  refine st (s_assign rfl ?_)
  refine st (s_assign rfl ?_)
  refine r_end ?_
  refine n_then ?_
  refine w_seq ?_
  refine w_region ?_
  refine st (s_faddr fld27_0 rfl ?_)
  refine st (s_load one22 rfl hB1.range (j := 0) rfl ?_)
  refine st (s_call fn42 rfl (clone_any (hl.at0 hb1) (by omega)) ?_)
  rintro v1 w2 ⟨hq1, hS1⟩
  have k2 := grown_of_below hq1 none
  have hO1 := Own.rebase hS1 hb1.size
  have hb2 := below_g0 hb1 k2
  have hz1 := hb2.size
  refine st (s_assign rfl ?_)
  refine r_end ?_
  refine n_then ?_
  refine w_seq ?_
  refine w_region ?_
  refine st (s_move rfl ?_)
  refine st (s_len sl22 rfl hO1.sl ?_)
  refine st (s_assign rfl ?_)
  refine r_end ?_
  refine n_then ?_
  refine w_seq ?_
  refine w_seq ?_
  refine w_region ?_
  refine st (s_move rfl ?_)
  refine st (s_eq rfl rfl ?_)
  refine st (s_move rfl ?_)
  refine r_caseP 20 rfl (fun h1 => ?_) (fun h1 => ?_)
  · refine s_pass rfl rfl ?_
    refine s_pass rfl rfl ?_
    refine st (s_pick rfl rfl ?_)
    refine r_end ?_
    refine n_then ?_
    refine w_condT rfl ?_
    refine w_seq ?_
    refine w_region ?_
    refine st (s_move rfl ?_)
    refine st (s_move rfl ?_)
    refine st (s_assign rfl ?_)
    refine st (s_assign rfl ?_)
    refine r_end ?_
    refine n_then ?_
    refine w_ret2 rfl rfl rfl ?_
    exfalso
    omega
  · refine stg (s_move rfl ?_)
    refine stg (s_gt rfl rfl ?_)
    refine st (s_pick rfl rfl ?_)
    refine r_end ?_
    refine n_then ?_
    refine w_condP rfl (fun h2 => ?_) (fun h2 => ?_)
    · refine w_seq ?_
      refine w_region ?_
      refine st (s_move rfl ?_)
      refine st (s_move rfl ?_)
      refine st (s_assign rfl ?_)
      refine st (s_assign rfl ?_)
      refine r_end ?_
      refine n_then ?_
      refine w_ret2 rfl rfl rfl ?_
      exfalso
      omega
    · have hl13 := h2
      refine w_skip' ?_
      refine n_then ?_
      refine w_seq ?_
      refine w_seq ?_
      refine w_region ?_
      refine st (s_move rfl ?_)
      refine st (s_move rfl ?_)
      refine st (s_sub rfl rfl (by omega) ?_)
      refine st (s_idx sl22 rfl rfl hO1.sl (by omega) (by omega) ?_)
      rintro b1 o1 _ ⟨rfl, _⟩ hc1 hF1 hlt1
      refine st (s_loadW row35 rfl hc1 rfl ?_)
      refine st (s_alloc zero35 ?_)
      intro g2 w3 hg2 hB2 k3 hs2
      have hn1 := own_new hO1 hg2
      have hb3 := below_g0 hb2 k3
      have hO2 := hO1.g0 k3
      refine st0 (s_storeN row35 rfl rfl hB2 rfl rfl rfl ?_)
      intro w4 hB3 k4 hs3
      have hb4 := below_g hb3 k4 (by omega)
      have hO3 := Own.keptN node_flat hO2 k4 hn1
      clear hB2
      refine r_end ?_
      refine n_then ?_
      refine w_block ?_
      refine w_loop (α := List Nd × Value × Nat) (fun ((o, vk, go) : List Nd × Value × Nat) => [(1, .int .i64 level), (4, .slice none 0 0), (5, .int .i64 0), (6, vk), (7, .int .i64 (o.length : Int)), (8, .pointer (some ⟨go, 0, none⟩))]) (fun ((o, vk, go) : List Nd × Value × Nat) W => Below w.heap.size w W ∧ (1 ≤ o.length ∧ (o.length : Int) ≤ l.length + 5 * (lastN' o).lv ∧ 0 ≤ (lastN' o).lv ∧ (lastN' o).lv ≤ 1329) ∧ (growF (level - (lastN' o).lv).toNat o = growF (level - (lastN' l).lv).toNat l) ∧ (Blk W go 35 [.int .i64 ((lastN' o).lv), .int .i64 ((lastN' o).k0), .int .i64 ((lastN' o).k1), .int .i64 ((lastN' o).k2), .int .i64 ((lastN' o).k3)].toArray) ∧ (Own Kd.node 35 w.heap.size W (fun _ => False) vk (o)) ∧ (vk.ownBlock ≠ some go)) (fun ((o, vk, go) : List Nd × Value × Nat) => (level - (lastN' o).lv).toNat) ((l), (v1), (g2)) ⟨hb4, by omega, rfl, hB3, hO3, hn1⟩ (by exact ⟨rfl, rfl, rfl, rfl, rfl, rfl, trivial⟩) ?_
      rintro ⟨o, vk, go⟩ w5 ⟨hb5, hoo, hgf, hBo, hOo, hno⟩
      dsimp only at *
      have hz2 := hb5.size
      have hgol := hBo.lt
      refine w_seq ?_
      refine w_seq ?_
      refine w_region ?_
      refine st (s_faddr fld35_0 rfl ?_)
      refine st (s_load one3 rfl hBo.range (j := 0) rfl ?_)
      refine st (s_move rfl ?_)
      refine st (s_lt rfl rfl ?_)
      refine r_end ?_
      refine n_then ?_
      refine w_condP rfl (fun h3 => ?_) (fun h3 => ?_)
      · have hlt := h3
        refine w_skip' ?_
        refine n_then ?_
        refine w_seq ?_
        refine w_block ?_
        refine w_seq ?_
        refine w_region ?_
        refine st (s_faddr fld35_0 rfl ?_)
        refine st (s_load one3 rfl hBo.range (j := 0) rfl ?_)
        refine st (s_add rfl rfl (by omega) ?_)
        refine st (s_build (ps := [(0, .tmp 42)]) (ccs := [#[.int .i64 ((lastN' o).lv + 1)]]) (cells := [.int .i64 ((lastN' o).lv + 1), .int .i64 0, .int .i64 0, .int .i64 0, .int .i64 0]) rfl rfl (by kernel_rfl) ?_)
        refine st (s_alloc zero35 ?_)
        intro g3 w6 hg3 hB4 k5 hs4
        have hn2 := own_new hOo hg3
        have hb6 := below_g0 hb5 k5
        have hO4 := hOo.g0 k5
        refine st0 (s_storeN row35 rfl rfl hB4 rfl rfl rfl ?_)
        intro w7 hB5 k6 hs5
        have hb7 := below_g hb6 k6 (by omega)
        have hO5 := Own.keptN node_flat hO4 k6 hn2
        clear hB4
        refine r_end ?_
        refine n_then ?_
        refine w_seq ?_
        refine w_seq ?_
        refine w_region ?_
        refine st (s_faddr fld35_1 rfl ?_)
        refine st (s_loadN (us := [.int .i64 ((lastN' o).k0), .int .i64 ((lastN' o).k1), .int .i64 ((lastN' o).k2), .int .i64 ((lastN' o).k3)]) row33 rfl ((hBo.g0 k5).gne k6 (by omega)).range (j := 1) rfl rfl ?_)
        refine st (s_move rfl ?_)
        refine r_end ?_
        refine n_then ?_
        refine w_block ?_
        refine w_loop (α := Int × List Nd × Value × Int × Int × Int × Int) (fun ((k, ok, vj, a, b, c, e) : Int × List Nd × Value × Int × Int × Int × Int) => [(1, .int .i64 level), (4, .slice none 0 0), (5, .int .i64 0), (6, vj), (7, .int .i64 (o.length : Int)), (8, .pointer (some ⟨go, 0, none⟩)), (9, .pointer (some ⟨g3, 0, none⟩)), (45, .agg [.int .i64 ((lastN' o).k0), .int .i64 ((lastN' o).k1), .int .i64 ((lastN' o).k2), .int .i64 ((lastN' o).k3)].toArray), (46, .int .i64 k)]) (fun ((k, ok, vj, a, b, c, e) : Int × List Nd × Value × Int × Int × Int × Int) W => Below w.heap.size w W ∧ (0 ≤ k ∧ k ≤ 4) ∧ ((ok, a, b, c, e) = grS (lastN' o) o k.toNat) ∧ ((ok.length : Int) ≤ o.length + k) ∧ (Blk W g3 35 [.int .i64 ((lastN' o).lv + 1), .int .i64 a, .int .i64 b, .int .i64 c, .int .i64 e].toArray) ∧ (Blk W go 35 [.int .i64 ((lastN' o).lv), .int .i64 ((lastN' o).k0), .int .i64 ((lastN' o).k1), .int .i64 ((lastN' o).k2), .int .i64 ((lastN' o).k3)].toArray) ∧ (Own Kd.node 35 w.heap.size W (fun _ => False) vj (ok)) ∧ (vj.ownBlock ≠ some g3) ∧ (vj.ownBlock ≠ some go)) (fun ((k, ok, vj, a, b, c, e) : Int × List Nd × Value × Int × Int × Int × Int) => (4 - k).toNat) ((0), (o), (vk), (0), (0), (0), (0)) ⟨hb7, by omega, rfl, by omega, hB5, ((hBo.g0 k5).gne k6 (by omega)), hO5, hn2, hno⟩ (by exact ⟨rfl, rfl, rfl, rfl, rfl, rfl, rfl, rfl, rfl, trivial⟩) ?_
        rintro ⟨k, ok, vj, a, b, c, e⟩ w8 ⟨hb8, hk, hgs, hokl, hBx, hBo2, hOj, hnx, hno2⟩
        dsimp only at *
        have hz3 := hb8.size
        have hgol2 := hBo2.lt
        have hgxl2 := hBx.lt
        refine w_seq ?_
        refine w_region ?_
        refine st (s_lt rfl rfl ?_)
        refine r_end ?_
        refine n_then ?_
        refine w_seq ?_
        refine w_condP rfl (fun h4 => ?_) (fun h4 => ?_)
        · refine w_skip' ?_
          refine n_then ?_
          refine w_seq ?_
          refine w_block ?_
          refine w_seq ?_
          refine w_region ?_
          refine st (s_move rfl ?_)
          refine st (s_iarr4 arr33 one3 rfl rfl (by omega) (by omega) ?_)
          refine st (s_assign rfl ?_)
          refine st (s_assign rfl ?_)
          refine r_end ?_
          refine n_then ?_
          refine w_seq ?_
          refine w_seq ?_
          refine w_region ?_
          refine st (s_move rfl ?_)
          refine st (s_eq rfl rfl ?_)
          refine r_end ?_
          refine n_then ?_
          refine w_condP rfl (fun h5 => ?_) (fun h5 => ?_)
          · refine w_exit' ?_
            refine n_then_exit ?_
            refine n_block_exit ?_
            refine n_then ?_
            refine w_region ?_
            refine st (s_add rfl rfl (by omega) ?_)
            refine st (s_move rfl ?_)
            refine r_end ?_
            exact n_round (((k + 1)), (ok), (vj), (a), (b), (c), (e)) ⟨hb8, by dsimp only; first | omega | (simp; omega), grS_step hk.1 hgs (by unfold Nd.kid; exact h5), by dsimp only; first | omega | (simp; omega), hBx, hBo2, hOj, hnx, hno2⟩ (by omega) (by exact ⟨rfl, rfl, rfl, rfl, rfl, rfl, rfl, rfl, rfl, trivial⟩)
          · refine w_skip' ?_
            refine n_then ?_
            refine w_seq ?_
            refine w_region ?_
            refine st (s_faddr fld35_0 rfl ?_)
            refine st (s_load one3 rfl hBo2.range (j := 0) rfl ?_)
            refine st (s_build (ps := [(0, .tmp 53)]) (ccs := [#[.int .i64 ((lastN' o).lv)]]) (cells := [.int .i64 ((lastN' o).lv), .int .i64 0, .int .i64 0, .int .i64 0, .int .i64 0]) rfl rfl (by kernel_rfl) ?_)
            refine st (s_alloc zero35 ?_)
            intro g4 w9 hg4 hB6 k7 hs6
            have hn3 := own_new hOj hg4
            have hb9 := below_g0 hb8 k7
            have hO6 := hOj.g0 k7
            refine st0 (s_storeN row35 rfl rfl hB6 rfl rfl rfl ?_)
            intro w10 hB7 k8 hs7
            have hb10 := below_g hb9 k8 (by omega)
            have hO7 := Own.keptN node_flat hO6 k8 hn3
            clear hB6
            refine r_end ?_
            refine n_then ?_
            refine w_seq ?_
            refine w_region ?_
            refine st (s_move rfl ?_)
            refine st (s_sub rfl rfl (by omega) ?_)
            refine st (s_move rfl ?_)
            refine st (s_faddr fld35_1 rfl ?_)
            refine st (s_iaddr arr33 rfl rfl (by omega) (by omega) ?_)
            refine st0 (s_storeK one3 rfl rfl hB7 (by omega) (by omega) ?_)
            intro w11 hB8 k9 hs8
            have hb11 := below_g hb10 k9 (by omega)
            have hO8 := Own.keptN node_flat hO7 k9 hn3
            clear hB7
            refine r_end ?_
            refine n_then ?_
            refine w_seq ?_
            refine w_region ?_
            refine st (s_move rfl ?_)
            refine st (s_loadW row35 rfl hB8.range rfl ?_)
            refine st (s_bslice (ps := [(0, .tmp 61)]) (ccs := [#[.int .i64 ((lastN' o).lv), .int .i64 (if (3 - k) = 0 then (sel4 ((lastN' o).k0) ((lastN' o).k1) ((lastN' o).k2) ((lastN' o).k3) k) else 0), .int .i64 (if (3 - k) = 1 then (sel4 ((lastN' o).k0) ((lastN' o).k1) ((lastN' o).k2) ((lastN' o).k3) k) else 0), .int .i64 (if (3 - k) = 2 then (sel4 ((lastN' o).k0) ((lastN' o).k1) ((lastN' o).k2) ((lastN' o).k3) k) else 0), .int .i64 (if (3 - k) = 3 then (sel4 ((lastN' o).k0) ((lastN' o).k1) ((lastN' o).k2) ((lastN' o).k3) k) else 0)]]) (e := 35) (cells := [.int .i64 ((lastN' o).lv), .int .i64 (if (3 - k) = 0 then (sel4 ((lastN' o).k0) ((lastN' o).k1) ((lastN' o).k2) ((lastN' o).k3) k) else 0), .int .i64 (if (3 - k) = 1 then (sel4 ((lastN' o).k0) ((lastN' o).k1) ((lastN' o).k2) ((lastN' o).k3) k) else 0), .int .i64 (if (3 - k) = 2 then (sel4 ((lastN' o).k0) ((lastN' o).k1) ((lastN' o).k2) ((lastN' o).k3) k) else 0), .int .i64 (if (3 - k) = 3 then (sel4 ((lastN' o).k0) ((lastN' o).k1) ((lastN' o).k2) ((lastN' o).k3) k) else 0)]) rfl rfl (by kernel_rfl) (by decide) nz35 ?_)
            intro g5 w12 hg5 hB9 k10 hs9
            have hb12 := below_g0 hb11 k10
            have hz4 := hb12.size
            have hO9 := hO8.g0 k10
            have hS2 := lit_nodes (F := fun _ => False) ([⟨(lastN' o).lv, (if (3 - k) = 0 then (sel4 ((lastN' o).k0) ((lastN' o).k1) ((lastN' o).k2) ((lastN' o).k3) k) else 0), (if (3 - k) = 1 then (sel4 ((lastN' o).k0) ((lastN' o).k1) ((lastN' o).k2) ((lastN' o).k3) k) else 0), (if (3 - k) = 2 then (sel4 ((lastN' o).k0) ((lastN' o).k1) ((lastN' o).k2) ((lastN' o).k3) k) else 0), (if (3 - k) = 3 then (sel4 ((lastN' o).k0) ((lastN' o).k1) ((lastN' o).k2) ((lastN' o).k3) k) else 0)⟩] : List Nd) hB9 (fun h => h) rfl (by first | decide | simp)
            refine st (s_append (K := Kd.node) sl22 rfl rfl hO9 (lit_nodes (F := Out (fun _ => False) vj) ([⟨(lastN' o).lv, (if (3 - k) = 0 then (sel4 ((lastN' o).k0) ((lastN' o).k1) ((lastN' o).k2) ((lastN' o).k3) k) else 0), (if (3 - k) = 1 then (sel4 ((lastN' o).k0) ((lastN' o).k1) ((lastN' o).k2) ((lastN' o).k3) k) else 0), (if (3 - k) = 2 then (sel4 ((lastN' o).k0) ((lastN' o).k1) ((lastN' o).k2) ((lastN' o).k3) k) else 0), (if (3 - k) = 3 then (sel4 ((lastN' o).k0) ((lastN' o).k1) ((lastN' o).k2) ((lastN' o).k3) k) else 0)⟩] : List Nd) hB9 (fun h => h.elim id (fun h => by have h9 := (hO8.lt _ h).2; omega)) rfl (by first | decide | simp)) node_ones (by simp; omega) (by simp; omega) (by first | exact Nat.le_refl _ | omega) (fun _ h => h.elim) ?_)
            intro v2 w13 hO10 k11 hr2
            have hn4 := own_app hnx hr2 (by have := ((((hBx.g0 k7).gne k8 (by omega)).gne k9 (by omega)).g0 k10).lt; omega)
            have hn5 := own_app hno2 hr2 (by have := ((((hBo2.g0 k7).gne k8 (by omega)).gne k9 (by omega)).g0 k10).lt; omega)
            have hn6 := own_app hn3 hr2 (by have := (hB8.g0 k10).lt; omega)
            have hb13 := hb12.grown k11 hb12.size (fun k_ hk_ => (hO9.lt k_ hk_).1)
            have hz5 := hb13.size
            refine st (s_assign rfl ?_)
            refine r_end ?_
            refine n_then ?_
            refine w_region ?_
            refine st (s_move rfl ?_)
            refine st (s_move rfl ?_)
            refine st (s_len sl22 rfl hO10.sl ?_)
            refine st (s_faddr fld35_1 rfl ?_)
            refine st (s_iaddr arr33 rfl rfl (by omega) (by omega) ?_)
            refine st0 (s_storeK one3 rfl rfl (((((hBx.g0 k7).gne k8 (by omega)).gne k9 (by omega)).g0 k10).grown k11 (fun e => hnx e.symm)) (by omega) (by omega) ?_)
            intro w14 hB10 k12 hs10
            have hb14 := below_g hb13 k12 (by omega)
            have hO11 := Own.keptN node_flat hO10 k12 hn4
            refine r_end ?_
            refine n_block ?_
            refine n_then ?_
            refine w_region ?_
            refine st (s_add rfl rfl (by omega) ?_)
            refine st (s_move rfl ?_)
            refine r_end ?_
            exact n_round (((k + 1)), (ok ++ ([⟨(lastN' o).lv, (if (3 - k) = 0 then (sel4 ((lastN' o).k0) ((lastN' o).k1) ((lastN' o).k2) ((lastN' o).k3) k) else 0), (if (3 - k) = 1 then (sel4 ((lastN' o).k0) ((lastN' o).k1) ((lastN' o).k2) ((lastN' o).k3) k) else 0), (if (3 - k) = 2 then (sel4 ((lastN' o).k0) ((lastN' o).k1) ((lastN' o).k2) ((lastN' o).k3) k) else 0), (if (3 - k) = 3 then (sel4 ((lastN' o).k0) ((lastN' o).k1) ((lastN' o).k2) ((lastN' o).k3) k) else 0)⟩] : List Nd)), (v2), ((if k = 0 then ((ok ++ ([⟨(lastN' o).lv, (if (3 - k) = 0 then (sel4 ((lastN' o).k0) ((lastN' o).k1) ((lastN' o).k2) ((lastN' o).k3) k) else 0), (if (3 - k) = 1 then (sel4 ((lastN' o).k0) ((lastN' o).k1) ((lastN' o).k2) ((lastN' o).k3) k) else 0), (if (3 - k) = 2 then (sel4 ((lastN' o).k0) ((lastN' o).k1) ((lastN' o).k2) ((lastN' o).k3) k) else 0), (if (3 - k) = 3 then (sel4 ((lastN' o).k0) ((lastN' o).k1) ((lastN' o).k2) ((lastN' o).k3) k) else 0)⟩] : List Nd)).length : Int) else a)), ((if k = 1 then ((ok ++ ([⟨(lastN' o).lv, (if (3 - k) = 0 then (sel4 ((lastN' o).k0) ((lastN' o).k1) ((lastN' o).k2) ((lastN' o).k3) k) else 0), (if (3 - k) = 1 then (sel4 ((lastN' o).k0) ((lastN' o).k1) ((lastN' o).k2) ((lastN' o).k3) k) else 0), (if (3 - k) = 2 then (sel4 ((lastN' o).k0) ((lastN' o).k1) ((lastN' o).k2) ((lastN' o).k3) k) else 0), (if (3 - k) = 3 then (sel4 ((lastN' o).k0) ((lastN' o).k1) ((lastN' o).k2) ((lastN' o).k3) k) else 0)⟩] : List Nd)).length : Int) else b)), ((if k = 2 then ((ok ++ ([⟨(lastN' o).lv, (if (3 - k) = 0 then (sel4 ((lastN' o).k0) ((lastN' o).k1) ((lastN' o).k2) ((lastN' o).k3) k) else 0), (if (3 - k) = 1 then (sel4 ((lastN' o).k0) ((lastN' o).k1) ((lastN' o).k2) ((lastN' o).k3) k) else 0), (if (3 - k) = 2 then (sel4 ((lastN' o).k0) ((lastN' o).k1) ((lastN' o).k2) ((lastN' o).k3) k) else 0), (if (3 - k) = 3 then (sel4 ((lastN' o).k0) ((lastN' o).k1) ((lastN' o).k2) ((lastN' o).k3) k) else 0)⟩] : List Nd)).length : Int) else c)), ((if k = 3 then ((ok ++ ([⟨(lastN' o).lv, (if (3 - k) = 0 then (sel4 ((lastN' o).k0) ((lastN' o).k1) ((lastN' o).k2) ((lastN' o).k3) k) else 0), (if (3 - k) = 1 then (sel4 ((lastN' o).k0) ((lastN' o).k1) ((lastN' o).k2) ((lastN' o).k3) k) else 0), (if (3 - k) = 2 then (sel4 ((lastN' o).k0) ((lastN' o).k1) ((lastN' o).k2) ((lastN' o).k3) k) else 0), (if (3 - k) = 3 then (sel4 ((lastN' o).k0) ((lastN' o).k1) ((lastN' o).k2) ((lastN' o).k3) k) else 0)⟩] : List Nd)).length : Int) else e))) ⟨hb14, by dsimp only; first | omega | (simp; omega), grS_put hk.1 hgs (by unfold Nd.kid; exact h5), by dsimp only; first | omega | (simp; omega), hB10, ((((((hBo2.g0 k7).gne k8 (by omega)).gne k9 (by omega)).g0 k10).grown k11 (fun e => hno2 e.symm)).gne k12 (by omega)), hO11, hn4, hn5⟩ (by omega) (by exact ⟨rfl, rfl, rfl, rfl, rfl, rfl, rfl, rfl, rfl, trivial⟩)
        · refine w_exit' ?_
          refine n_then_exit ?_
          refine n_then_exit ?_
          refine n_block_exit ?_
          refine n_then ?_
          refine w_seq ?_
          refine w_region ?_
          refine st (s_move rfl ?_)
          refine st (s_loadW row35 rfl hBx.range rfl ?_)
          refine st (s_bslice (ps := [(0, .tmp 71)]) (ccs := [#[.int .i64 ((lastN' o).lv + 1), .int .i64 a, .int .i64 b, .int .i64 c, .int .i64 e]]) (e := 35) (cells := [.int .i64 ((lastN' o).lv + 1), .int .i64 a, .int .i64 b, .int .i64 c, .int .i64 e]) rfl rfl (by kernel_rfl) (by decide) nz35 ?_)
          intro g6 w15 hg6 hB11 k13 hs11
          have hb15 := below_g0 hb8 k13
          have hz6 := hb15.size
          have hO12 := hOj.g0 k13
          have hS3 := lit_nodes (F := fun _ => False) ([⟨((lastN' o).lv + 1), a, b, c, e⟩] : List Nd) hB11 (fun h => h) rfl (by first | decide | simp)
          refine st (s_append (K := Kd.node) sl22 rfl rfl hO12 (lit_nodes (F := Out (fun _ => False) vj) ([⟨((lastN' o).lv + 1), a, b, c, e⟩] : List Nd) hB11 (fun h => h.elim id (fun h => by have h9 := (hOj.lt _ h).2; omega)) rfl (by first | decide | simp)) node_ones (by simp; omega) (by simp; omega) (by first | exact Nat.le_refl _ | omega) (fun _ h => h.elim) ?_)
          intro v3 w16 hO13 k14 hr3
          have hn7 := own_app hnx hr3 (by have := (hBx.g0 k13).lt; omega)
          have hn8 := own_app hno2 hr3 (by have := (hBo2.g0 k13).lt; omega)
          have hb16 := hb15.grown k14 hb15.size (fun k_ hk_ => (hO12.lt k_ hk_).1)
          have hz7 := hb16.size
          refine st (s_assign rfl ?_)
          refine r_end ?_
          refine n_then ?_
          refine w_region ?_
          refine st (s_move rfl ?_)
          refine st (s_len sl22 rfl hO13.sl ?_)
          refine st (s_assign rfl ?_)
          refine r_end ?_
          refine n_block ?_
          refine n_then ?_
          refine w_seq ?_
          refine w_seq ?_
          refine w_region ?_
          refine st (s_loadW row35 rfl ((hBo2.g0 k13).grown k14 (fun e => hno2 e.symm)).range rfl ?_)
          refine r_end ?_
          refine n_then ?_
          refine w_region ?_
          refine st (s_alloc zero35 ?_)
          intro g7 w17 hg7 hB12 k15 hs12
          have hn9 := own_new hO13 hg7
          have hb17 := below_g0 hb16 k15
          have hO14 := hO13.g0 k15
          refine st0 (s_storeN row35 rfl rfl hB12 rfl rfl rfl ?_)
          intro w18 hB13 k16 hs13
          have hb18 := below_g hb17 k16 (by omega)
          have hO15 := Own.keptN node_flat hO14 k16 hn9
          clear hB12
          refine r_end ?_
          refine n_then ?_
          refine w_region ?_
          have hlx9 : ((ok ++ ([⟨((lastN' o).lv + 1), a, b, c, e⟩] : List Nd)).length : Int) = ok.length + 1 := by simp
          refine st (s_move rfl ?_)
          refine st (s_move rfl ?_)
          refine st (s_sub rfl rfl (by omega) ?_)
          refine st (s_idx sl22 rfl rfl hO15.sl (by omega) (by omega) ?_)
          rintro b2 o2 _ ⟨rfl, _⟩ hc2 hF2 hlt2
          refine st (s_loadW row35 rfl hc2 rfl ?_)
          refine st0 (s_storeN row35 rfl rfl hB13 rfl rfl rfl ?_)
          intro w19 hB14 k17 hs14
          have hb19 := below_g hb18 k17 (by omega)
          have hO16 := Own.keptN node_flat hO15 k17 hn9
          clear hB13
          refine r_end ?_
          have hgs4 : (ok, a, b, c, e) = grS (lastN' o) o 4 := by rw [(by omega : k = 4)] at hgs; exact hgs
          have hgr := grow_round (level := level) hgs4 hlt
          have hll9 : ((ok ++ ([⟨((lastN' o).lv + 1), a, b, c, e⟩] : List Nd)).length : Int) = ok.length + 1 := by simp
          have hla9 := grow_last (o := ok) (x := ⟨(lastN' o).lv + 1, a, b, c, e⟩)
          exact n_round ((ok ++ ([⟨((lastN' o).lv + 1), a, b, c, e⟩] : List Nd)), (v3), (g7)) ⟨hb19, by dsimp only; rw [hla9]; simp only; omega, by dsimp only; rw [hgr]; exact hgf, by dsimp only; have hq9 := hB14; rw [show ix (ok ++ ([⟨((lastN' o).lv + 1), a, b, c, e⟩] : List Nd)) (((ok ++ ([⟨((lastN' o).lv + 1), a, b, c, e⟩] : List Nd)).length : Int) - 1) = _ from hla9] at hq9; rw [hla9]; exact hq9, hO16, hn9⟩ (by dsimp only; rw [hla9]; simp only; omega) (by exact ⟨rfl, rfl, rfl, rfl, rfl, rfl, trivial⟩)
      · refine w_exit' ?_
        refine n_then_exit ?_
        refine n_then_exit ?_
        refine n_block_exit ?_
        refine n_then ?_
        refine w_seq ?_
        refine w_region ?_
        refine st (s_move rfl ?_)
        refine st (s_move rfl ?_)
        refine st (s_assign rfl ?_)
        refine st (s_assign rfl ?_)
        refine r_end ?_
        refine n_then ?_
        refine w_ret2 rfl rfl rfl ?_
        rw [grow_end h3] at hgf
        subst hgf
        refine ⟨_, rfl, hb5, _, rfl, hOo.sl⟩
end Go.Proofs.Ytdeiiagkbbimhaa
