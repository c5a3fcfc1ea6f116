/- Part of the proof that is named in YtdeiiagkbbimhaaNRowCanJust: a library for walks, or a function's walk. -/
import Derived.Test.YtdeiiagkbbimhaaNQ
set_option maxRecDepth 20000
set_option linter.unusedSimpArgs false
set_option linter.unusedVariables false
namespace Go.Proofs.Ytdeiiagkbbimhaa
open Go.RowKit Go.Gw
theorem emptiesO_any {va : Value} {l : List Nd} {F : Nat → Prop} {w : World} (hl : Sl Kd.node w F va l) (hl_ok : looseB l = true) (hll : l.length ≤ 1000000) :
    Calls Try.prog 29 [va].toArray w (Pure w fun v w' => Own Kd.bool 4 w.heap.size w' (fun _ => False) v (emptL l)) := by
  have hb0 := Below.refl w.heap.size w
  have hln1 := hl.lenle
  refine enter Try.func29 rfl rfl ?_
  refine w_seq ?_
  refine w_region ?_
  refine st (s_assign rfl ?_)
  refine r_end ?_
  refine n_then ?_
  refine w_seq ?_
  refine w_region ?_
  refine st (s_move rfl ?_)
  refine st (s_len sl22 rfl (hl.at0 hb0) ?_)
  refine st (s_add rfl rfl (by omega) ?_)
  refine st (s_make (K := Kd.bool) (base := w.heap.size) (F := (fun _ => False)) sl43 rfl (by omega) (by omega) (by omega) (fun _ _ => ⟨rfl, trivial⟩) (by omega) (fun _ h => h.elim) ?_)
  intro v1 w1 hO1 k1
  have hb1 := below_g0 hb0 k1
  have hz1 := hb1.size
  refine st (s_assign rfl ?_)
  refine r_end ?_
  refine n_then ?_
  refine w_seq ?_
  refine w_region ?_
  refine st (s_move rfl ?_)
  refine st (s_oidx sl43 rfl rfl hO1 (by omega) (by first | (rw [List.length_replicate]; omega) | (rw [partE_length l i hi.1 (by omega)]; omega)) ?_)
  intro g1 hg1 hl_1 hl_2
  refine st0 (s_ostore one4 rfl rfl rfl rfl hO1 hg1 (by omega) (by first | (rw [List.length_replicate]; omega) | (rw [partE_length l i hi.1 (by omega)]; omega)) ⟨rfl, trivial⟩ ?_)
  intro w2 hO2 k2 hs1
  have hb2 := below_g hb1 k2 (by omega)
  refine r_end ?_
  refine n_then ?_
  refine w_seq ?_
  refine w_seq ?_
  refine w_region ?_
  refine st (s_assign rfl ?_)
  refine r_end ?_
  refine n_then ?_
  refine w_block ?_
  refine w_loop (α := Int) (fun (i : Int) => [(0, va), (2, .slice none 0 0), (3, v1), (4, .int .i64 i)]) (fun (i : Int) W => Below w.heap.size w W ∧ (0 ≤ i ∧ i ≤ l.length) ∧ (Own Kd.bool 4 w.heap.size W (fun _ => False) v1 (partE l i))) (fun (i : Int) => (l.length - i).toNat) (0) ⟨hb2, by omega, by rw [← partE_zero]; exact hO2⟩ (by exact ⟨rfl, rfl, rfl, rfl, trivial⟩) ?_
  rintro i w3 ⟨hb3, hi, hO⟩
  have hz2 := hb3.size
  refine w_seq ?_
  refine w_seq ?_
  refine w_region ?_
  refine st (s_move rfl ?_)
  refine st (s_move rfl ?_)
  refine st (s_len sl22 rfl (hl.at0 hb3) ?_)
  refine st (s_lt rfl rfl ?_)
  refine r_end ?_
  refine n_then ?_
  refine w_condP rfl (fun h1 => ?_) (fun h1 => ?_)
  · have hlt := h1
    refine w_skip' ?_
    refine n_then ?_
    refine w_seq ?_
    refine w_block ?_
    refine w_seq ?_
    refine w_region ?_
    refine st (s_assign rfl ?_)
    refine r_end ?_
    refine n_then ?_
    refine w_seq ?_
    refine w_seq ?_
    refine w_region ?_
    refine st (s_assign rfl ?_)
    refine r_end ?_
    refine n_then ?_
    refine w_block ?_
    refine w_loop (α := Int × Bool) (fun ((k, em) : Int × Bool) => [(0, va), (2, .slice none 0 0), (3, v1), (4, .int .i64 i), (5, .bool em), (6, .int .i64 k)]) (fun ((k, em) : Int × Bool) W => Below w.heap.size w W ∧ (0 ≤ k ∧ k ≤ 4) ∧ (em = emptK (ix l i) (partE l i) k) ∧ (Own Kd.bool 4 w.heap.size W (fun _ => False) v1 (partE l i))) (fun ((k, em) : Int × Bool) => (4 - k).toNat) ((0), (true)) ⟨hb3, by omega, by rw [emptK_zero], hO⟩ (by exact ⟨rfl, rfl, rfl, rfl, rfl, rfl, trivial⟩) ?_
    rintro ⟨k, em⟩ w4 ⟨hb4, hk, he, hO2⟩
    dsimp only at *
    have hz3 := hb4.size
    refine w_seq ?_
    refine w_seq ?_
    refine w_region ?_
    refine st (s_move rfl ?_)
    refine st (s_lt rfl rfl ?_)
    refine r_end ?_
    refine n_then ?_
    refine w_condP rfl (fun h2 => ?_) (fun h2 => ?_)
    · refine w_skip' ?_
      refine n_then ?_
      refine w_seq ?_
      refine w_block ?_
      refine w_seq ?_
      refine w_region ?_
      refine st (s_move rfl ?_)
      refine st (s_move rfl ?_)
      refine st (s_move rfl ?_)
      refine st (s_idx sl22 rfl rfl (hl.at0 hb4) (by omega) (by omega) ?_)
      rintro b1 o1 _ ⟨rfl, _⟩ hc1 hF1 hlt1
      have hl_3 := Loc.lt hF1
      refine st (s_faddr fld35_1 rfl ?_)
      refine st (s_iaddr arr33 rfl rfl (by omega) (by omega) ?_)
      refine st (s_load4 one3 rfl hc1 (j := 1) rfl rfl (by omega) (by omega) ?_)
      refine st (s_assign rfl ?_)
      refine r_end ?_
      refine n_then ?_
      refine w_region ?_
      refine st (s_move rfl ?_)
      refine st (s_move rfl ?_)
      refine r_case 32 rfl (fun h3 => ?_) (fun h3 => ?_)
      · refine stg (s_move rfl ?_)
        refine stg (s_eq rfl rfl ?_)
        refine stg (s_move rfl ?_)
        refine r_caseP 35 rfl (fun h4 => ?_) (fun h4 => ?_)
        · refine s_pass rfl rfl ?_
          refine s_pass rfl rfl ?_
          refine s_pass rfl rfl ?_
          refine s_pass rfl rfl ?_
          refine s_pass rfl rfl ?_
          refine s_pass rfl rfl ?_
          refine s_pass rfl rfl ?_
          refine s_passU rfl rfl ?_
          refine s_passU rfl rfl ?_
          refine s_passU rfl rfl ?_
          refine s_passU rfl rfl ?_
          refine s_pass rfl rfl ?_
          refine stg (s_pick rfl rfl ?_)
          refine st (s_pick rfl rfl ?_)
          refine st (s_assign rfl ?_)
          refine r_end ?_
          refine n_block ?_
          refine n_then ?_
          refine w_region ?_
          refine st (s_move rfl ?_)
          refine st (s_add rfl rfl (by omega) ?_)
          refine st (s_assign rfl ?_)
          refine r_end ?_
          exact n_round (((k + 1)), (true)) ⟨hb4, by omega, by rw [emptK_step _ _ _ hk.1 (by omega), ← he]; simp [Nd.kid, h1, h2, h3, h4], hO2⟩ (by omega) (by exact ⟨rfl, rfl, rfl, rfl, rfl, rfl, trivial⟩)
        · refine stg (s_move rfl ?_)
          refine stg (s_move rfl ?_)
          refine stg (s_idx sl22 rfl rfl (hl.at0 hb4) (by omega) (by omega) ?_)
          rintro b2 o2 _ ⟨rfl, _⟩ hc2 hF2 hlt2
          have hl_4 := Loc.lt hF2
          refine stg (s_faddr fld35_0 rfl ?_)
          refine stg (s_load one3 rfl hc2 (j := 0) rfl ?_)
          refine stg (s_gt rfl rfl ?_)
          refine stg (s_move rfl ?_)
          refine r_caseP 42 rfl (fun h5 => ?_) (fun h5 => ?_)
          · have hkid := kid_in hl_ok (i := i) (k := k) hi.1 hlt hk.1 (by omega) (by omega) (by simpa [Nd.kid] using h4)
            unfold Nd.kid at hkid
            have hpl := partE_length l i hi.1 (by omega)
            refine stg (s_move rfl ?_)
            refine stg (s_move rfl ?_)
            refine stg (s_idx sl43 rfl rfl hO2.sl (by omega) (by omega) ?_)
            rintro b3 o3 _ ⟨rfl, _⟩ hc3 hF3 hlt3
            refine stg (s_load one4 rfl hc3 (j := 0) rfl ?_)
            refine stg (s_pick rfl rfl ?_)
            refine stg (s_pick rfl rfl ?_)
            refine st (s_pick rfl rfl ?_)
            refine st (s_assign rfl ?_)
            refine r_end ?_
            refine n_block ?_
            refine n_then ?_
            refine w_region ?_
            refine st (s_move rfl ?_)
            refine st (s_add rfl rfl (by omega) ?_)
            refine st (s_assign rfl ?_)
            refine r_end ?_
            exact n_round (((k + 1)), ((ix (partE l i) (sel4 ((ix l i).k0) ((ix l i).k1) ((ix l i).k2) ((ix l i).k3) k)))) ⟨hb4, by omega, by rw [emptK_step _ _ _ hk.1 (by omega), ← he]; simp [Nd.kid, h2, h3, h4, h5], hO2⟩ (by omega) (by exact ⟨rfl, rfl, rfl, rfl, rfl, rfl, trivial⟩)
          · refine s_pass rfl rfl ?_
            refine s_pass rfl rfl ?_
            refine s_pass rfl rfl ?_
            refine s_pass rfl rfl ?_
            refine stg (s_pick rfl rfl ?_)
            refine stg (s_pick rfl rfl ?_)
            refine st (s_pick rfl rfl ?_)
            refine st (s_assign rfl ?_)
            refine r_end ?_
            refine n_block ?_
            refine n_then ?_
            refine w_region ?_
            refine st (s_move rfl ?_)
            refine st (s_add rfl rfl (by omega) ?_)
            refine st (s_assign rfl ?_)
            refine r_end ?_
            exact n_round (((k + 1)), (false)) ⟨hb4, by omega, by rw [emptK_step _ _ _ hk.1 (by omega), ← he]; simp [Nd.kid, h2, h3, h4, h5], hO2⟩ (by omega) (by exact ⟨rfl, rfl, rfl, rfl, rfl, rfl, trivial⟩)
      · refine s_pass rfl rfl ?_
        refine s_pass rfl rfl ?_
        refine s_pass rfl rfl ?_
        refine s_passU rfl rfl ?_
        refine s_passU rfl rfl ?_
        refine s_passU rfl rfl ?_
        refine s_passU rfl rfl ?_
        refine s_passU rfl rfl ?_
        refine s_passU rfl rfl ?_
        refine s_passU rfl rfl ?_
        refine s_passU rfl rfl ?_
        refine s_passU rfl rfl ?_
        refine s_passU rfl rfl ?_
        refine s_passU rfl rfl ?_
        refine s_passU rfl rfl ?_
        refine s_pass rfl rfl ?_
        refine st (s_pick rfl rfl ?_)
        refine st (s_assign rfl ?_)
        refine r_end ?_
        refine n_block ?_
        refine n_then ?_
        refine w_region ?_
        refine st (s_move rfl ?_)
        refine st (s_add rfl rfl (by omega) ?_)
        refine st (s_assign rfl ?_)
        refine r_end ?_
        exact n_round (((k + 1)), (false)) ⟨hb4, by omega, by rw [emptK_step _ _ _ hk.1 (by omega), ← he]; simp [Nd.kid, h1, h2, h3], hO2⟩ (by omega) (by exact ⟨rfl, rfl, rfl, rfl, rfl, rfl, trivial⟩)
    · refine w_exit' ?_
      refine n_then_exit ?_
      refine n_then_exit ?_
      refine n_block_exit ?_
      refine n_then ?_
      refine w_region ?_
      refine st (s_move rfl ?_)
      refine st (s_move rfl ?_)
      refine st (s_add rfl rfl (by omega) ?_)
      refine st (s_move rfl ?_)
      refine st (s_oidx sl43 rfl rfl hO2 (by omega) (by first | (rw [List.length_replicate]; omega) | (rw [partE_length l i hi.1 (by omega)]; omega)) ?_)
      intro g2 hg2 hl_5 hl_6
      refine st0 (s_ostore one4 rfl rfl rfl rfl hO2 hg2 (by omega) (by first | (rw [List.length_replicate]; omega) | (rw [partE_length l i hi.1 (by omega)]; omega)) ⟨rfl, trivial⟩ ?_)
      intro w5 hO3 k3 hs2
      have hb5 := below_g hb4 k3 (by omega)
      refine r_end ?_
      refine n_block ?_
      refine n_then ?_
      refine w_region ?_
      refine st (s_move rfl ?_)
      refine st (s_add rfl rfl (by omega) ?_)
      refine st (s_assign rfl ?_)
      refine r_end ?_
      exact n_round ((i + 1)) ⟨hb5, by omega, by rw [← partE_set l i hi.1 hlt (okAt_kids hl_ok hi.1 hlt) (lv_in hl_ok hi.1 hlt).1, show (4 : Int) = k by omega, ← he]; exact hO3⟩ (by omega) (by exact ⟨rfl, rfl, rfl, rfl, trivial⟩)
  · refine w_exit' ?_
    refine n_then_exit ?_
    refine n_then_exit ?_
    refine n_block_exit ?_
    refine n_then ?_
    refine w_seq ?_
    refine w_region ?_
    refine st (s_move rfl ?_)
    refine st (s_assign rfl ?_)
    refine r_end ?_
    refine n_then ?_
    refine w_ret1 rfl rfl ?_
    have e : i = (l.length : Int) := by omega
    refine ⟨_, rfl, hb3, ?_⟩
    rw [← partE_end l, ← e]
    exact hO

theorem rof_any {va : Value} {l : List Nd} {F : Nat → Prop} {w : World} (hl : Sl Kd.node w F va l) {n : Int} (hll : l.length ≤ 100000) :
    Calls Try.prog 22 [va, .int .i64 n].toArray w (Pure w fun v w' => ∃ sv, v = .tuple #[.agg #[sv], .int .i64 (ofL l n).2] ∧ Sl Kd.node w' (fun _ => False) sv (ofL l n).1) := by
  have hb0 := Below.refl w.heap.size w
  have hln1 := hl.lenle
  refine enter Try.func22 rfl rfl ?_
  refine w_seq ?_
  refine w_region ?_
  refine st (s_alloc zero27 ?_)
  intro g1 w1 hg1 hB1 k1 hs1
  have hb1 := below_g0 hb0 k1
  refine st (s_assign rfl ?_)
  refine r_end ?_
  refine n_then ?_
  refine w_seq ?_
  refine w_seq ?_
  refine w_region ?_
  refine st (s_move rfl ?_)
  refine st (s_call fn10 rfl (rloose_any (hl.at0 hb1)) ?_)
  rintro _ w2 ⟨hq1, rfl⟩
  have k2 := grown_of_below hq1 none
  have hz1 := hq1.size
  have hb2 := below_g0 hb1 k2
  have hz2 := hb2.size
  refine st (s_not rfl ?_)
  refine st (s_move rfl ?_)
  refine r_case 14 rfl (fun h1 => ?_) (fun h1 => ?_)
  · refine s_pass rfl rfl ?_
    refine s_pass rfl rfl ?_
    refine st (s_pick rfl rfl ?_)
    refine st (s_move rfl ?_)
    refine s_pass rfl rfl ?_
    refine s_pass rfl rfl ?_
    refine s_pass rfl rfl ?_
    refine s_pass rfl rfl ?_
    refine st (s_pick rfl rfl ?_)
    refine r_end ?_
    refine n_then ?_
    refine w_condT rfl ?_
    refine w_seq ?_
    refine w_region ?_
    refine st (s_build (ps := []) (ccs := []) (cells := [.slice none 0 0]) rfl rfl (by kernel_rfl) ?_)
    refine st0 (s_storeN row27 rfl rfl (hB1.g0 k2) rfl rfl rfl ?_)
    intro w3 hB2 k3 hs2
    have hb3 := below_g hb2 k3 (by omega)
    refine st (s_assign rfl ?_)
    refine r_end ?_
    refine n_then ?_
    refine w_retc2 rfl row27 rfl rfl hB2.range rfl ?_
    refine ⟨_, rfl, hb3, .slice none 0 0, ?_, ?_⟩
    · rw [of_no (by first | exact .inl (by simpa using h1) | exact .inr (by omega))]
    · rw [of_no (by first | exact .inl (by simpa using h1) | exact .inr (by omega))]; exact (Own.nil Kd.node 35 0 _ _).sl
  · have hl_ok : looseB l = true := by simpa using h1
    refine stg (s_move rfl ?_)
    refine stg (s_lt rfl rfl ?_)
    refine st (s_pick rfl rfl ?_)
    refine st (s_move rfl ?_)
    refine r_caseP 18 rfl (fun h2 => ?_) (fun h2 => ?_)
    · refine s_pass rfl rfl ?_
      refine s_pass rfl rfl ?_
      refine s_pass rfl rfl ?_
      refine s_pass rfl rfl ?_
      refine st (s_pick rfl rfl ?_)
      refine r_end ?_
      refine n_then ?_
      refine w_condT rfl ?_
      refine w_seq ?_
      refine w_region ?_
      refine st (s_build (ps := []) (ccs := []) (cells := [.slice none 0 0]) rfl rfl (by kernel_rfl) ?_)
      refine st0 (s_storeN row27 rfl rfl (hB1.g0 k2) rfl rfl rfl ?_)
      intro w4 hB3 k4 hs3
      have hb4 := below_g hb2 k4 (by omega)
      refine st (s_assign rfl ?_)
      refine r_end ?_
      refine n_then ?_
      refine w_retc2 rfl row27 rfl rfl hB3.range rfl ?_
      refine ⟨_, rfl, hb4, .slice none 0 0, ?_, ?_⟩
      · rw [of_no (by first | exact .inl (by simpa using h1) | exact .inr (by omega))]
      · rw [of_no (by first | exact .inl (by simpa using h1) | exact .inr (by omega))]; exact (Own.nil Kd.node 35 0 _ _).sl
    · refine stg (s_move rfl ?_)
      refine stg (s_move rfl ?_)
      refine stg (s_len sl22 rfl (hl.at0 hb2) ?_)
      refine stg (s_gt rfl rfl ?_)
      refine st (s_pick rfl rfl ?_)
      refine r_end ?_
      refine n_then ?_
      refine w_condP rfl (fun h3 => ?_) (fun h3 => ?_)
      · refine w_seq ?_
        refine w_region ?_
        refine st (s_build (ps := []) (ccs := []) (cells := [.slice none 0 0]) rfl rfl (by kernel_rfl) ?_)
        refine st0 (s_storeN row27 rfl rfl (hB1.g0 k2) rfl rfl rfl ?_)
        intro w5 hB4 k5 hs4
        have hb5 := below_g hb2 k5 (by omega)
        refine st (s_assign rfl ?_)
        refine r_end ?_
        refine n_then ?_
        refine w_retc2 rfl row27 rfl rfl hB4.range rfl ?_
        refine ⟨_, rfl, hb5, .slice none 0 0, ?_, ?_⟩
        · rw [of_no (by first | exact .inl (by simpa using h1) | exact .inr (by omega))]
        · rw [of_no (by first | exact .inl (by simpa using h1) | exact .inr (by omega))]; exact (Own.nil Kd.node 35 0 _ _).sl
      · refine w_skip' ?_
        refine n_then ?_
        refine w_seq ?_
        refine w_region ?_
        refine st (s_move rfl ?_)
        refine st (s_move rfl ?_)
        refine st (s_call fn36 rfl (rshrink_any (n0 := n) (hl.at0 hb2) hl_ok hll (by omega) (by omega)) ?_)
        rintro _ w6 ⟨hq2, L1, n1, v1, rfl, hS1, hLok1, hn1, hn2, hT1, hH1, hLl1⟩
        have k6 := grown_of_below hq2 none
        have hz3 := hq2.size
        have hO1 := Own.rebase hS1 hb2.size
        have hb6 := below_g0 hb2 k6
        have hz4 := hb6.size
        have hlen9 := emptL_length L1
        refine st (s_move rfl ?_)
        refine st (s_extract rfl rfl ?_)
        refine st (s_extract rfl rfl ?_)
        refine st (s_assign rfl ?_)
        refine st (s_assign rfl ?_)
        refine r_end ?_
        refine n_then ?_
        refine w_seq ?_
        refine w_drawC 15 (fun a b => Below w6.heap.size a b) (Big0 w6.heap.size) (fun a b => Below w6.heap.size a b) [(some 32, fun v _ => v = v1), (some 33, fun v _ => v = v1), (some 34, fun v W => Own Kd.bool 4 w6.heap.size W (fun _ => False) v (emptL L1)), (some 35, fun v _ => v = .int .i64 n1), (some 36, fun v _ => v = v1), (some 37, fun v _ => v = .int .i64 (L1.length : Int)), (some 38, fun v _ => v = .int .i64 ((L1.length : Int) + 1)), (some 39, fun v W => Own (Kd.num .i64) 3 w6.heap.size W (fun _ => False) v (List.replicate (((L1.length : Int) + 1)).toNat 0)), (some 40, fun v W => ∃ s_ d_, v = .tuple #[s_, d_, .int .i64 (vis (tr L1 n1) []).2] ∧ Own Kd.node 35 w6.heap.size W (fun _ => False) s_ (vis (tr L1 n1) []).1), (some 31, fun v W => ∃ s_ d_, v = .tuple #[s_, d_, .int .i64 (vis (tr L1 n1) []).2] ∧ Own Kd.node 35 w6.heap.size W (fun _ => False) s_ (vis (tr L1 n1) []).1), (some 41, fun v W => Own Kd.node 35 w6.heap.size W (fun _ => False) v ((vis (tr L1 n1) []).1)), (some 42, fun _ _ => True), (some 43, fun v _ => v = .int .i64 (vis (tr L1 n1) []).2), (some 8, fun v W => Own Kd.node 35 w6.heap.size W (fun _ => False) v ((vis (tr L1 n1) []).1)), (some 9, fun _ _ => True)] [[], [], [1], [], [], [4], [5], [6], [0, 2, 3, 7], [8], [9], [9], [9], [10], [11]] [[], [], [], [], [], [], [], [], [], [8], [9, 8], [], [], [10, 9, 8], []] [[], [], [8], [], [], [], [], [8], [], [], [], [], [], [], []] [false, false, false, false, false, false, false, false, true, false, false, false, false, false, false] [true, true, false, true, true, true, true, false, false, false, false, true, true, false, true] [(4, .pointer (some ⟨g1, 0, none⟩)), (5, .int .i64 0), (6, v1), (7, .int .i64 n1)] (by exact ⟨rfl, rfl, rfl, rfl, trivial⟩) (by kernel_rfl) (by kernel_rfl) (by kernel_rfl) rfl (Below.refl _) (fun _ _ _ h k => h.trans k) (fun _ _ h => h.below) (fun _ _ h => h) ⟨fun _ _ _ h _ => by exact h, fun _ _ _ h _ => by exact h, fun _ _ _ h _ => by exact h, fun _ _ _ h _ => by exact h, fun _ _ _ h k => h.g0 k.2, fun _ _ _ h _ => by exact h, fun _ _ _ h _ => by exact h, fun _ _ _ h _ => by exact h, fun _ _ _ h _ => by exact h, fun _ _ _ h _ => by exact h, fun _ _ _ h _ => by exact h, fun _ _ _ h _ => by exact h, fun _ _ _ h _ => by exact h, fun _ _ _ h k => h.g0 k.2, fun _ _ _ h k => by obtain ⟨s_, d_, e_, h_⟩ := h; exact ⟨s_, d_, e_, h_.g0 k.2⟩, fun _ _ _ h k => by obtain ⟨s_, d_, e_, h_⟩ := h; exact ⟨s_, d_, e_, h_.g0 k.2⟩, fun _ _ _ h k => h.g0 k.2, fun _ _ _ h _ => by exact h, fun _ _ _ h _ => by exact h, fun _ _ _ h _ => by exact h, fun _ _ _ h _ => by exact h, fun _ _ _ h k => h.g0 k.2, fun _ _ _ h _ => by exact h, fun _ _ _ h _ => by exact h, trivial⟩ ?_
        intro w7 k7 hs5
        have hb7 := below_g0 hb6 k7
        have hO2 := hO1.g0 k7
        refine ⟨⟨?_, ?_, ?_, ?_, ?_, ?_, ?_, ?_, ?_, ?_, ?_, ?_, ?_, ?_, ?_, trivial⟩, ?_⟩
        · intro w8z_ kb_
          have kg_ := grown_of_below (show Below w7.heap.size w7 w8z_ by rw [hs5]; exact kb_) none
          have hb_ := below_g0 hb7 kg_
          have hz_ := hb_.size
          have he_ := kb_.size
          exact op1 (s_move rfl ⟨rfl, ⟨by omega, World.grownBy.refl _ _⟩⟩)
        · intro w8z_ kb_
          have kg_ := grown_of_below (show Below w7.heap.size w7 w8z_ by rw [hs5]; exact kb_) none
          have hb_ := below_g0 hb7 kg_
          have hz_ := hb_.size
          have he_ := kb_.size
          exact op1 (s_move rfl ⟨rfl, ⟨by omega, World.grownBy.refl _ _⟩⟩)
        · intro w8z_ kb_
          have kg_ := grown_of_below (show Below w7.heap.size w7 w8z_ by rw [hs5]; exact kb_) none
          have hb_ := below_g0 hb7 kg_
          have hz_ := hb_.size
          have he_ := kb_.size
          intro v_ hv_; subst v_
          refine op1 (s_call fn29 rfl (emptiesO_any (hO2.g0 kg_).sl hLok1 (by omega)) ?_)
          rintro vz_ wz_ ⟨hqz_, hSz_⟩
          exact ⟨hSz_.rebase (by omega), ⟨by omega, grown_of_below hqz_ none⟩⟩
        · intro w8z_ kb_
          have kg_ := grown_of_below (show Below w7.heap.size w7 w8z_ by rw [hs5]; exact kb_) none
          have hb_ := below_g0 hb7 kg_
          have hz_ := hb_.size
          have he_ := kb_.size
          exact op1 (s_move rfl ⟨rfl, ⟨by omega, World.grownBy.refl _ _⟩⟩)
        · intro w8z_ kb_
          have kg_ := grown_of_below (show Below w7.heap.size w7 w8z_ by rw [hs5]; exact kb_) none
          have hb_ := below_g0 hb7 kg_
          have hz_ := hb_.size
          have he_ := kb_.size
          exact op1 (s_move rfl ⟨rfl, ⟨by omega, World.grownBy.refl _ _⟩⟩)
        · intro w8z_ kb_
          have kg_ := grown_of_below (show Below w7.heap.size w7 w8z_ by rw [hs5]; exact kb_) none
          have hb_ := below_g0 hb7 kg_
          have hz_ := hb_.size
          have he_ := kb_.size
          intro v_ hv_; subst v_
          exact op1 (s_len sl22 rfl (hO2.g0 kg_).sl ⟨rfl, ⟨by omega, World.grownBy.refl _ _⟩⟩)
        · intro w8z_ kb_
          have kg_ := grown_of_below (show Below w7.heap.size w7 w8z_ by rw [hs5]; exact kb_) none
          have hb_ := below_g0 hb7 kg_
          have hz_ := hb_.size
          have he_ := kb_.size
          rintro _ rfl
          exact op1 (s_add rfl rfl (by omega) ⟨rfl, ⟨by omega, World.grownBy.refl _ _⟩⟩)
        · intro w8z_ kb_
          have kg_ := grown_of_below (show Below w7.heap.size w7 w8z_ by rw [hs5]; exact kb_) none
          have hb_ := below_g0 hb7 kg_
          have hz_ := hb_.size
          have he_ := kb_.size
          rintro _ rfl
          refine op1 (s_make (K := (Kd.num .i64)) (base := w6.heap.size) (F := fun _ => False) sl46 rfl (by omega) (by omega) (by omega) (fun _ _ => ⟨rfl, trivial⟩) (by omega) (fun _ h => h.elim) ?_)
          intro vz_ wz_ hz_ kz_
          exact ⟨hz_, ⟨by omega, kz_⟩⟩
        · intro w8z_ kb_
          have kg_ := grown_of_below (show Below w7.heap.size w7 w8z_ by rw [hs5]; exact kb_) none
          have hb_ := below_g0 hb7 kg_
          have hz_ := hb_.size
          have he_ := kb_.size
          intro v_ hv_; subst v_
          intro vez_ hez_
          rintro _ rfl
          intro vdz_ hdz_
          refine op1 (s_call fn37 rfl (visit_any (a0 := w7) (a1 := w8z_) hO2.sl (hez_.sl_ne bool_flat (hez_.ne_own hdz_ (by decide))) hLok1 (by omega) (L1.length + 1) (n := n1) (by omega) (by omega) (by omega) (Frm.refl _ _ _) (by rw [hs5]; exact kb_) (Own.nil _ _ _ _ _) (by rw [hs5]; exact hdz_) (by rw [List.length_replicate]; omega) (dinv_none _ _) can_nil (Nat.zero_le _)) ?_)
          rintro _ wz_ ⟨vz_, dz_, rfl, hbz_, hOz_, _, _, _, _, _, _, _, hfz_⟩
          have hsz_ := hfz_.1
          rw [hs5] at hbz_ hOz_
          exact ⟨⟨vz_, _, rfl, hOz_⟩, below_of kb_ hbz_⟩
        · intro w8z_ kb_
          have kg_ := grown_of_below (show Below w7.heap.size w7 w8z_ by rw [hs5]; exact kb_) none
          have hb_ := below_g0 hb7 kg_
          have hz_ := hb_.size
          have he_ := kb_.size
          intro vz_ hz_
          exact op1 (s_move rfl ⟨hz_, ⟨by omega, World.grownBy.refl _ _⟩⟩)
        · intro w8z_ kb_
          have kg_ := grown_of_below (show Below w7.heap.size w7 w8z_ by rw [hs5]; exact kb_) none
          have hb_ := below_g0 hb7 kg_
          have hz_ := hb_.size
          have he_ := kb_.size
          rintro _ ⟨s_, d_, rfl, hO_⟩
          exact op1 (s_extract rfl rfl ⟨hO_, ⟨by omega, World.grownBy.refl _ _⟩⟩)
        · intro w8z_ kb_
          have kg_ := grown_of_below (show Below w7.heap.size w7 w8z_ by rw [hs5]; exact kb_) none
          have hb_ := below_g0 hb7 kg_
          have hz_ := hb_.size
          have he_ := kb_.size
          rintro _ ⟨s_, d_, rfl, hO_⟩
          exact op1 (s_extract rfl rfl ⟨trivial, ⟨by omega, World.grownBy.refl _ _⟩⟩)
        · intro w8z_ kb_
          have kg_ := grown_of_below (show Below w7.heap.size w7 w8z_ by rw [hs5]; exact kb_) none
          have hb_ := below_g0 hb7 kg_
          have hz_ := hb_.size
          have he_ := kb_.size
          rintro _ ⟨s_, d_, rfl, hO_⟩
          exact op1 (s_extract rfl rfl ⟨rfl, ⟨by omega, World.grownBy.refl _ _⟩⟩)
        · intro w8z_ kb_
          have kg_ := grown_of_below (show Below w7.heap.size w7 w8z_ by rw [hs5]; exact kb_) none
          have hb_ := below_g0 hb7 kg_
          have hz_ := hb_.size
          have he_ := kb_.size
          intro vz_ hz_
          exact op1 (s_assign rfl ⟨hz_, ⟨by omega, World.grownBy.refl _ _⟩⟩)
        · intro w8z_ kb_
          have kg_ := grown_of_below (show Below w7.heap.size w7 w8z_ by rw [hs5]; exact kb_) none
          have hb_ := below_g0 hb7 kg_
          have hz_ := hb_.size
          have he_ := kb_.size
          intro vz_ _
          exact op1 (s_assign rfl ⟨trivial, ⟨by omega, World.grownBy.refl _ _⟩⟩)
        intro w8 kb
        have k8 := grown_of_below (show Below w7.heap.size w7 w8 by rw [hs5]; exact kb) none
        have hb8 := below_g0 hb7 k8
        have hz5 := hb8.size
        intro v_ hv_; subst v_
        intro v_ hv_; subst v_
        intro v42 _
        rintro _ rfl
        intro v_ hv_; subst v_
        rintro _ rfl
        rintro _ rfl
        intro v43 _
        intro v44 h44
        intro v45 h45
        intro v46 h46
        intro v47 _
        rintro _ rfl
        intro v48 h48
        intro v49 _
        refine st (s_assign rfl ?_)
        refine r_end ?_
        refine n_then ?_
        refine w_seq ?_
        refine w_region ?_
        refine st (s_move rfl ?_)
        refine st (s_build (ps := [(0, .tmp 44)]) (ccs := [#[v48]]) (cells := [v48]) rfl (by simp only [List.map_cons, List.map_nil, h48.cells1] <;> rfl) (by kernel_rfl) ?_)
        refine st0 (s_storeN row27 rfl rfl ((((hB1.g0 k2).g0 k6).g0 k7).g0 k8) (by simp only [List.all_cons, List.all_nil, h48.one, Bool.and_true, Bool.and_self] <;> rfl) rfl rfl ?_)
        intro w9 hB5 k9 hs6
        have hb9 := below_g hb8 k9 (by omega)
        have hO3 := Own.keptF node_flat h48 k9 (h48.ne_blk ((((hB1.g0 k2).g0 k6).g0 k7).g0 k8) (by decide))
        refine st (s_assign rfl ?_)
        refine r_end ?_
        refine n_then ?_
        refine w_retc2 rfl row27 rfl rfl hB5.range rfl ?_
        refine ⟨_, rfl, hb9, v48, ?_, ?_⟩
        · rw [of_yes hl_ok (by omega) (by omega)]
        · rw [of_yes hl_ok (by omega) (by omega), canT, ← hT1]; exact hO3.sl

theorem nest_any {va vb : Value} {l m : List Nd} {F : Nat → Prop} {w : World} (hl : Sl Kd.node w F va l) (hm : Sl Kd.node w F vb m) (hm_ok : looseB m = true) (hll : l.length ≤ 100000) (hmm : m.length ≤ 100000) :
    Calls Try.prog 24 [va, vb].toArray w (Pure w fun v w' => Sl Kd.node w' (fun _ => False) v (nestL l m)) := by
  have hb0 := Below.refl w.heap.size w
  have hln1 := hl.lenle
  have hln2 := hm.lenle
  refine enter Try.func24 rfl rfl ?_
  refine w_seq ?_
  refine w_region ?_
  refine st (s_assign rfl ?_)
  refine r_end ?_
  refine n_then ?_
  refine w_seq ?_
  refine w_region ?_
  refine st (s_bslice0 (K := Kd.node) (base := w.heap.size) (F := (fun _ => False)) sl22 (by omega) (fun _ h => h.elim) ?_)
  intro v1 w1 hO1 k1
  have hb1 := below_g0 hb0 k1
  have hz1 := hb1.size
  refine st (s_move rfl ?_)
  refine st (s_append (K := Kd.node) sl22 rfl rfl hO1 ((hl.at0 hb1).weak (fun k hk h => h.elim (fun h => by first | exact h.elim | exact h | exact Or.inl h) (fun h => by have h9 := (hO1.lt k h).1; first | exact Or.inr h9 | (simp [Loc]; omega)))) node_ones (by simp; omega) (by simp; omega) (by first | exact Nat.le_refl _ | omega) (fun _ h => h.elim) ?_)
  intro v2 w2 hO2 k2 hr1
  rw [List.nil_append] at hO2
  have hb2 := hb1.grown k2 hb1.size (fun k_ hk_ => (hO1.lt k_ hk_).1)
  have hz2 := hb2.size
  refine st (s_assign rfl ?_)
  refine r_end ?_
  refine n_then ?_
  refine w_seq ?_
  refine w_seq ?_
  refine w_region ?_
  refine st (s_assign rfl ?_)
  refine r_end ?_
  refine n_then ?_
  refine w_block ?_
  refine w_loop (α := Int × Value) (fun ((i, vk) : Int × Value) => [(0, va), (1, vb), (4, .slice none 0 0), (5, vk), (6, .int .i64 i)]) (fun ((i, vk) : Int × Value) W => Below w.heap.size w W ∧ (0 ≤ i ∧ i ≤ m.length) ∧ (Own Kd.node 35 w.heap.size W (fun _ => False) vk (nestP l m i))) (fun ((i, vk) : Int × Value) => (m.length - i).toNat) ((0), (v2)) ⟨hb2, by omega, by rw [nestP_zero]; exact hO2⟩ (by exact ⟨rfl, rfl, rfl, rfl, rfl, trivial⟩) ?_
  rintro ⟨i, vk⟩ w3 ⟨hb3, hi, hOi⟩
  dsimp only at *
  have hz3 := hb3.size
  have hlP := nestP_len (l := l) (m := m) hi.1 hi.2
  refine w_seq ?_
  refine w_seq ?_
  refine w_region ?_
  refine st (s_move rfl ?_)
  refine st (s_move rfl ?_)
  refine st (s_len sl22 rfl (hm.at0 hb3) ?_)
  refine st (s_lt rfl rfl ?_)
  refine r_end ?_
  refine n_then ?_
  refine w_condP rfl (fun h1 => ?_) (fun h1 => ?_)
  · have hlt := h1
    refine w_skip' ?_
    refine n_then ?_
    refine w_seq ?_
    refine w_block ?_
    refine w_seq ?_
    refine w_region ?_
    refine st (s_move rfl ?_)
    refine st (s_move rfl ?_)
    refine st (s_idx sl22 rfl rfl (hm.at0 hb3) (by omega) (by omega) ?_)
    rintro b1 o1 _ ⟨rfl, _⟩ hc1 hF1 hlt1
    have hl_1 := Loc.lt hF1
    refine st (s_loadW row35 rfl hc1 rfl ?_)
    refine st (s_alloc zero35 ?_)
    intro g1 w4 hg1 hB1 k3 hs1
    have hn1 := own_new hOi hg1
    have hb4 := below_g0 hb3 k3
    have hO3 := hOi.g0 k3
    refine st0 (s_storeN row35 rfl rfl hB1 rfl rfl rfl ?_)
    intro w5 hB2 k4 hs2
    have hb5 := below_g hb4 k4 (by omega)
    have hO4 := Own.keptN node_flat hO3 k4 hn1
    clear hB1
    refine r_end ?_
    refine n_then ?_
    refine w_seq ?_
    refine w_seq ?_
    refine w_region ?_
    refine st (s_assign rfl ?_)
    refine r_end ?_
    refine n_then ?_
    refine w_block ?_
    refine w_loop (α := Int × Int × Int × Int × Int) (fun ((k, a, b, c, e) : Int × Int × Int × Int × Int) => [(0, va), (1, vb), (4, .slice none 0 0), (5, vk), (6, .int .i64 i), (7, .pointer (some ⟨g1, 0, none⟩)), (8, .int .i64 k)]) (fun ((k, a, b, c, e) : Int × Int × Int × Int × Int) W => Below w.heap.size w W ∧ (0 ≤ k ∧ k ≤ 4) ∧ (Sh4 (ix m i) l.length k a b c e) ∧ (Blk W g1 35 [.int .i64 ((ix m i).lv), .int .i64 a, .int .i64 b, .int .i64 c, .int .i64 e].toArray) ∧ (Own Kd.node 35 w.heap.size W (fun _ => False) vk (nestP l m i))) (fun ((k, a, b, c, e) : Int × Int × Int × Int × Int) => (4 - k).toNat) ((0), ((ix m i).k0), ((ix m i).k1), ((ix m i).k2), ((ix m i).k3)) ⟨hb5, by omega, sh4_zero (ix m i) l.length, hB2, hO4⟩ (by exact ⟨rfl, rfl, rfl, rfl, rfl, rfl, rfl, trivial⟩) ?_
    rintro ⟨k, a, b, c, e⟩ w6 ⟨hb6, hk, hsh, hBj, hOj⟩
    dsimp only at *
    have hz4 := hb6.size
    refine w_seq ?_
    refine w_seq ?_
    refine w_region ?_
    refine st (s_move rfl ?_)
    refine st (s_lt rfl rfl ?_)
    refine r_end ?_
    refine n_then ?_
    refine w_condP rfl (fun h2 => ?_) (fun h2 => ?_)
    · have hkk := sh4_kid hsh hk.1 (by omega)
      refine w_skip' ?_
      refine n_then ?_
      refine w_seq ?_
      refine w_block ?_
      refine w_seq ?_
      refine w_region ?_
      refine st (s_faddr fld35_0 rfl ?_)
      refine st (s_load one3 rfl hBj.range (j := 0) rfl ?_)
      refine st (s_gt rfl rfl ?_)
      refine st (s_move rfl ?_)
      refine r_caseP 29 rfl (fun h3 => ?_) (fun h3 => ?_)
      · have hkr := kid_rng hm_ok (i := i) (by omega) hlt (by omega) k (by omega) (by omega)
        refine stg (s_move rfl ?_)
        refine stg (s_faddr fld35_1 rfl ?_)
        refine stg (s_iaddr arr33 rfl rfl (by omega) (by omega) ?_)
        refine stg (s_load4 one3 rfl hBj.range (j := 1) rfl rfl (by omega) (by omega) ?_)
        refine stg (s_gt rfl rfl ?_)
        refine st (s_pick rfl rfl ?_)
        refine r_end ?_
        refine n_then ?_
        refine w_condP rfl (fun h4 => ?_) (fun h4 => ?_)
        · refine w_region ?_
          refine st (s_move rfl ?_)
          refine st (s_move rfl ?_)
          refine st (s_faddr fld35_1 rfl ?_)
          refine st (s_iaddr arr33 rfl rfl (by omega) (by omega) ?_)
          refine st (s_load4 one3 rfl hBj.range (j := 1) rfl rfl (by omega) (by omega) ?_)
          refine st (s_move rfl ?_)
          refine st (s_len sl22 rfl (hl.at0 hb6) ?_)
          refine st (s_add rfl rfl (by omega) ?_)
          refine st (s_faddr fld35_1 rfl ?_)
          refine st (s_iaddr arr33 rfl rfl (by omega) (by omega) ?_)
          refine st0 (s_storeK one3 rfl rfl hBj (by omega) (by omega) ?_)
          intro w7 hB3 k5 hs3
          have hb7 := below_g hb6 k5 (by omega)
          have hO5 := Own.keptN node_flat hOj k5 hn1
          clear hBj
          refine r_end ?_
          refine n_block ?_
          refine n_then ?_
          refine w_region ?_
          refine st (s_move rfl ?_)
          refine st (s_add rfl rfl (by omega) ?_)
          refine st (s_assign rfl ?_)
          refine r_end ?_
          exact n_round (((k + 1)), ((if k = 0 then ((sel4 a b c e k) + (l.length : Int)) else a)), ((if k = 1 then ((sel4 a b c e k) + (l.length : Int)) else b)), ((if k = 2 then ((sel4 a b c e k) + (l.length : Int)) else c)), ((if k = 3 then ((sel4 a b c e k) + (l.length : Int)) else e))) ⟨hb7, by dsimp only; omega, sh4_put hsh hk.1 (by omega) (by unfold shf; rw [if_pos ⟨by assumption, by omega⟩]; omega), hB3, hO5⟩ (by omega) (by exact ⟨rfl, rfl, rfl, rfl, rfl, rfl, rfl, trivial⟩)
        · refine w_skip' ?_
          refine n_block ?_
          refine n_then ?_
          refine w_region ?_
          refine st (s_move rfl ?_)
          refine st (s_add rfl rfl (by omega) ?_)
          refine st (s_assign rfl ?_)
          refine r_end ?_
          exact n_round (((k + 1)), (a), (b), (c), (e)) ⟨hb6, by dsimp only; omega, sh4_same hsh hk.1 (by omega) (fun q => by omega), hBj, hOj⟩ (by omega) (by exact ⟨rfl, rfl, rfl, rfl, rfl, rfl, rfl, trivial⟩)
      · refine s_pass rfl rfl ?_
        refine s_pass rfl rfl ?_
        refine s_pass rfl rfl ?_
        refine s_pass rfl rfl ?_
        refine s_pass rfl rfl ?_
        refine st (s_pick rfl rfl ?_)
        refine r_end ?_
        refine n_then ?_
        refine w_condF rfl ?_
        refine w_skip' ?_
        refine n_block ?_
        refine n_then ?_
        refine w_region ?_
        refine st (s_move rfl ?_)
        refine st (s_add rfl rfl (by omega) ?_)
        refine st (s_assign rfl ?_)
        refine r_end ?_
        exact n_round (((k + 1)), (a), (b), (c), (e)) ⟨hb6, by dsimp only; omega, sh4_same hsh hk.1 (by omega) (fun q => by omega), hBj, hOj⟩ (by omega) (by exact ⟨rfl, rfl, rfl, rfl, rfl, rfl, rfl, trivial⟩)
    · refine w_exit' ?_
      refine n_then_exit ?_
      refine n_then_exit ?_
      refine n_block_exit ?_
      refine n_then ?_
      refine w_region ?_
      refine st (s_move rfl ?_)
      refine st (s_loadW row35 rfl hBj.range rfl ?_)
      refine st (s_bslice (ps := [(0, .tmp 47)]) (ccs := [#[.int .i64 ((ix m i).lv), .int .i64 a, .int .i64 b, .int .i64 c, .int .i64 e]]) (e := 35) (cells := [.int .i64 ((ix m i).lv), .int .i64 a, .int .i64 b, .int .i64 c, .int .i64 e]) rfl rfl (by kernel_rfl) (by decide) nz35 ?_)
      intro g2 w8 hg2 hB4 k6 hs4
      have hb8 := below_g0 hb6 k6
      have hz5 := hb8.size
      have hO6 := hOj.g0 k6
      have hS1 := lit_nodes (F := fun _ => False) ([⟨(ix m i).lv, a, b, c, e⟩] : List Nd) hB4 (fun h => h) rfl (by first | decide | simp)
      refine st (s_append (K := Kd.node) sl22 rfl rfl hO6 (lit_nodes (F := Out (fun _ => False) vk) ([⟨(ix m i).lv, a, b, c, e⟩] : List Nd) hB4 (fun h => h.elim id (fun h => by have h9 := (hOj.lt _ h).2; omega)) rfl (by first | decide | simp)) node_ones (by simp; omega) (by simp; omega) (by first | exact Nat.le_refl _ | omega) (fun _ h => h.elim) ?_)
      intro v3 w9 hO7 k7 hr3
      have hn2 := own_app hn1 hr3 (by have := (hBj.g0 k6).lt; omega)
      have hb9 := hb8.grown k7 hb8.size (fun k_ hk_ => (hO6.lt k_ hk_).1)
      have hz6 := hb9.size
      refine st (s_assign rfl ?_)
      refine r_end ?_
      refine n_block ?_
      refine n_then ?_
      refine w_region ?_
      refine st (s_move rfl ?_)
      refine st (s_add rfl rfl (by omega) ?_)
      refine st (s_assign rfl ?_)
      refine r_end ?_
      have e4 : k = 4 := by omega
      subst e4
      have hX : (⟨(ix m i).lv, a, b, c, e⟩ : Nd) = (ix m i).shift l.length := sh4_end hsh
      have hO9 := hO7
      rw [hX, nestP_step hi.1 hlt] at hO9
      exact n_round (((i + 1)), (v3)) ⟨hb9, by dsimp only; omega, hO9⟩ (by omega) (by exact ⟨rfl, rfl, rfl, rfl, rfl, trivial⟩)
  · refine w_exit' ?_
    refine n_then_exit ?_
    refine n_then_exit ?_
    refine n_block_exit ?_
    refine n_then ?_
    refine w_seq ?_
    refine w_region ?_
    refine st (s_move rfl ?_)
    refine st (s_assign rfl ?_)
    refine r_end ?_
    refine n_then ?_
    refine w_ret1 rfl rfl ?_
    have e : i = (m.length : Int) := by omega
    subst e
    refine ⟨_, rfl, hb3, ?_⟩
    rw [← nestP_end]
    exact hOi.sl
end Go.Proofs.Ytdeiiagkbbimhaa
