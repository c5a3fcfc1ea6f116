/- Part of the proof that is named in YtdeiiagkbbimhaaNRowCanJust: a library for walks, or a function's walk. -/
import Derived.Test.YtdeiiagkbbimhaaNI
set_option maxRecDepth 20000
set_option linter.unusedSimpArgs false
set_option linter.unusedVariables false
namespace Go.Proofs.Ytdeiiagkbbimhaa
open Go.RowKit Go.Gw
theorem rright_any {va : Value} {l : List Nd} {F : Nat → Prop} {w : World} (hl : Sl Kd.node w F va l) (hll : l.length ≤ 1000000) :
    Calls Try.prog 12 [.agg [va].toArray].toArray w (Pure w fun v _ => v = .bool (rightB l)) := by
  have hb0 := Below.refl w.heap.size w
  have hln0 := hl.lenle
  refine enter Try.func12 rfl rfl ?_
  refine w_seq ?_
  refine w_region ?_
  refine st (s_box rfl ?_)
  intro g1 w1 hg1 hB1 k1 hs1
  have hb1 := below_g0 hb0 k1
  refine st (s_assign rfl ?_)
  refine r_end ?_
  refine n_then ?_
  refine w_seq ?_
  refine w_region ?_
  refine st (s_faddr fld27_0 rfl ?_)
  refine st (s_load one22 rfl hB1.range (j := 0) rfl ?_)
  refine st (s_assign rfl ?_)
  refine r_end ?_
  refine n_then ?_
  refine w_seq ?_
  refine w_seq ?_
  refine w_region ?_
  refine st (s_move rfl ?_)
  refine st (s_len sl22 rfl (hl.at0 hb1) ?_)
  refine st (s_eq rfl rfl ?_)
  refine r_end ?_
  refine n_then ?_
  refine w_condP rfl (fun h1 => ?_) (fun h1 => ?_)
  · refine w_seq ?_
    refine w_region ?_
    refine st (s_assign rfl ?_)
    refine r_end ?_
    refine n_then ?_
    refine w_ret1 rfl rfl ?_
    exact ⟨_, rfl, hb1, by unfold rightB; rw [decide_eq_true (by omega : l.length = 0)]; rfl⟩
  · refine w_skip' ?_
    refine n_then ?_
    refine w_seq ?_
    refine w_seq ?_
    refine w_region ?_
    refine st (s_move rfl ?_)
    refine st (s_call fn10 rfl (rloose_any (hl.at0 hb1)) ?_)
    rintro _ w2 ⟨hq1, rfl⟩
    have k2 := grown_of_below hq1 none
    have hz1 := hq1.size
    have hb2 := below_g0 hb1 k2
    have hz2 := hb2.size
    refine st (s_not rfl ?_)
    refine st (s_move rfl ?_)
    refine r_case 17 rfl (fun h2 => ?_) (fun h2 => ?_)
    · refine s_pass rfl rfl ?_
      refine s_pass rfl rfl ?_
      refine s_pass rfl rfl ?_
      refine s_pass rfl rfl ?_
      refine st (s_pick rfl rfl ?_)
      refine r_end ?_
      refine n_then ?_
      refine w_condT rfl ?_
      refine w_seq ?_
      refine w_region ?_
      refine st (s_assign rfl ?_)
      refine r_end ?_
      refine n_then ?_
      refine w_ret1 rfl rfl ?_
      refine ⟨_, rfl, hb2, ?_⟩
      unfold rightB; rw [decide_eq_false (by omega : ¬ l.length = 0)]
      simp_all
    · have hl_ok : looseB l = true := by simpa using h2
      have hlen := emptL_length l
      refine stg (s_move rfl ?_)
      refine stg (s_move rfl ?_)
      refine stg (s_len sl22 rfl (hl.at0 hb2) ?_)
      refine stg (s_call fn18 rfl (rhollow_any (hl.at0 hb2) hl_ok hll (by omega) (by omega)) ?_)
      rintro _ w3 ⟨hq2, rfl⟩
      have k3 := grown_of_below hq2 none
      have hz3 := hq2.size
      have hb3 := below_g0 hb2 k3
      have hz4 := hb3.size
      refine st (s_pick rfl rfl ?_)
      refine r_end ?_
      refine n_then ?_
      refine w_cond rfl (fun h3 => ?_) (fun h3 => ?_)
      · refine w_seq ?_
        refine w_region ?_
        refine st (s_assign rfl ?_)
        refine r_end ?_
        refine n_then ?_
        refine w_ret1 rfl rfl ?_
        refine ⟨_, rfl, hb3, ?_⟩
        unfold rightB; rw [decide_eq_false (by omega : ¬ l.length = 0)]
        simp_all
      · refine w_skip' ?_
        refine n_then ?_
        refine w_seq ?_
        refine w_region ?_
        refine st (s_move rfl ?_)
        refine st (s_call fn29 rfl (empties_any (hl.at0 hb3) hl_ok hll) ?_)
        rintro v1 w4 ⟨hq3, hS1⟩
        have k4 := grown_of_below hq3 none
        have hz5 := hq3.size
        have hb4 := below_g0 hb3 k4
        have hz6 := hb4.size
        refine st (s_assign rfl ?_)
        refine r_end ?_
        refine n_then ?_
        refine w_seq ?_
        refine w_seq ?_
        refine w_region ?_
        refine st (s_assign rfl ?_)
        refine r_end ?_
        refine n_then ?_
        refine w_block ?_
        refine w_loop (α := Int) (fun (i : Int) => [(3, va), (4, v1), (5, .int .i64 i)]) (fun (i : Int) W => Below w.heap.size w W ∧ (0 ≤ i ∧ i ≤ l.length) ∧ (∀ j : Int, 0 ≤ j → j < i → ix (hasL l) (j + 1) = true) ∧ (∀ j k : Int, 0 ≤ k → k < j → j < i → ix l j ≠ ix l k) ∧ (Sl Kd.bool W (fun _ => False) v1 (emptL l))) (fun (i : Int) => (l.length - i).toNat) (0) ⟨hb4, by omega, fun j _ _ => by omega, fun j k _ _ _ => by omega, hS1⟩ (by exact ⟨rfl, rfl, rfl, trivial⟩) ?_
        rintro i w5 ⟨hb5, hi, ha, hnd, hS2⟩
        have hz7 := hb5.size
        refine w_seq ?_
        refine w_seq ?_
        refine w_region ?_
        refine st (s_move rfl ?_)
        refine st (s_move rfl ?_)
        refine st (s_len sl22 rfl (hl.at0 hb5) ?_)
        refine st (s_lt rfl rfl ?_)
        refine r_end ?_
        refine n_then ?_
        refine w_condP rfl (fun h4 => ?_) (fun h4 => ?_)
        · have hlt := h4
          refine w_skip' ?_
          refine n_then ?_
          refine w_seq ?_
          refine w_block ?_
          refine w_seq ?_
          refine w_seq ?_
          refine w_region ?_
          refine st (s_move rfl ?_)
          refine st (s_move rfl ?_)
          refine st (s_add rfl rfl (by omega) ?_)
          refine st (s_idx sl43 rfl rfl hS2 (by omega) (by omega) ?_)
          rintro b1 o1 _ ⟨rfl, _⟩ hc1 hF1 hlt1
          refine st (s_load one4 rfl hc1 (j := 0) rfl ?_)
          refine r_end ?_
          refine n_then ?_
          refine w_cond rfl (fun h5 => ?_) (fun h5 => ?_)
          · rw [emptL_at l _ (by omega) (by omega)] at h5
            refine w_seq ?_
            refine w_region ?_
            refine st (s_assign rfl ?_)
            refine r_end ?_
            refine n_then ?_
            refine w_ret1 rfl rfl ?_
            refine ⟨_, rfl, hb5, ?_⟩
            unfold rightB; rw [decide_eq_false (by omega : ¬ l.length = 0)]
            rw [full_no hi.1 hlt (by simpa using h5)]
            simp
          · rw [emptL_at l _ (by omega) (by omega)] at h5
            refine w_skip' ?_
            refine n_then ?_
            refine w_seq ?_
            refine w_region ?_
            refine st (s_assign rfl ?_)
            refine r_end ?_
            refine n_then ?_
            refine w_block ?_
            refine w_loop (α := Int) (fun (k : Int) => [(3, va), (4, v1), (5, .int .i64 i), (6, .int .i64 k)]) (fun (k : Int) W => Below w.heap.size w W ∧ (0 ≤ k ∧ k ≤ i) ∧ (∀ k' : Int, 0 ≤ k' → k' < k → ix l i ≠ ix l k') ∧ (Sl Kd.bool W (fun _ => False) v1 (emptL l))) (fun (k : Int) => (i - k).toNat) (0) ⟨hb5, by omega, fun k' _ _ => by omega, hS2⟩ (by exact ⟨rfl, rfl, rfl, rfl, trivial⟩) ?_
            rintro k w6 ⟨hb6, hk, hk2, hS3⟩
            have hz8 := hb6.size
            refine w_seq ?_
            refine w_seq ?_
            refine w_region ?_
            refine st (s_move rfl ?_)
            refine st (s_move rfl ?_)
            refine st (s_lt rfl rfl ?_)
            refine r_end ?_
            refine n_then ?_
            refine w_condP rfl (fun h6 => ?_) (fun h6 => ?_)
            · refine w_skip' ?_
              refine n_then ?_
              refine w_seq ?_
              refine w_block ?_
              refine w_seq ?_
              obtain ⟨b2, o2, _, hat1, ⟨rfl, _⟩, hc2, hF2, hlt2⟩ := (hl.at0 hb6).elem i (by omega) (by omega)
              have hl_1 := Loc.lt hF2
              obtain ⟨b3, o3, _, hat2, ⟨rfl, _⟩, hc3, hF3, hlt3⟩ := (hl.at0 hb6).elem k (by omega) (by omega)
              have hl_2 := Loc.lt hF3
              refine w_draw 9 (fun a b => a.grownBy b none) [(some 41, fun v _ => v = va), (some 42, fun v _ => v = .int .i64 i), (some 43, fun v _ => v = .pointer (some ⟨b2, o2, none⟩)), (some 44, fun v _ => v = .agg [.int .i64 ((ix l i).lv), .int .i64 ((ix l i).k0), .int .i64 ((ix l i).k1), .int .i64 ((ix l i).k2), .int .i64 ((ix l i).k3)].toArray), (some 45, fun v _ => v = va), (some 46, fun v _ => v = .int .i64 k), (some 47, fun v _ => v = .pointer (some ⟨b3, o3, none⟩)), (some 48, fun v _ => v = .agg [.int .i64 ((ix l k).lv), .int .i64 ((ix l k).k0), .int .i64 ((ix l k).k1), .int .i64 ((ix l k).k2), .int .i64 ((ix l k).k3)].toArray), (some 49, fun v _ => v = .bool (decide ((ix l i) = (ix l k))))] [[], [], [0, 1], [2], [], [], [4, 5], [6], [3, 7]] [(3, va), (4, v1), (5, .int .i64 i), (6, .int .i64 k)] (by exact ⟨rfl, rfl, rfl, rfl, trivial⟩) (by kernel_rfl) (by kernel_rfl) grown_none_refl (fun _ _ _ => grown_none_trans) ⟨fun _ _ _ h _ => h, fun _ _ _ h _ => h, fun _ _ _ h _ => h, fun _ _ _ h _ => h, fun _ _ _ h _ => h, fun _ _ _ h _ => h, fun _ _ _ h _ => h, fun _ _ _ h _ => h, fun _ _ _ h _ => h, trivial⟩ ?_
              intro w7 k5 hs2
              have hb7 := below_g0 hb6 k5
              refine ⟨⟨?_, ?_, ?_, ?_, ?_, ?_, ?_, ?_, ?_, trivial⟩, ?_⟩
              · intro w8 k6
                have hb8 := below_g0 hb7 k6
                refine op1 (s_move rfl ?_)
                exact ⟨rfl, grown_none_refl _⟩
              · intro w9 k7
                have hb9 := below_g0 hb7 k7
                refine op1 (s_move rfl ?_)
                exact ⟨rfl, grown_none_refl _⟩
              · intro w10 k8
                have hb10 := below_g0 hb7 k8
                intro v_ hv_; subst v_
                rintro _ rfl
                refine op1 (s_idxat sl22 rfl rfl hat1 ?_)
                exact ⟨rfl, grown_none_refl _⟩
              · intro w11 k9
                have hb11 := below_g0 hb7 k9
                rintro _ rfl
                refine op1 (s_loadW row35 rfl (range_g0 (range_g0 hc2 k5) k9) rfl ?_)
                exact ⟨rfl, grown_none_refl _⟩
              · intro w12 k10
                have hb12 := below_g0 hb7 k10
                refine op1 (s_move rfl ?_)
                exact ⟨rfl, grown_none_refl _⟩
              · intro w13 k11
                have hb13 := below_g0 hb7 k11
                refine op1 (s_move rfl ?_)
                exact ⟨rfl, grown_none_refl _⟩
              · intro w14 k12
                have hb14 := below_g0 hb7 k12
                intro v_ hv_; subst v_
                rintro _ rfl
                refine op1 (s_idxat sl22 rfl rfl hat2 ?_)
                exact ⟨rfl, grown_none_refl _⟩
              · intro w15 k13
                have hb15 := below_g0 hb7 k13
                rintro _ rfl
                refine op1 (s_loadW row35 rfl (range_g0 (range_g0 hc3 k5) k13) rfl ?_)
                exact ⟨rfl, grown_none_refl _⟩
              · intro w16 k14
                have hb16 := below_g0 hb7 k14
                rintro _ rfl
                rintro _ rfl
                refine op1 (s_eqnode eqNode rfl rfl ?_)
                exact ⟨rfl, grown_none_refl _⟩
              · intro w17 k15
                have hb17 := below_g0 hb7 k15
                intro v_ hv_; subst v_
                rintro _ rfl
                rintro _ rfl
                rintro _ rfl
                intro v_ hv_; subst v_
                rintro _ rfl
                rintro _ rfl
                rintro _ rfl
                rintro _ rfl
                refine r_end ?_
                refine n_then ?_
                refine w_condP rfl (fun h7 => ?_) (fun h7 => ?_)
                · refine w_seq ?_
                  refine w_region ?_
                  refine st (s_assign rfl ?_)
                  refine r_end ?_
                  refine n_then ?_
                  refine w_ret1 rfl rfl ?_
                  refine ⟨_, rfl, hb17, ?_⟩
                  unfold rightB; rw [decide_eq_false (by omega : ¬ l.length = 0)]
                  rw [dup_ix hk.1 (by omega) hlt h7]
                  simp
                · refine w_skip' ?_
                  refine n_block ?_
                  refine n_then ?_
                  refine w_region ?_
                  refine st (s_move rfl ?_)
                  refine st (s_add rfl rfl (by omega) ?_)
                  refine st (s_assign rfl ?_)
                  refine r_end ?_
                  exact n_round ((k + 1)) ⟨hb17, by omega, fun k' k0 k1 => if e : k' = k then by rw [e]; exact h7 else hk2 k' k0 (by omega), ((hS3.g0 k5).g0 k15)⟩ (by omega) (by exact ⟨rfl, rfl, rfl, rfl, trivial⟩)
            · refine w_exit' ?_
              refine n_then_exit ?_
              refine n_then_exit ?_
              refine n_block_exit ?_
              refine n_block ?_
              refine n_then ?_
              refine w_region ?_
              refine st (s_move rfl ?_)
              refine st (s_add rfl rfl (by omega) ?_)
              refine st (s_assign rfl ?_)
              refine r_end ?_
              exact n_round ((i + 1)) ⟨hb6, by omega, fun j j0 j1 => if e : j = i then by rw [e]; simpa using h5 else ha j j0 (by omega), fun j k' k0 k1 j1 => if e : j = i then by rw [e]; exact hk2 k' k0 (by omega) else hnd j k' k0 k1 (by omega), hS3⟩ (by omega) (by exact ⟨rfl, rfl, rfl, trivial⟩)
        · refine w_exit' ?_
          refine n_then_exit ?_
          refine n_then_exit ?_
          refine n_block_exit ?_
          refine n_then ?_
          refine w_seq ?_
          refine w_region ?_
          refine st (s_move rfl ?_)
          refine st (s_move rfl ?_)
          refine st (s_len sl22 rfl (hl.at0 hb5) ?_)
          have hfull := (full_iff l).2 (fun j j0 j1 => ha j j0 (by omega))
          have hnd := nodup_ix (fun j k k0 k1 j1 => hnd j k k0 k1 (by omega))
          refine st (s_call fn30 rfl (end_any hl hl_ok hll l.length (n := l.length) (by omega) (by omega) (by omega) hb5 (Own.nil _ _ _ _ _) (okE_nil _)) ?_)
          rintro ve1 w18 ⟨hb18, hO1⟩
          have hz9 := hb18.size
          change Own _ _ _ _ _ _ (endL l) at hO1
          have hlenE := hO1.lenle
          refine st (s_assign rfl ?_)
          refine r_end ?_
          refine n_then ?_
          refine w_seq ?_
          refine w_seq ?_
          refine w_region ?_
          refine st (s_assign rfl ?_)
          refine r_end ?_
          refine n_then ?_
          refine w_block ?_
          refine w_loop (α := Int) (fun (i : Int) => [(3, va), (7, ve1), (8, .int .i64 i)]) (fun (i : Int) W => Below w.heap.size w W ∧ (0 ≤ i ∧ i ≤ (endL l).length) ∧ (∀ j : Int, 0 ≤ j → j < i → ix (endL l) j = j + 1) ∧ (Own (Kd.num .i64) 3 w.heap.size W (fun _ => False) ve1 (endL l))) (fun (i : Int) => ((endL l).length - i).toNat) (0) ⟨hb18, by omega, fun j _ _ => by omega, hO1⟩ (by exact ⟨rfl, rfl, rfl, trivial⟩) ?_
          rintro i w19 ⟨hb19, hi, ho, hEo⟩
          have hz10 := hb19.size
          refine w_seq ?_
          refine w_seq ?_
          refine w_region ?_
          refine st (s_move rfl ?_)
          refine st (s_move rfl ?_)
          refine st (s_len sl46 rfl hEo.sl ?_)
          refine st (s_lt rfl rfl ?_)
          refine r_end ?_
          refine n_then ?_
          refine w_condP rfl (fun h8 => ?_) (fun h8 => ?_)
          · refine w_skip' ?_
            refine n_then ?_
            refine w_seq ?_
            refine w_block ?_
            refine w_seq ?_
            refine w_region ?_
            refine st (s_move rfl ?_)
            refine st (s_move rfl ?_)
            refine st (s_idx sl46 rfl rfl hEo.sl (by omega) (by omega) ?_)
            rintro b4 o4 _ ⟨rfl, _⟩ hc4 hF4 hlt4
            refine st (s_load one3 rfl hc4 (j := 0) rfl ?_)
            refine st (s_move rfl ?_)
            refine st (s_add rfl rfl (by omega) ?_)
            refine st (s_ne rfl rfl ?_)
            refine r_end ?_
            refine n_then ?_
            refine w_condP rfl (fun h9 => ?_) (fun h9 => ?_)
            · refine w_seq ?_
              refine w_region ?_
              refine st (s_assign rfl ?_)
              refine r_end ?_
              refine n_then ?_
              refine w_ret1 rfl rfl ?_
              refine ⟨_, rfl, hb19, ?_⟩
              unfold rightB; rw [decide_eq_false (by omega : ¬ l.length = 0)]
              rw [ord_no i hi.1 (by omega) h9]
              simp
            · refine w_skip' ?_
              refine n_block ?_
              refine n_then ?_
              refine w_region ?_
              refine st (s_move rfl ?_)
              refine st (s_add rfl rfl (by omega) ?_)
              refine st (s_assign rfl ?_)
              refine r_end ?_
              exact n_round ((i + 1)) ⟨hb19, by omega, fun j j0 j1 => if e : j = i then by rw [e]; exact Decidable.not_not.1 h9 else ho j j0 (by omega), hEo⟩ (by omega) (by exact ⟨rfl, rfl, rfl, trivial⟩)
          · refine w_exit' ?_
            refine n_then_exit ?_
            refine n_then_exit ?_
            refine n_block_exit ?_
            refine n_then ?_
            refine w_seq ?_
            refine w_region ?_
            refine st (s_move rfl ?_)
            refine st (s_len sl46 rfl hEo.sl ?_)
            refine st (s_move rfl ?_)
            refine st (s_len sl22 rfl (hl.at0 hb19) ?_)
            refine st (s_eq rfl rfl ?_)
            refine st (s_assign rfl ?_)
            refine r_end ?_
            refine n_then ?_
            refine w_ret1 rfl rfl ?_
            refine ⟨_, rfl, hb19, ?_⟩
            unfold rightB; rw [decide_eq_false (by omega : ¬ l.length = 0)]
            rw [ord_yes (fun j j0 j1 => ho j j0 (by omega)), hl_ok, hfull, decide_eq_true hnd]
            simp_all [Int.natCast_inj]
end Go.Proofs.Ytdeiiagkbbimhaa
