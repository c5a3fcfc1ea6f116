/- Part of the proof that is named in YtencmmhfiepojaaLRowBack: a library for walks, or a function's walk. -/
import Derived.Test.YtencmmhfiepojaaLM
import Derived.Test.YtencmmhfiepojaaLimbSpec9
set_option maxRecDepth 20000
set_option linter.unusedSimpArgs false
set_option linter.unusedVariables false
namespace Go.Proofs.Ytencmmhfiepojaa
open Go.RowKit Go.Gw
theorem shifts_any {w : World} {a : Value} {xs : List Int} {n i : Int} (ha : Sl Kd.u32 w (fun _ => False) a xs) (hib : -9223372036854775808 ≤ i ∧ i ≤ 9223372036854775807) :
    Calls Try.prog 7 [a, .int .i64 n, .int .i64 i].toArray w (Pure w fun v _ => v = .bool true) := by
  have hb0 := Below.refl w.heap.size w
  have hln1 := ha.lenle
  refine enter Try.func7 rfl rfl ?_
  refine w_seq ?_
  refine w_region ?_
  refine st (s_assign rfl ?_)
  refine r_end ?_
  refine n_then ?_
  refine w_seq ?_
  refine w_seq ?_
  refine w_region ?_
  refine st (s_call fn22 rfl (alive_any) ?_)
  rintro _ w1 ⟨hq1, rfl⟩
  have k1 := grown_of_below hq1 none
  have hz1 := hq1.size
  have hb1 := below_g0 hb0 k1
  have hz2 := hb1.size
  refine st (s_not rfl ?_)
  refine r_end ?_
  refine n_then ?_
  refine w_condF rfl ?_
  refine w_skip' ?_
  refine n_then ?_
  refine w_seq ?_
  refine w_seq ?_
  refine w_region ?_
  refine st (s_move rfl ?_)
  refine st (s_len sl32 rfl (ha.at0 hb1) ?_)
  refine st (s_gt rfl rfl ?_)
  refine r_end ?_
  refine n_then ?_
  refine w_condP rfl (fun h1 => ?_) (fun h1 => ?_)
  · refine w_seq ?_
    refine w_region ?_
    refine st (s_assign rfl ?_)
    refine r_end ?_
    refine n_then ?_
    refine w_ret1 rfl rfl ?_
    exact ⟨_, rfl, hb1, by first | rfl | exact congrArg Value.bool (decide_eq_true rfl)⟩
  · refine w_skip' ?_
    refine n_then ?_
    refine w_seq ?_
    refine w_region ?_
    refine st (s_move rfl ?_)
    refine st (s_move rfl ?_)
    refine st (s_call fn30 rfl (shl_any ((ha.at0 hb1)).none (by first | omega | (simp; done) | (simp; omega))) ?_)
    rintro v1 w2 ⟨hq2, hS1⟩
    have k2 := grown_of_below hq2 none
    have hz3 := hq2.size
    have hb2 := below_g0 hb1 k2
    have hz4 := hb2.size
    refine st (s_move rfl ?_)
    refine st (s_move rfl ?_)
    refine st (s_call fn31 rfl (rshl_any ((ha.at0 hb2)).none (by first | omega | (simp; done) | (simp; omega))) ?_)
    rintro v2 w3 ⟨hq3, hS2⟩
    have k3 := grown_of_below hq3 none
    have hz5 := hq3.size
    have hb3 := below_g0 hb2 k3
    have hz6 := hb3.size
    refine st (s_call fn25 rfl (same_any ((hS1.g0 k3)).none (hS2).none) ?_)
    rintro v3 w4 ⟨hq4, hv1⟩
    rw [show (decide ((shlL xs n) = (shlL xs n))) = true from (decide_eq_true rfl)] at hv1
    subst hv1
    have k4 := grown_of_below hq4 none
    have hz7 := hq4.size
    have hb4 := below_g0 hb3 k4
    have hz8 := hb4.size
    refine st (s_move rfl ?_)
    refine stg (s_move rfl ?_)
    refine stg (s_move rfl ?_)
    refine stg (s_call fn32 rfl (shr_any ((ha.at0 hb4)).none (by first | omega | (simp; done) | (simp; omega))) ?_)
    rintro v4 w5 ⟨hq5, hS3⟩
    have k5 := grown_of_below hq5 none
    have hz9 := hq5.size
    have hb5 := below_g0 hb4 k5
    have hz10 := hb5.size
    refine stg (s_move rfl ?_)
    refine stg (s_move rfl ?_)
    refine stg (s_call fn33 rfl (rshr_any ((ha.at0 hb5)).none (by first | omega | (simp; done) | (simp; omega))) ?_)
    rintro v5 w6 ⟨hq6, hS4⟩
    have k6 := grown_of_below hq6 none
    have hz11 := hq6.size
    have hb6 := below_g0 hb5 k6
    have hz12 := hb6.size
    refine stg (s_call fn25 rfl (same_any ((hS3.g0 k6)).none (hS4).none) ?_)
    rintro v6 w7 ⟨hq7, hv2⟩
    rw [show (decide ((shrL xs n) = (shrL xs n))) = true from (decide_eq_true rfl)] at hv2
    subst hv2
    have k7 := grown_of_below hq7 none
    have hz13 := hq7.size
    have hb7 := below_g0 hb6 k7
    have hz14 := hb7.size
    refine st (s_pick rfl rfl ?_)
    refine st (s_move rfl ?_)
    refine stg (s_move rfl ?_)
    refine stg (s_call fn34 rfl (len_any ((ha.at0 hb7)).none (by first | omega | (simp; done) | (simp; omega))) ?_)
    rintro _ w8 ⟨hq8, rfl⟩
    have k8 := grown_of_below hq8 none
    have hz15 := hq8.size
    have hb8 := below_g0 hb7 k8
    have hz16 := hb8.size
    refine stg (s_move rfl ?_)
    refine stg (s_call fn35 rfl (rlen_any ((ha.at0 hb8)).none (by first | omega | (simp; done) | (simp; omega))) ?_)
    rintro _ w9 ⟨hq9, rfl⟩
    have k9 := grown_of_below hq9 none
    have hz17 := hq9.size
    have hb9 := below_g0 hb8 k9
    have hz18 := hb9.size
    refine stg (s_eq rfl rfl ?_)
    refine st (s_pick rfl rfl ?_)
    refine st (s_move rfl ?_)
    refine r_caseP 35 rfl (fun h2 => ?_) (fun h2 => absurd rfl h2)
    refine stg (s_move rfl ?_)
    refine stg (s_move rfl ?_)
    refine stg (s_call fn36 rfl (bit_any ((ha.at0 hb9)).none (by omega)) ?_)
    rintro _ w10 ⟨hq10, rfl⟩
    have k10 := grown_of_below hq10 none
    have hz19 := hq10.size
    have hb10 := below_g0 hb9 k10
    have hz20 := hb10.size
    refine stg (s_move rfl ?_)
    refine stg (s_move rfl ?_)
    refine stg (s_call fn37 rfl (rbit_any ((ha.at0 hb10)).none (by first | omega | (simp; done) | (simp; omega))) ?_)
    rintro _ w11 ⟨hq11, rfl⟩
    have k11 := grown_of_below hq11 none
    have hz21 := hq11.size
    have hb11 := below_g0 hb10 k11
    have hz22 := hb11.size
    refine stg (s_eqbool bool4 rfl rfl ?_)
    refine st (s_pick rfl rfl ?_)
    refine st (s_move rfl ?_)
    refine r_case 44 rfl (fun h3 => ?_) (fun h3 => absurd (beq_self_eq_true _) (by rw [h3]; decide))
    refine stg (s_move rfl ?_)
    refine stg (s_call fn38 rfl (right_any ((ha.at0 hb11)).none) ?_)
    rintro _ w12 ⟨hq12, rfl⟩
    have k12 := grown_of_below hq12 none
    have hz23 := hq12.size
    have hb12 := below_g0 hb11 k12
    have hz24 := hb12.size
    refine stg (s_move rfl ?_)
    refine stg (s_call fn39 rfl (rright_any ((ha.at0 hb12)).none) ?_)
    rintro _ w13 ⟨hq13, rfl⟩
    have k13 := grown_of_below hq13 none
    have hz25 := hq13.size
    have hb13 := below_g0 hb12 k13
    have hz26 := hb13.size
    refine stg (s_eqbool bool4 rfl rfl ?_)
    refine st (s_pick rfl rfl ?_)
    refine st (s_move rfl ?_)
    refine r_case 51 rfl (fun h4 => ?_) (fun h4 => absurd (beq_self_eq_true _) (by rw [h4]; decide))
    refine stg (s_move rfl ?_)
    refine stg (s_call fn40 rfl (norm_any ((ha.at0 hb13)).none (by first | omega | (simp; done) | (simp; omega))) ?_)
    rintro v7 w14 ⟨hq14, hS5⟩
    have k14 := grown_of_below hq14 none
    have hz27 := hq14.size
    have hb14 := below_g0 hb13 k14
    have hz28 := hb14.size
    refine stg (s_move rfl ?_)
    refine stg (s_call fn41 rfl (rnorm_any ((ha.at0 hb14)).none (by first | omega | (simp; done) | (simp; omega))) ?_)
    rintro v8 w15 ⟨hq15, hS6⟩
    have k15 := grown_of_below hq15 none
    have hz29 := hq15.size
    have hb15 := below_g0 hb14 k15
    have hz30 := hb15.size
    refine stg (s_call fn25 rfl (same_any ((hS5.g0 k15)).none (hS6).none) ?_)
    rintro v9 w16 ⟨hq16, hv3⟩
    rw [show (decide ((tl (nv xs)) = (tl (nv xs)))) = true from (decide_eq_true rfl)] at hv3
    subst hv3
    have k16 := grown_of_below hq16 none
    have hz31 := hq16.size
    have hb16 := below_g0 hb15 k16
    have hz32 := hb16.size
    refine st (s_pick rfl rfl ?_)
    refine st (s_assign rfl ?_)
    refine r_end ?_
    refine n_then ?_
    refine w_ret1 rfl rfl ?_
    exact ⟨_, rfl, hb16, by first | rfl | exact congrArg Value.bool (decide_eq_true rfl)⟩

theorem parts_any {w : World} {a : Value} {xs : List Int} {m c : Int} (ha : Sl Kd.u32 w (fun _ => False) a xs) (hm : 0 ≤ m ∧ m < 4294967296) (hc : 0 ≤ c ∧ c < 4294967296) :
    Calls Try.prog 8 [a, .int .u32 m, .int .u32 c].toArray w (Pure w fun v _ => v = .bool true) := by
  have hb0 := Below.refl w.heap.size w
  have hln1 := ha.lenle
  refine enter Try.func8 rfl rfl ?_
  refine w_seq ?_
  refine w_region ?_
  refine st (s_assign rfl ?_)
  refine r_end ?_
  refine n_then ?_
  refine w_seq ?_
  refine w_seq ?_
  refine w_region ?_
  refine st (s_call fn22 rfl (alive_any) ?_)
  rintro _ w1 ⟨hq1, rfl⟩
  have k1 := grown_of_below hq1 none
  have hz1 := hq1.size
  have hb1 := below_g0 hb0 k1
  have hz2 := hb1.size
  refine st (s_not rfl ?_)
  refine r_end ?_
  refine n_then ?_
  refine w_condF rfl ?_
  refine w_skip' ?_
  refine n_then ?_
  refine w_seq ?_
  refine w_seq ?_
  refine w_region ?_
  refine st (s_move rfl ?_)
  refine st (s_len sl32 rfl (ha.at0 hb1) ?_)
  refine st (s_gt rfl rfl ?_)
  refine r_end ?_
  refine n_then ?_
  refine w_condP rfl (fun h1 => ?_) (fun h1 => ?_)
  · refine w_seq ?_
    refine w_region ?_
    refine st (s_assign rfl ?_)
    refine r_end ?_
    refine n_then ?_
    refine w_ret1 rfl rfl ?_
    exact ⟨_, rfl, hb1, by first | rfl | exact congrArg Value.bool (decide_eq_true rfl)⟩
  · refine w_skip' ?_
    refine n_then ?_
    refine w_seq ?_
    refine w_region ?_
    refine st (s_move rfl ?_)
    refine st (s_move rfl ?_)
    refine st (s_call fn42 rfl (div_any ((ha.at0 hb1)).none (by first | omega | decide) (by first | omega | (simp; done) | (simp; omega))) ?_)
    rintro _ w2 ⟨hq2, v1, rfl, hS1⟩
    have k2 := grown_of_below hq2 none
    have hz3 := hq2.size
    have hb2 := below_g0 hb1 k2
    have hz4 := hb2.size
    refine st (s_move rfl ?_)
    refine st (s_extract rfl rfl ?_)
    refine st (s_extract rfl rfl ?_)
    refine st (s_assign rfl ?_)
    refine st (s_assign rfl ?_)
    refine r_end ?_
    refine n_then ?_
    refine w_seq ?_
    refine w_region ?_
    refine st (s_move rfl ?_)
    refine st (s_move rfl ?_)
    refine st (s_call fn43 rfl (rdiv_any ((ha.at0 hb2)).none (by first | omega | decide) (by first | omega | (simp; done) | (simp; omega))) ?_)
    rintro _ w3 ⟨hq3, v2, rfl, hS2⟩
    have k3 := grown_of_below hq3 none
    have hz5 := hq3.size
    have hb3 := below_g0 hb2 k3
    have hz6 := hb3.size
    refine st (s_move rfl ?_)
    refine st (s_extract rfl rfl ?_)
    refine st (s_extract rfl rfl ?_)
    refine st (s_assign rfl ?_)
    refine st (s_assign rfl ?_)
    refine r_end ?_
    refine n_then ?_
    refine w_seq ?_
    refine w_region ?_
    refine st (s_move rfl ?_)
    refine st (s_move rfl ?_)
    refine st (s_move rfl ?_)
    refine st (s_call fn44 rfl (mul_any ((ha.at0 hb3)).none (by first | omega | decide) (by first | omega | decide) (by first | omega | (simp; done) | (simp; omega))) ?_)
    rintro v3 w4 ⟨hq4, hS3⟩
    have k4 := grown_of_below hq4 none
    have hz7 := hq4.size
    have hb4 := below_g0 hb3 k4
    have hz8 := hb4.size
    refine st (s_move rfl ?_)
    refine st (s_move rfl ?_)
    refine st (s_move rfl ?_)
    refine st (s_call fn45 rfl (rmul_any ((ha.at0 hb4)).none (by first | omega | decide) (by first | omega | decide) (by first | omega | (simp; done) | (simp; omega))) ?_)
    rintro v4 w5 ⟨hq5, hS4⟩
    have k5 := grown_of_below hq5 none
    have hz9 := hq5.size
    have hb5 := below_g0 hb4 k5
    have hz10 := hb5.size
    refine st (s_call fn25 rfl (same_any ((hS3.g0 k5)).none (hS4).none) ?_)
    rintro v5 w6 ⟨hq6, hv3⟩
    rw [show (decide ((tl (nv xs * m + c)) = (tl (nv xs * m + c)))) = true from (decide_eq_true rfl)] at hv3
    subst hv3
    have k6 := grown_of_below hq6 none
    have hz11 := hq6.size
    have hb6 := below_g0 hb5 k6
    have hz12 := hb6.size
    refine st (s_move rfl ?_)
    refine stg (s_move rfl ?_)
    refine stg (s_move rfl ?_)
    refine stg (s_call fn25 rfl (same_any (((((hS1.g0 k3).g0 k4).g0 k5).g0 k6)).none ((((hS2.g0 k4).g0 k5).g0 k6)).none) ?_)
    rintro v6 w7 ⟨hq7, hv4⟩
    rw [show (decide ((tl (nv xs / m)) = (tl (nv xs / m)))) = true from (decide_eq_true rfl)] at hv4
    subst hv4
    have k7 := grown_of_below hq7 none
    have hz13 := hq7.size
    have hb7 := below_g0 hb6 k7
    have hz14 := hb7.size
    refine st (s_pick rfl rfl ?_)
    refine st (s_move rfl ?_)
    refine stg (s_move rfl ?_)
    refine stg (s_move rfl ?_)
    refine stg (s_eq rfl rfl ?_)
    refine st (s_pick rfl rfl ?_)
    refine st (s_assign rfl ?_)
    refine r_end ?_
    refine n_then ?_
    refine w_ret1 rfl rfl ?_
    exact ⟨_, rfl, hb7, by first | rfl | exact congrArg Value.bool (decide_eq_true rfl)⟩

theorem back_law {w : World} {a b : Value} {xs ys : List Int} {t0 t1 : Int} (ha : Sl Kd.u32 w (fun _ => False) a xs) (hb : Sl Kd.u32 w (fun _ => False) b ys) (ht0 : 0 ≤ t0 ∧ t0 < 4294967296) (ht1 : 0 ≤ t1 ∧ t1 < 4294967296) :
    Calls Try.prog 9 [a, b, .agg [.int .u32 t0, .int .u32 t1].toArray].toArray w (Pure w fun v _ => v = .bool true) := by
  have hb0 := Below.refl w.heap.size w
  have hln1 := ha.lenle
  have hln2 := hb.lenle
  have hpa := nv_nonneg (lim_sl ha)
  have hpb := nv_nonneg (lim_sl hb)
  have hal := add_len (lim_sl ha) (lim_sl hb)
  have hsl := shl_len (lim_sl ha) (k := (t0 % 200).toNat) (by omega)
  have hdl := div_len (lim_sl ha) t1
  have hb1 := tb_nv_len (lim_sl ha)
  have hb2 := tb_len (n := nv xs)
  refine enter Try.func9 rfl rfl ?_
  refine w_seq ?_
  refine w_region ?_
  refine st (s_box rfl ?_)
  intro g1 w1 hg1 hB1 k1 hs1
  have hb1 := below_g0 hb0 k1
  refine st (s_assign rfl ?_)
  refine r_end ?_
  refine n_then ?_
  refine w_seq ?_
  refine w_seq ?_
  refine w_region ?_
  refine st (s_call fn22 rfl (alive_any) ?_)
  rintro _ w2 ⟨hq1, rfl⟩
  have k2 := grown_of_below hq1 none
  have hz1 := hq1.size
  have hb2 := below_g0 hb1 k2
  have hz2 := hb2.size
  refine st (s_not rfl ?_)
  refine r_end ?_
  refine n_then ?_
  refine w_condF rfl ?_
  refine w_skip' ?_
  refine n_then ?_
  refine w_seq ?_
  refine w_seq ?_
  refine w_region ?_
  refine st (s_move rfl ?_)
  refine st (s_len sl32 rfl (ha.at0 hb2) ?_)
  refine st (s_gt rfl rfl ?_)
  refine st (s_move rfl ?_)
  refine r_caseP 18 rfl (fun h1 => ?_) (fun h1 => ?_)
  · refine s_pass rfl rfl ?_
    refine s_pass rfl rfl ?_
    refine s_pass rfl rfl ?_
    refine st (s_pick rfl rfl ?_)
    refine r_end ?_
    refine n_then ?_
    refine w_condT rfl ?_
    refine w_seq ?_
    refine w_region ?_
    refine st (s_assign rfl ?_)
    refine r_end ?_
    refine n_then ?_
    refine w_ret1 rfl rfl ?_
    exact ⟨_, rfl, hb2, by first | rfl | exact congrArg Value.bool (decide_eq_true rfl)⟩
  · refine stg (s_move rfl ?_)
    refine stg (s_len sl32 rfl (hb.at0 hb2) ?_)
    refine stg (s_gt rfl rfl ?_)
    refine st (s_pick rfl rfl ?_)
    refine r_end ?_
    refine n_then ?_
    refine w_condP rfl (fun h2 => ?_) (fun h2 => ?_)
    · refine w_seq ?_
      refine w_region ?_
      refine st (s_assign rfl ?_)
      refine r_end ?_
      refine n_then ?_
      refine w_ret1 rfl rfl ?_
      exact ⟨_, rfl, hb2, by first | rfl | exact congrArg Value.bool (decide_eq_true rfl)⟩
    · refine w_skip' ?_
      refine n_then ?_
      refine w_seq ?_
      refine w_region ?_
      refine st (s_move rfl ?_)
      refine st (s_call fn40 rfl (norm_any ((ha.at0 hb2)).none (by first | omega | (simp; done) | (simp; omega))) ?_)
      rintro v1 w3 ⟨hq2, hS1⟩
      have k3 := grown_of_below hq2 none
      have hz3 := hq2.size
      have hb3 := below_g0 hb2 k3
      have hz4 := hb3.size
      refine st (s_assign rfl ?_)
      refine r_end ?_
      refine n_then ?_
      refine w_seq ?_
      refine w_region ?_
      refine st (s_move rfl ?_)
      refine st (s_move rfl ?_)
      refine st (s_call fn26 rfl (add_any ((ha.at0 hb3)).none ((hb.at0 hb3)).none (by first | omega | (simp; done) | (simp; omega)) (by first | omega | (simp; done) | (simp; omega))) ?_)
      rintro v2 w4 ⟨hq3, hS2⟩
      have k4 := grown_of_below hq3 none
      have hz5 := hq3.size
      have hb4 := below_g0 hb3 k4
      have hz6 := hb4.size
      refine st (s_move rfl ?_)
      refine st (s_call fn23 rfl (sub_any (hS2).none ((hb.at0 hb4)).none (by first | omega | (simp; done) | (simp; omega)) (by first | omega | (simp; done) | (simp; omega))) ?_)
      rintro r1 w5 ⟨hq4, v3, hv1, hS3⟩
      rw [show (decide (nv ys ≤ nv (tl (nv xs + nv ys)))) = true from (by rw [nv_tl (by omega)]; exact decide_eq_true (by omega))] at hv1
      subst hv1
      rw [show (tl (nv (tl (nv xs + nv ys)) - nv ys)) = (tl (nv xs)) from back_sub hpa hpb] at hS3
      have k5 := grown_of_below hq4 none
      have hz7 := hq4.size
      have hb5 := below_g0 hb4 k5
      have hz8 := hb5.size
      refine st (s_move rfl ?_)
      refine st (s_extract rfl rfl ?_)
      refine st (s_extract rfl rfl ?_)
      refine st (s_assign rfl ?_)
      refine st (s_assign rfl ?_)
      refine r_end ?_
      refine n_then ?_
      refine w_seq ?_
      refine w_region ?_
      refine st (s_iaddr arr49 rfl rfl (by omega) (by omega) ?_)
      refine st (s_load one44 rfl ((((hB1.g0 k2).g0 k3).g0 k4).g0 k5).range (j := 0) rfl ?_)
      refine st (s_remk rfl rfl (by omega) (by omega) ?_)
      refine st (s_conv64 intk44 intk3 rfl (by omega) ?_)
      refine st (s_assign rfl ?_)
      refine r_end ?_
      refine n_then ?_
      refine w_seq ?_
      refine w_seq ?_
      refine w_region ?_
      refine st (s_move rfl ?_)
      refine st (s_not rfl ?_)
      refine st (s_move rfl ?_)
      refine stg (s_move rfl ?_)
      refine stg (s_move rfl ?_)
      refine stg (s_call fn25 rfl (same_any (hS3).none (((hS1.g0 k4).g0 k5)).none) ?_)
      rintro v4 w6 ⟨hq5, hv2⟩
      rw [show (decide ((tl (nv xs)) = (tl (nv xs)))) = true from (by first | exact decide_eq_true rfl | (rw [Int.add_comm (nv ys) (nv xs)]; exact decide_eq_true rfl))] at hv2
      subst hv2
      have k6 := grown_of_below hq5 none
      have hz9 := hq5.size
      have hb6 := below_g0 hb5 k6
      have hz10 := hb6.size
      refine stg (s_not rfl ?_)
      refine st (s_pick rfl rfl ?_)
      refine st (s_move rfl ?_)
      refine stg (s_move rfl ?_)
      refine stg (s_move rfl ?_)
      refine stg (s_call fn30 rfl (shl_any ((ha.at0 hb6)).none (by first | omega | (simp; done) | (simp; omega))) ?_)
      rintro v5 w7 ⟨hq6, hS4⟩
      rw [show (shlL xs (t0 % 200)) = (tl (nv xs * 2 ^ (t0 % 200).toNat)) from shl_fit xs (by omega) (by omega)] at hS4
      have k7 := grown_of_below hq6 none
      have hz11 := hq6.size
      have hb7 := below_g0 hb6 k7
      have hz12 := hb7.size
      refine stg (s_move rfl ?_)
      refine stg (s_call fn32 rfl (shr_any (hS4).none (by first | omega | (simp; done) | (simp; omega))) ?_)
      rintro v6 w8 ⟨hq7, hS5⟩
      rw [show (shrL (tl (nv xs * 2 ^ (t0 % 200).toNat)) (t0 % 200)) = (tl (nv xs)) from back_shift hpa (by omega) (by omega)] at hS5
      have k8 := grown_of_below hq7 none
      have hz13 := hq7.size
      have hb8 := below_g0 hb7 k8
      have hz14 := hb8.size
      refine stg (s_move rfl ?_)
      refine stg (s_call fn25 rfl (same_any (hS5).none ((((((hS1.g0 k4).g0 k5).g0 k6).g0 k7).g0 k8)).none) ?_)
      rintro v7 w9 ⟨hq8, hv3⟩
      rw [show (decide ((tl (nv xs)) = (tl (nv xs)))) = true from (by first | exact decide_eq_true rfl | (rw [Int.add_comm (nv ys) (nv xs)]; exact decide_eq_true rfl))] at hv3
      subst hv3
      have k9 := grown_of_below hq8 none
      have hz15 := hq8.size
      have hb9 := below_g0 hb8 k9
      have hz16 := hb9.size
      refine stg (s_not rfl ?_)
      refine st (s_pick rfl rfl ?_)
      refine st (s_move rfl ?_)
      refine stg (s_move rfl ?_)
      refine stg (s_move rfl ?_)
      refine stg (s_call fn30 rfl (shl_any ((ha.at0 hb9)).none (by first | omega | (simp; done) | (simp; omega))) ?_)
      rintro v8 w10 ⟨hq9, hS6⟩
      rw [show (shlL xs (t0 % 200)) = (tl (nv xs * 2 ^ (t0 % 200).toNat)) from shl_fit xs (by omega) (by omega)] at hS6
      have k10 := grown_of_below hq9 none
      have hz17 := hq9.size
      have hb10 := below_g0 hb9 k10
      have hz18 := hb10.size
      refine stg (s_call fn34 rfl (len_any (hS6).none (by first | omega | (simp; done) | (simp; omega))) ?_)
      rintro _ w11 ⟨hq10, rfl⟩
      have k11 := grown_of_below hq10 none
      have hz19 := hq10.size
      have hb11 := below_g0 hb10 k11
      have hz20 := hb11.size
      refine stg (s_move rfl ?_)
      refine stg (s_call fn34 rfl (len_any ((ha.at0 hb11)).none (by first | omega | (simp; done) | (simp; omega))) ?_)
      rintro _ w12 ⟨hq11, rfl⟩
      have k12 := grown_of_below hq11 none
      have hz21 := hq11.size
      have hb12 := below_g0 hb11 k12
      have hz22 := hb12.size
      refine stg (s_move rfl ?_)
      refine stg (s_add rfl rfl (by omega) ?_)
      refine stg (s_ne rfl rfl ?_)
      refine stg (s_move rfl ?_)
      refine r_caseP 65 rfl (fun h3 => ?_) (fun h3 => ?_)
      · refine stg (s_move rfl ?_)
        refine stg (s_len sl32 rfl (((((((((hS1.g0 k4).g0 k5).g0 k6).g0 k7).g0 k8).g0 k9).g0 k10).g0 k11).g0 k12) ?_)
        refine stg (s_gt rfl rfl ?_)
        refine stg (s_pick rfl rfl ?_)
        refine st (s_pick rfl rfl ?_)
        refine st (s_move rfl ?_)
        refine r_caseP 71 rfl (fun h4 => absurd (back_len hpa h4 (by omega)) h3) (fun h4 => ?_)
        refine stg (s_move rfl ?_)
        refine stg (s_move rfl ?_)
        refine stg (s_call fn26 rfl (add_any ((ha.at0 hb12)).none ((hb.at0 hb12)).none (by first | omega | (simp; done) | (simp; omega)) (by first | omega | (simp; done) | (simp; omega))) ?_)
        rintro v9 w13 ⟨hq12, hS7⟩
        have k13 := grown_of_below hq12 none
        have hz23 := hq12.size
        have hb13 := below_g0 hb12 k13
        have hz24 := hb13.size
        refine stg (s_move rfl ?_)
        refine stg (s_move rfl ?_)
        refine stg (s_call fn26 rfl (add_any ((hb.at0 hb13)).none ((ha.at0 hb13)).none (by first | omega | (simp; done) | (simp; omega)) (by first | omega | (simp; done) | (simp; omega))) ?_)
        rintro v10 w14 ⟨hq13, hS8⟩
        have k14 := grown_of_below hq13 none
        have hz25 := hq13.size
        have hb14 := below_g0 hb13 k14
        have hz26 := hb14.size
        refine stg (s_call fn25 rfl (same_any ((hS7.g0 k14)).none (hS8).none) ?_)
        rintro v11 w15 ⟨hq14, hv4⟩
        rw [show (decide ((tl (nv xs + nv ys)) = (tl (nv ys + nv xs)))) = true from (by first | exact decide_eq_true rfl | (rw [Int.add_comm (nv ys) (nv xs)]; exact decide_eq_true rfl))] at hv4
        subst hv4
        have k15 := grown_of_below hq14 none
        have hz27 := hq14.size
        have hb15 := below_g0 hb14 k15
        have hz28 := hb15.size
        refine stg (s_not rfl ?_)
        refine st (s_pick rfl rfl ?_)
        refine r_end ?_
        refine n_then ?_
        refine w_condF rfl ?_
        refine w_skip' ?_
        refine n_then ?_
        refine w_seq ?_
        refine w_seq ?_
        refine w_region ?_
        refine st (s_iaddr arr49 rfl rfl (by omega) (by omega) ?_)
        refine st (s_load one44 rfl ((((((((((((((hB1.g0 k2).g0 k3).g0 k4).g0 k5).g0 k6).g0 k7).g0 k8).g0 k9).g0 k10).g0 k11).g0 k12).g0 k13).g0 k14).g0 k15).range (j := 1) rfl ?_)
        refine st (s_eq rfl rfl ?_)
        refine r_end ?_
        refine n_then ?_
        refine w_condP rfl (fun h5 => ?_) (fun h5 => ?_)
        · refine w_seq ?_
          refine w_region ?_
          refine st (s_assign rfl ?_)
          refine r_end ?_
          refine n_then ?_
          refine w_ret1 rfl rfl ?_
          exact ⟨_, rfl, hb15, by first | rfl | exact congrArg Value.bool (decide_eq_true rfl)⟩
        · refine w_skip' ?_
          refine n_then ?_
          refine w_seq ?_
          refine w_region ?_
          refine st (s_move rfl ?_)
          refine st (s_iaddr arr49 rfl rfl (by omega) (by omega) ?_)
          refine st (s_load one44 rfl ((((((((((((((hB1.g0 k2).g0 k3).g0 k4).g0 k5).g0 k6).g0 k7).g0 k8).g0 k9).g0 k10).g0 k11).g0 k12).g0 k13).g0 k14).g0 k15).range (j := 1) rfl ?_)
          refine st (s_call fn42 rfl (div_any ((ha.at0 hb15)).none (by first | omega | decide) (by first | omega | (simp; done) | (simp; omega))) ?_)
          rintro r2 w16 ⟨hq15, v12, hv5, hS9⟩
          rw [show (if t1 = 0 then 0 else nv xs % t1) = (nv xs % t1) from (if_neg (by omega))] at hv5
          subst hv5
          have k16 := grown_of_below hq15 none
          have hz29 := hq15.size
          have hb16 := below_g0 hb15 k16
          have hz30 := hb16.size
          refine st (s_move rfl ?_)
          refine st (s_extract rfl rfl ?_)
          refine st (s_extract rfl rfl ?_)
          refine st (s_assign rfl ?_)
          refine st (s_assign rfl ?_)
          refine r_end ?_
          refine n_then ?_
          refine w_seq ?_
          refine w_region ?_
          have hr0 := Int.emod_nonneg (nv xs) (show t1 ≠ 0 by omega)
          have hr1 := Int.emod_lt_of_pos (nv xs) (show 0 < t1 by omega)
          refine st (s_move rfl ?_)
          refine st (s_iaddr arr49 rfl rfl (by omega) (by omega) ?_)
          refine st (s_load one44 rfl (((((((((((((((hB1.g0 k2).g0 k3).g0 k4).g0 k5).g0 k6).g0 k7).g0 k8).g0 k9).g0 k10).g0 k11).g0 k12).g0 k13).g0 k14).g0 k15).g0 k16).range (j := 1) rfl ?_)
          refine st (s_lt rfl rfl ?_)
          refine st (s_move rfl ?_)
          refine r_caseP 95 rfl (fun h6 => ?_) (fun h6 => absurd hr1 h6)
          refine stg (s_move rfl ?_)
          refine stg (s_iaddr arr49 rfl rfl (by omega) (by omega) ?_)
          refine stg (s_load one44 rfl (((((((((((((((hB1.g0 k2).g0 k3).g0 k4).g0 k5).g0 k6).g0 k7).g0 k8).g0 k9).g0 k10).g0 k11).g0 k12).g0 k13).g0 k14).g0 k15).g0 k16).range (j := 1) rfl ?_)
          refine stg (s_move rfl ?_)
          refine stg (s_call fn44 rfl (mul_any (hS9).none (by first | omega | decide) (by first | omega | decide) (by first | omega | (simp; done) | (simp; omega))) ?_)
          rintro v13 w17 ⟨hq16, hS10⟩
          rw [show (tl (nv (tl (nv xs / t1)) * t1 + (nv xs % t1))) = (tl (nv xs)) from back_div hpa (by omega)] at hS10
          have k17 := grown_of_below hq16 none
          have hz31 := hq16.size
          have hb17 := below_g0 hb16 k17
          have hz32 := hb17.size
          refine stg (s_move rfl ?_)
          refine stg (s_call fn25 rfl (same_any (hS10).none (((((((((((((((hS1.g0 k4).g0 k5).g0 k6).g0 k7).g0 k8).g0 k9).g0 k10).g0 k11).g0 k12).g0 k13).g0 k14).g0 k15).g0 k16).g0 k17)).none) ?_)
          rintro v14 w18 ⟨hq17, hv6⟩
          rw [show (decide ((tl (nv xs)) = (tl (nv xs)))) = true from (by first | exact decide_eq_true rfl | (rw [Int.add_comm (nv ys) (nv xs)]; exact decide_eq_true rfl))] at hv6
          subst hv6
          have k18 := grown_of_below hq17 none
          have hz33 := hq17.size
          have hb18 := below_g0 hb17 k18
          have hz34 := hb18.size
          refine st (s_pick rfl rfl ?_)
          refine st (s_assign rfl ?_)
          refine r_end ?_
          refine n_then ?_
          refine w_ret1 rfl rfl ?_
          exact ⟨_, rfl, hb18, by first | rfl | exact congrArg Value.bool (decide_eq_true rfl)⟩
      · refine s_pass rfl rfl ?_
        refine s_pass rfl rfl ?_
        refine s_pass rfl rfl ?_
        refine stg (s_pick rfl rfl ?_)
        refine st (s_pick rfl rfl ?_)
        refine st (s_move rfl ?_)
        refine stg (s_move rfl ?_)
        refine stg (s_move rfl ?_)
        refine stg (s_call fn26 rfl (add_any ((ha.at0 hb12)).none ((hb.at0 hb12)).none (by first | omega | (simp; done) | (simp; omega)) (by first | omega | (simp; done) | (simp; omega))) ?_)
        rintro v15 w19 ⟨hq18, hS11⟩
        have k19 := grown_of_below hq18 none
        have hz35 := hq18.size
        have hb19 := below_g0 hb12 k19
        have hz36 := hb19.size
        refine stg (s_move rfl ?_)
        refine stg (s_move rfl ?_)
        refine stg (s_call fn26 rfl (add_any ((hb.at0 hb19)).none ((ha.at0 hb19)).none (by first | omega | (simp; done) | (simp; omega)) (by first | omega | (simp; done) | (simp; omega))) ?_)
        rintro v16 w20 ⟨hq19, hS12⟩
        have k20 := grown_of_below hq19 none
        have hz37 := hq19.size
        have hb20 := below_g0 hb19 k20
        have hz38 := hb20.size
        refine stg (s_call fn25 rfl (same_any ((hS11.g0 k20)).none (hS12).none) ?_)
        rintro v17 w21 ⟨hq20, hv7⟩
        rw [show (decide ((tl (nv xs + nv ys)) = (tl (nv ys + nv xs)))) = true from (by first | exact decide_eq_true rfl | (rw [Int.add_comm (nv ys) (nv xs)]; exact decide_eq_true rfl))] at hv7
        subst hv7
        have k21 := grown_of_below hq20 none
        have hz39 := hq20.size
        have hb21 := below_g0 hb20 k21
        have hz40 := hb21.size
        refine stg (s_not rfl ?_)
        refine st (s_pick rfl rfl ?_)
        refine r_end ?_
        refine n_then ?_
        refine w_condF rfl ?_
        refine w_skip' ?_
        refine n_then ?_
        refine w_seq ?_
        refine w_seq ?_
        refine w_region ?_
        refine st (s_iaddr arr49 rfl rfl (by omega) (by omega) ?_)
        refine st (s_load one44 rfl ((((((((((((((hB1.g0 k2).g0 k3).g0 k4).g0 k5).g0 k6).g0 k7).g0 k8).g0 k9).g0 k10).g0 k11).g0 k12).g0 k19).g0 k20).g0 k21).range (j := 1) rfl ?_)
        refine st (s_eq rfl rfl ?_)
        refine r_end ?_
        refine n_then ?_
        refine w_condP rfl (fun h7 => ?_) (fun h7 => ?_)
        · refine w_seq ?_
          refine w_region ?_
          refine st (s_assign rfl ?_)
          refine r_end ?_
          refine n_then ?_
          refine w_ret1 rfl rfl ?_
          exact ⟨_, rfl, hb21, by first | rfl | exact congrArg Value.bool (decide_eq_true rfl)⟩
        · refine w_skip' ?_
          refine n_then ?_
          refine w_seq ?_
          refine w_region ?_
          refine st (s_move rfl ?_)
          refine st (s_iaddr arr49 rfl rfl (by omega) (by omega) ?_)
          refine st (s_load one44 rfl ((((((((((((((hB1.g0 k2).g0 k3).g0 k4).g0 k5).g0 k6).g0 k7).g0 k8).g0 k9).g0 k10).g0 k11).g0 k12).g0 k19).g0 k20).g0 k21).range (j := 1) rfl ?_)
          refine st (s_call fn42 rfl (div_any ((ha.at0 hb21)).none (by first | omega | decide) (by first | omega | (simp; done) | (simp; omega))) ?_)
          rintro r3 w22 ⟨hq21, v18, hv8, hS13⟩
          rw [show (if t1 = 0 then 0 else nv xs % t1) = (nv xs % t1) from (if_neg (by omega))] at hv8
          subst hv8
          have k22 := grown_of_below hq21 none
          have hz41 := hq21.size
          have hb22 := below_g0 hb21 k22
          have hz42 := hb22.size
          refine st (s_move rfl ?_)
          refine st (s_extract rfl rfl ?_)
          refine st (s_extract rfl rfl ?_)
          refine st (s_assign rfl ?_)
          refine st (s_assign rfl ?_)
          refine r_end ?_
          refine n_then ?_
          refine w_seq ?_
          refine w_region ?_
          have hr0 := Int.emod_nonneg (nv xs) (show t1 ≠ 0 by omega)
          have hr1 := Int.emod_lt_of_pos (nv xs) (show 0 < t1 by omega)
          refine st (s_move rfl ?_)
          refine st (s_iaddr arr49 rfl rfl (by omega) (by omega) ?_)
          refine st (s_load one44 rfl (((((((((((((((hB1.g0 k2).g0 k3).g0 k4).g0 k5).g0 k6).g0 k7).g0 k8).g0 k9).g0 k10).g0 k11).g0 k12).g0 k19).g0 k20).g0 k21).g0 k22).range (j := 1) rfl ?_)
          refine st (s_lt rfl rfl ?_)
          refine st (s_move rfl ?_)
          refine r_caseP 95 rfl (fun h8 => ?_) (fun h8 => absurd hr1 h8)
          refine stg (s_move rfl ?_)
          refine stg (s_iaddr arr49 rfl rfl (by omega) (by omega) ?_)
          refine stg (s_load one44 rfl (((((((((((((((hB1.g0 k2).g0 k3).g0 k4).g0 k5).g0 k6).g0 k7).g0 k8).g0 k9).g0 k10).g0 k11).g0 k12).g0 k19).g0 k20).g0 k21).g0 k22).range (j := 1) rfl ?_)
          refine stg (s_move rfl ?_)
          refine stg (s_call fn44 rfl (mul_any (hS13).none (by first | omega | decide) (by first | omega | decide) (by first | omega | (simp; done) | (simp; omega))) ?_)
          rintro v19 w23 ⟨hq22, hS14⟩
          rw [show (tl (nv (tl (nv xs / t1)) * t1 + (nv xs % t1))) = (tl (nv xs)) from back_div hpa (by omega)] at hS14
          have k23 := grown_of_below hq22 none
          have hz43 := hq22.size
          have hb23 := below_g0 hb22 k23
          have hz44 := hb23.size
          refine stg (s_move rfl ?_)
          refine stg (s_call fn25 rfl (same_any (hS14).none (((((((((((((((hS1.g0 k4).g0 k5).g0 k6).g0 k7).g0 k8).g0 k9).g0 k10).g0 k11).g0 k12).g0 k19).g0 k20).g0 k21).g0 k22).g0 k23)).none) ?_)
          rintro v20 w24 ⟨hq23, hv9⟩
          rw [show (decide ((tl (nv xs)) = (tl (nv xs)))) = true from (by first | exact decide_eq_true rfl | (rw [Int.add_comm (nv ys) (nv xs)]; exact decide_eq_true rfl))] at hv9
          subst hv9
          have k24 := grown_of_below hq23 none
          have hz45 := hq23.size
          have hb24 := below_g0 hb23 k24
          have hz46 := hb24.size
          refine st (s_pick rfl rfl ?_)
          refine st (s_assign rfl ?_)
          refine r_end ?_
          refine n_then ?_
          refine w_ret1 rfl rfl ?_
          exact ⟨_, rfl, hb24, by first | rfl | exact congrArg Value.bool (decide_eq_true rfl)⟩
end Go.Proofs.Ytencmmhfiepojaa
