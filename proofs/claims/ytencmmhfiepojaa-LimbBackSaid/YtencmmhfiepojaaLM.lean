/- Part of the proof that is named in YtencmmhfiepojaaLRowBack: a library for walks, or a function's walk. -/
import Derived.Test.YtencmmhfiepojaaLL
set_option maxRecDepth 20000
set_option linter.unusedSimpArgs false
set_option linter.unusedVariables false
namespace Go.Proofs.Ytencmmhfiepojaa
open Go.RowKit Go.Gw
theorem sums_any {w : World} {a b : Value} {xs ys : List Int} (ha : Sl Kd.u32 w (fun _ => False) a xs) (hb : Sl Kd.u32 w (fun _ => False) b ys) :
    Calls Try.prog 6 [a, b].toArray w (Pure w fun v _ => v = .bool true) := by
  have hb0 := Below.refl w.heap.size w
  have hln1 := ha.lenle
  have hln2 := hb.lenle
  refine enter Try.func6 rfl rfl ?_
  refine w_seq ?_
  refine w_region ?_
  refine st (s_assign rfl ?_)
  refine r_end ?_
  refine n_then ?_
  refine w_seq ?_
  refine w_seq ?_
  refine w_region ?_
  refine st (s_call fn22 rfl (alive_any) ?_)
  rintro _ w1 ⟨hq1, rfl⟩
  have k1 := grown_of_below hq1 none
  have hz1 := hq1.size
  have hb1 := below_g0 hb0 k1
  have hz2 := hb1.size
  refine st (s_not rfl ?_)
  refine r_end ?_
  refine n_then ?_
  refine w_condF rfl ?_
  refine w_skip' ?_
  refine n_then ?_
  refine w_seq ?_
  refine w_seq ?_
  refine w_region ?_
  refine st (s_move rfl ?_)
  refine st (s_len sl32 rfl (ha.at0 hb1) ?_)
  refine st (s_gt rfl rfl ?_)
  refine st (s_move rfl ?_)
  refine r_caseP 16 rfl (fun h1 => ?_) (fun h1 => ?_)
  · refine s_pass rfl rfl ?_
    refine s_pass rfl rfl ?_
    refine s_pass rfl rfl ?_
    refine st (s_pick rfl rfl ?_)
    refine r_end ?_
    refine n_then ?_
    refine w_condT rfl ?_
    refine w_seq ?_
    refine w_region ?_
    refine st (s_assign rfl ?_)
    refine r_end ?_
    refine n_then ?_
    refine w_ret1 rfl rfl ?_
    exact ⟨_, rfl, hb1, by first | rfl | exact congrArg Value.bool (decide_eq_true rfl)⟩
  · refine stg (s_move rfl ?_)
    refine stg (s_len sl32 rfl (hb.at0 hb1) ?_)
    refine stg (s_gt rfl rfl ?_)
    refine st (s_pick rfl rfl ?_)
    refine r_end ?_
    refine n_then ?_
    refine w_condP rfl (fun h2 => ?_) (fun h2 => ?_)
    · refine w_seq ?_
      refine w_region ?_
      refine st (s_assign rfl ?_)
      refine r_end ?_
      refine n_then ?_
      refine w_ret1 rfl rfl ?_
      exact ⟨_, rfl, hb1, by first | rfl | exact congrArg Value.bool (decide_eq_true rfl)⟩
    · refine w_skip' ?_
      refine n_then ?_
      refine w_seq ?_
      refine w_region ?_
      refine st (s_bslice0 (K := Kd.u32) (base := w.heap.size) (F := (fun _ => False)) sl32 (by omega) (fun _ h => h.elim) ?_)
      intro v1 w2 hO1 k2
      have hb2 := below_g0 hb1 k2
      have hz3 := hb2.size
      refine st (s_move rfl ?_)
      refine st (s_append (K := Kd.u32) sl32 rfl rfl hO1 ((ha.at0 hb2).weak (fun k hk h => h.elim (fun h => by first | exact h.elim | exact h | exact Or.inl h) (fun h => by have h9 := (hO1.lt k h).1; first | exact Or.inr h9 | (simp [Loc]; omega)))) u32_ones (by simp; omega) (by simp; omega) (by first | exact Nat.le_refl _ | omega) (fun _ h => h.elim) ?_)
      intro v2 w3 hO2 k3 hr1
      rw [List.nil_append] at hO2
      have hb3 := hb2.grown k3 hb2.size (fun k_ hk_ => (hO1.lt k_ hk_).1)
      have hz4 := hb3.size
      have hzz1 := k1.size
      have hzz2 := k2.size
      have hzz3 := k3.size
      have hS1 := ((ha.at0 hb3)).none
      have hS2 := ((hb.at0 hb3)).none
      have hS3 := hO2.sl.none
      have hb4 := Below.refl w3.heap.size w3
      refine st (s_bslice0 (K := Kd.u32) (base := w3.heap.size) (F := (fun _ => False)) sl32 (by omega) (fun _ h => h.elim) ?_)
      intro v3 w4 hO3 k4
      have hb5 := below_g0 hb4 k4
      have hz5 := hb5.size
      refine st (s_move rfl ?_)
      refine st (s_append (K := Kd.u32) sl32 rfl rfl hO3 ((hS2.at0 hb5).weak (fun k hk h => h.elim (fun h => by first | exact h.elim | exact h | exact Or.inl h) (fun h => by have h9 := (hO3.lt k h).1; first | exact Or.inr h9 | (simp [Loc]; omega)))) u32_ones (by simp; omega) (by simp; omega) (by first | exact Nat.le_refl _ | omega) (fun _ h => h.elim) ?_)
      intro v4 w5 hO4 k5 hr2
      rw [List.nil_append] at hO4
      have hb6 := hb5.grown k5 hb5.size (fun k_ hk_ => (hO3.lt k_ hk_).1)
      have hz6 := hb6.size
      refine st (s_assign rfl ?_)
      refine st (s_assign rfl ?_)
      refine r_end ?_
      refine n_then ?_
      refine w_seq ?_
      refine w_region ?_
      have hzz4 := k1.size
      have hzz5 := k2.size
      have hzz6 := k3.size
      have hzz7 := k4.size
      have hzz8 := k5.size
      have hS4 := ((hS1.at0 hb6)).none
      have hS5 := ((hS2.at0 hb6)).none
      have hS6 := ((hS3.at0 hb6)).none
      have hS7 := hO4.sl.none
      have hb7 := Below.refl w5.heap.size w5
      refine st (s_move rfl ?_)
      refine st (s_move rfl ?_)
      refine st (s_call fn23 rfl (sub_any ((hS6.at0 hb7)).none ((hS7.at0 hb7)).none (by first | omega | (simp; done) | (simp; omega)) (by first | omega | (simp; done) | (simp; omega))) ?_)
      rintro _ w6 ⟨hq2, v5, rfl, hS8⟩
      have k6 := grown_of_below hq2 none
      have hz7 := hq2.size
      have hb8 := below_g0 hb7 k6
      have hz8 := hb8.size
      refine st (s_move rfl ?_)
      refine st (s_extract rfl rfl ?_)
      refine st (s_extract rfl rfl ?_)
      refine st (s_assign rfl ?_)
      refine st (s_assign rfl ?_)
      refine r_end ?_
      refine n_then ?_
      refine w_seq ?_
      refine w_region ?_
      refine st (s_move rfl ?_)
      refine st (s_move rfl ?_)
      refine st (s_call fn24 rfl (rsub_any ((hS4.at0 hb8)).none ((hS5.at0 hb8)).none (by first | omega | (simp; done) | (simp; omega)) (by first | omega | (simp; done) | (simp; omega))) ?_)
      rintro _ w7 ⟨hq3, v6, rfl, hS9⟩
      have k7 := grown_of_below hq3 none
      have hz9 := hq3.size
      have hb9 := below_g0 hb8 k7
      have hz10 := hb9.size
      refine st (s_move rfl ?_)
      refine st (s_extract rfl rfl ?_)
      refine st (s_extract rfl rfl ?_)
      refine st (s_assign rfl ?_)
      refine st (s_assign rfl ?_)
      refine r_end ?_
      refine n_then ?_
      refine w_seq ?_
      refine w_region ?_
      refine st (s_move rfl ?_)
      refine st (s_move rfl ?_)
      refine st (s_call fn26 rfl (add_any ((hS6.at0 hb9)).none ((hS7.at0 hb9)).none (by first | omega | (simp; done) | (simp; omega)) (by first | omega | (simp; done) | (simp; omega))) ?_)
      rintro v7 w8 ⟨hq4, hS10⟩
      have k8 := grown_of_below hq4 none
      have hz11 := hq4.size
      have hb10 := below_g0 hb9 k8
      have hz12 := hb10.size
      refine st (s_move rfl ?_)
      refine st (s_move rfl ?_)
      refine st (s_call fn27 rfl (radd_any ((hS4.at0 hb10)).none ((hS5.at0 hb10)).none (by first | omega | (simp; done) | (simp; omega)) (by first | omega | (simp; done) | (simp; omega))) ?_)
      rintro v8 w9 ⟨hq5, hS11⟩
      have k9 := grown_of_below hq5 none
      have hz13 := hq5.size
      have hb11 := below_g0 hb10 k9
      have hz14 := hb11.size
      refine st (s_call fn25 rfl (same_any ((hS10.g0 k9)).none (hS11).none) ?_)
      rintro v9 w10 ⟨hq6, hv1⟩
      rw [show (decide ((tl (nv xs + nv ys)) = (tl (nv xs + nv ys)))) = true from (decide_eq_true rfl)] at hv1
      subst hv1
      have k10 := grown_of_below hq6 none
      have hz15 := hq6.size
      have hb12 := below_g0 hb11 k10
      have hz16 := hb12.size
      refine st (s_move rfl ?_)
      refine stg (s_move rfl ?_)
      refine stg (s_move rfl ?_)
      refine stg (s_call fn25 rfl (same_any (((((hS8.g0 k7).g0 k8).g0 k9).g0 k10)).none ((((hS9.g0 k8).g0 k9).g0 k10)).none) ?_)
      rintro v10 w11 ⟨hq7, hv2⟩
      rw [show (decide ((tl (nv xs - nv ys)) = (tl (nv xs - nv ys)))) = true from (decide_eq_true rfl)] at hv2
      subst hv2
      have k11 := grown_of_below hq7 none
      have hz17 := hq7.size
      have hb13 := below_g0 hb12 k11
      have hz18 := hb13.size
      refine st (s_pick rfl rfl ?_)
      refine st (s_move rfl ?_)
      refine stg (s_move rfl ?_)
      refine stg (s_move rfl ?_)
      refine stg (s_eqbool bool4 rfl rfl ?_)
      refine st (s_pick rfl rfl ?_)
      refine st (s_move rfl ?_)
      refine r_case 56 rfl (fun h3 => ?_) (fun h3 => absurd (beq_self_eq_true _) (by rw [h3]; decide))
      refine stg (s_move rfl ?_)
      refine stg (s_move rfl ?_)
      refine stg (s_call fn28 rfl (cmp_any ((hS6.at0 hb13)).none ((hS7.at0 hb13)).none) ?_)
      rintro _ w12 ⟨hq8, rfl⟩
      have k12 := grown_of_below hq8 none
      have hz19 := hq8.size
      have hb14 := below_g0 hb13 k12
      have hz20 := hb14.size
      refine stg (s_move rfl ?_)
      refine stg (s_move rfl ?_)
      refine stg (s_call fn29 rfl (rcmp_any ((hS4.at0 hb14)).none ((hS5.at0 hb14)).none (by first | omega | (simp; done) | (simp; omega)) (by first | omega | (simp; done) | (simp; omega))) ?_)
      rintro _ w13 ⟨hq9, rfl⟩
      have k13 := grown_of_below hq9 none
      have hz21 := hq9.size
      have hb15 := below_g0 hb14 k13
      have hz22 := hb15.size
      refine stg (s_eq rfl rfl ?_)
      refine st (s_pick rfl rfl ?_)
      refine st (s_move rfl ?_)
      refine r_caseP 65 rfl (fun h4 => ?_) (fun h4 => absurd rfl h4)
      refine stg (s_move rfl ?_)
      refine stg (s_move rfl ?_)
      refine stg (s_call fn25 rfl (same_any ((hS6.at0 hb15)).none ((hS4.at0 hb15)).none) ?_)
      rintro v11 w14 ⟨hq10, hv3⟩
      rw [show (decide (xs = xs)) = true from (decide_eq_true rfl)] at hv3
      subst hv3
      have k14 := grown_of_below hq10 none
      have hz23 := hq10.size
      have hb16 := below_g0 hb15 k14
      have hz24 := hb16.size
      refine st (s_pick rfl rfl ?_)
      refine st (s_move rfl ?_)
      refine stg (s_move rfl ?_)
      refine stg (s_move rfl ?_)
      refine stg (s_call fn25 rfl (same_any ((hS7.at0 hb16)).none ((hS5.at0 hb16)).none) ?_)
      rintro v12 w15 ⟨hq11, hv4⟩
      rw [show (decide (ys = ys)) = true from (decide_eq_true rfl)] at hv4
      subst hv4
      have k15 := grown_of_below hq11 none
      have hz25 := hq11.size
      have hb17 := below_g0 hb16 k15
      have hz26 := hb17.size
      refine st (s_pick rfl rfl ?_)
      refine st (s_assign rfl ?_)
      refine r_end ?_
      refine n_then ?_
      refine w_ret1 rfl rfl ?_
      exact ⟨_, rfl, (hb3.trans ((hb6.trans (hb17.mono hb6.size)).mono hb3.size)), by first | rfl | exact congrArg Value.bool (decide_eq_true rfl)⟩
end Go.Proofs.Ytencmmhfiepojaa
