/- Part of the proof: a library for walks, plain laws, and functions' walks. -/
import Derived.Test.YtencmmhfiepojaaM6
set_option maxRecDepth 20000
set_option linter.unusedSimpArgs false
set_option linter.unusedVariables false
namespace Go.Proofs.Ytencmmhfiepojaa
open Go.RowKit Go.Gw
theorem alive2_any {w : World}  :
    Calls Try.prog 46 [].toArray w (Pure w fun v _ => v = .bool true) := by
  have hb0 := Below.refl w.heap.size w
  refine enter Try.func46 rfl rfl ?_
  refine w_seq ?_
  refine w_region ?_
  refine st (s_assign rfl ?_)
  refine r_end ?_
  refine n_then ?_
  refine w_seq ?_
  refine w_region ?_
  refine st (s_call fn49 rfl (of_any (by omega)) ?_)
  rintro _ w1 ⟨hq1, v1, rfl, hS1⟩
  have k1 := grown_of_below hq1 none
  have hz1 := hq1.size
  have hb1 := below_g0 hb0 k1
  have hz2 := hb1.size
  refine st (s_call fn48 rfl (int_any (big_of rfl (hS1).none)) ?_)
  rintro v2 w2 ⟨hq2, hv1⟩
  rw [show (toI (-9223372036854775807 : Int)) = (-9223372036854775807) from (by decide +kernel), show (fit64 (-9223372036854775807 : Int)) = true from (by decide +kernel)] at hv1
  subst hv1
  have k2 := grown_of_below hq2 none
  have hz3 := hq2.size
  have hb2 := below_g0 hb1 k2
  have hz4 := hb2.size
  refine st (s_move rfl ?_)
  refine st (s_extract rfl rfl ?_)
  refine st (s_extract rfl rfl ?_)
  refine st (s_assign rfl ?_)
  refine st (s_assign rfl ?_)
  refine r_end ?_
  refine n_then ?_
  refine w_seq ?_
  refine w_region ?_
  refine st (s_call fn55 rfl (bpow_any) ?_)
  rintro _ w3 ⟨hq3, v3, rfl, hS2⟩
  have k3 := grown_of_below hq3 none
  have hz5 := hq3.size
  have hb3 := below_g0 hb2 k3
  have hz6 := hb3.size
  refine st (s_call fn48 rfl (int_any (big_of rfl (hS2).none)) ?_)
  rintro v4 w4 ⟨hq4, hv2⟩
  rw [show (toI (shlN 1 (63 : Int))) = 0 from (by decide +kernel), show (fit64 (shlN 1 (63 : Int))) = false from (by decide +kernel)] at hv2
  subst hv2
  have k4 := grown_of_below hq4 none
  have hz7 := hq4.size
  have hb4 := below_g0 hb3 k4
  have hz8 := hb4.size
  refine st (s_move rfl ?_)
  refine st (s_extract rfl rfl ?_)
  refine st (s_extract rfl rfl ?_)
  refine st (s_assign rfl ?_)
  refine st (s_assign rfl ?_)
  refine r_end ?_
  refine n_then ?_
  refine w_seq ?_
  refine w_region ?_
  refine st (s_call fn49 rfl (of_any (by omega)) ?_)
  rintro _ w5 ⟨hq5, v5, rfl, hS3⟩
  have k5 := grown_of_below hq5 none
  have hz9 := hq5.size
  have hb5 := below_g0 hb4 k5
  have hz10 := hb5.size
  refine st (s_call fn68 rfl (bshr_any (big_of rfl (hS3).none) (Bd.le (bd_small (by omega)) (show 2 ≤ 90000 by decide))) ?_)
  rintro _ w6 ⟨hq6, v6, rfl, hS4⟩
  have k6 := grown_of_below hq6 none
  have hz11 := hq6.size
  have hb6 := below_g0 hb5 k6
  have hz12 := hb6.size
  refine st (s_call fn49 rfl (of_any (by omega)) ?_)
  rintro _ w7 ⟨hq7, v7, rfl, hS5⟩
  have k7 := grown_of_below hq7 none
  have hz13 := hq7.size
  have hb7 := below_g0 hb6 k7
  have hz14 := hb7.size
  refine st (s_call fn50 rfl (rbsame_any ((hS4.g0 k7)).none (hS5).none) ?_)
  rintro v8 w8 ⟨hq8, hv3⟩
  rw [show decide (decide ((shrN (-3 : Int) (1 : Int)) < 0) = decide ((-2 : Int) < 0) ∧ ml (shrN (-3 : Int) (1 : Int)) = ml (-2 : Int)) = true from (decide_eq_decide.2 same_big).trans (decide_eq_true (by decide +kernel))] at hv3
  subst hv3
  have k8 := grown_of_below hq8 none
  have hz15 := hq8.size
  have hb8 := below_g0 hb7 k8
  have hz16 := hb8.size
  refine st (s_move rfl ?_)
  refine stg (s_call fn49 rfl (of_any (by omega)) ?_)
  rintro _ w9 ⟨hq9, v9, rfl, hS6⟩
  have k9 := grown_of_below hq9 none
  have hz17 := hq9.size
  have hb9 := below_g0 hb8 k9
  have hz18 := hb9.size
  refine stg (s_call fn52 rfl (bright_any (hS6).none) ?_)
  rintro v10 w10 ⟨hq10, hv4⟩
  rw [bigR_ml] at hv4
  subst hv4
  have k10 := grown_of_below hq10 none
  have hz19 := hq10.size
  have hb10 := below_g0 hb9 k10
  have hz20 := hb10.size
  refine st (s_pick rfl rfl ?_)
  refine st (s_move rfl ?_)
  refine stg (s_build (ps := [(0, .const (.bool true))]) (ccs := [#[.bool true]]) (cells := [.bool true, .slice none 0 0]) rfl rfl (by kernel_rfl) ?_)
  refine stg (s_call fn52 rfl (bright_any (Own.nil Kd.u32 44 w.heap.size _ (fun _ => False)).sl) ?_)
  rintro v11 w11 ⟨hq11, hv5⟩
  rw [show (bigR true []) = false from by decide +kernel] at hv5
  subst hv5
  have k11 := grown_of_below hq11 none
  have hz21 := hq11.size
  have hb11 := below_g0 hb10 k11
  have hz22 := hb11.size
  refine stg (s_not rfl ?_)
  refine st (s_pick rfl rfl ?_)
  refine st (s_move rfl ?_)
  refine stg (s_move rfl ?_)
  refine stg (s_eq rfl rfl ?_)
  rw [show decide (((-9223372036854775807) : Int) = (-9223372036854775807)) = true from rfl]
  refine st (s_pick rfl rfl ?_)
  refine st (s_move rfl ?_)
  refine stg (s_move rfl ?_)
  refine st (s_pick rfl rfl ?_)
  refine st (s_move rfl ?_)
  refine stg (s_move rfl ?_)
  refine stg (s_not rfl ?_)
  refine st (s_pick rfl rfl ?_)
  refine st (s_move rfl ?_)
  refine stg (s_call fn49 rfl (of_any (by omega)) ?_)
  rintro _ w12 ⟨hq12, v12, rfl, hS7⟩
  have k12 := grown_of_below hq12 none
  have hz23 := hq12.size
  have hb12 := below_g0 hb11 k12
  have hz24 := hb12.size
  refine stg (s_call fn49 rfl (of_any (by omega)) ?_)
  rintro _ w13 ⟨hq13, v13, rfl, hS8⟩
  have k13 := grown_of_below hq13 none
  have hz25 := hq13.size
  have hb13 := below_g0 hb12 k13
  have hz26 := hb13.size
  refine stg (s_call fn60 rfl (bsub_any (big_of rfl ((hS7.g0 k13)).none) (big_of rfl (hS8).none) (Bd.le (bd_small (by omega)) (show 2 ≤ 90000 by decide)) (Bd.le (bd_small (by omega)) (show 2 ≤ 90000 by decide))) ?_)
  rintro _ w14 ⟨hq14, v14, rfl, hS9⟩
  have k14 := grown_of_below hq14 none
  have hz27 := hq14.size
  have hb14 := below_g0 hb13 k14
  have hz28 := hb14.size
  refine stg (s_bslice (ps := [(0, .const (.int .u32 2))]) (ccs := [#[.int .u32 2]]) (e := 44) (cells := [.int .u32 2]) rfl rfl (by kernel_rfl) (by decide) nz44 ?_)
  intro g1 w15 hg1 hB1 k15 hs1
  have hb15 := below_g0 hb14 k15
  have hz29 := hb15.size
  have hS10 := lit_u32s (F := fun _ => False) ([2] : List Int) hB1 (fun h => h) rfl (by first | decide | simp)
  refine stg (s_build (ps := [(0, .const (.bool true)), (1, .tmp 43)]) (ccs := [#[.bool true], #[.slice (some ⟨g1, 0, none⟩) 1 1]]) (cells := [.bool true, .slice (some ⟨g1, 0, none⟩) 1 1]) rfl (by simp only [List.map_cons, List.map_nil, hS10.cells1] <;> rfl) (by kernel_rfl) ?_)
  refine stg (s_call fn50 rfl (rbsame_any ((hS9.g0 k15)).none (hS10).none) ?_)
  rintro v15 w16 ⟨hq15, hv6⟩
  rw [decide_eq_true ⟨by decide +kernel, tl_is _ (by decide) (by decide) (by decide +kernel)⟩] at hv6
  subst hv6
  have k16 := grown_of_below hq15 none
  have hz30 := hq15.size
  have hb16 := below_g0 hb15 k16
  have hz31 := hb16.size
  refine st (s_pick rfl rfl ?_)
  refine st (s_move rfl ?_)
  refine stg (s_call fn49 rfl (of_any (by omega)) ?_)
  rintro _ w17 ⟨hq16, v16, rfl, hS11⟩
  have k17 := grown_of_below hq16 none
  have hz32 := hq16.size
  have hb17 := below_g0 hb16 k17
  have hz33 := hb17.size
  refine stg (s_call fn49 rfl (of_any (by omega)) ?_)
  rintro _ w18 ⟨hq17, v17, rfl, hS12⟩
  have k18 := grown_of_below hq17 none
  have hz34 := hq17.size
  have hb18 := below_g0 hb17 k18
  have hz35 := hb18.size
  refine stg (s_call fn64 rfl (bcmp_any (big_of rfl ((hS11.g0 k18)).none) (big_of rfl (hS12).none)) ?_)
  rintro v18 w19 ⟨hq18, hv7⟩
  rw [show (cmpI (-3 : Int) (2 : Int)) = (-1) from (by decide +kernel)] at hv7
  subst hv7
  have k19 := grown_of_below hq18 none
  have hz36 := hq18.size
  have hb19 := below_g0 hb18 k19
  have hz37 := hb19.size
  refine stg (s_eq rfl rfl ?_)
  rw [show decide (((-1) : Int) = (-1)) = true from rfl]
  refine st (s_pick rfl rfl ?_)
  refine st (s_move rfl ?_)
  refine stg (s_call fn49 rfl (of_any (by omega)) ?_)
  rintro _ w20 ⟨hq19, v19, rfl, hS13⟩
  have k20 := grown_of_below hq19 none
  have hz38 := hq19.size
  have hb20 := below_g0 hb19 k20
  have hz39 := hb20.size
  refine stg (s_call fn66 rfl (bshl_any (big_of rfl (hS13).none) (Bd.le (bd_small (by omega)) (show 2 ≤ 90000 by decide))) ?_)
  rintro _ w21 ⟨hq20, v20, rfl, hS14⟩
  have k21 := grown_of_below hq20 none
  have hz40 := hq20.size
  have hb21 := below_g0 hb20 k21
  have hz41 := hb21.size
  refine stg (s_bslice (ps := [(0, .const (.int .u32 0)), (1, .const (.int .u32 6))]) (ccs := [#[.int .u32 0], #[.int .u32 6]]) (e := 44) (cells := [.int .u32 0, .int .u32 6]) rfl rfl (by kernel_rfl) (by decide) nz44 ?_)
  intro g2 w22 hg2 hB2 k22 hs2
  have hb22 := below_g0 hb21 k22
  have hz42 := hb22.size
  have hS15 := lit_u32s (F := fun _ => False) ([0, 6] : List Int) hB2 (fun h => h) rfl (by first | decide | simp)
  refine stg (s_build (ps := [(0, .const (.bool true)), (1, .tmp 56)]) (ccs := [#[.bool true], #[.slice (some ⟨g2, 0, none⟩) 2 2]]) (cells := [.bool true, .slice (some ⟨g2, 0, none⟩) 2 2]) rfl (by simp only [List.map_cons, List.map_nil, hS15.cells1] <;> rfl) (by kernel_rfl) ?_)
  refine stg (s_call fn50 rfl (rbsame_any ((hS14.g0 k22)).none (hS15).none) ?_)
  rintro v21 w23 ⟨hq21, hv8⟩
  rw [decide_eq_true ⟨by decide +kernel, tl_is _ (by decide) (by decide) (by decide +kernel)⟩] at hv8
  subst hv8
  have k23 := grown_of_below hq21 none
  have hz43 := hq21.size
  have hb23 := below_g0 hb22 k23
  have hz44 := hb23.size
  refine st (s_pick rfl rfl ?_)
  refine st (s_move rfl ?_)
  refine stg (s_call fn49 rfl (of_any (by omega)) ?_)
  rintro _ w24 ⟨hq22, v22, rfl, hS16⟩
  have k24 := grown_of_below hq22 none
  have hz45 := hq22.size
  have hb24 := below_g0 hb23 k24
  have hz46 := hb24.size
  refine stg (s_call fn49 rfl (of_any (by omega)) ?_)
  rintro _ w25 ⟨hq23, v23, rfl, hS17⟩
  have k25 := grown_of_below hq23 none
  have hz47 := hq23.size
  have hb25 := below_g0 hb24 k25
  have hz48 := hb25.size
  refine stg (s_call fn62 rfl (minus_any (big_of rfl (hS17).none)) ?_)
  rintro _ w26 ⟨hq24, v24, rfl, hS18⟩
  have k26 := grown_of_below hq24 none
  have hz49 := hq24.size
  have hb26 := below_g0 hb25 k26
  have hz50 := hb26.size
  refine stg (s_call fn58 rfl (badd_any (big_of rfl (((hS16.g0 k25).g0 k26)).none) (big_of rfl (hS18).none) (Bd.le (bd_small (by omega)) (show 2 ≤ 90000 by decide)) (Bd.le (bd_neg (bd_small (by omega))) (show 2 ≤ 90000 by decide))) ?_)
  rintro _ w27 ⟨hq25, v25, rfl, hS19⟩
  have k27 := grown_of_below hq25 none
  have hz51 := hq25.size
  have hb27 := below_g0 hb26 k27
  have hz52 := hb27.size
  refine stg (s_field fld52_1 (by rintro _ _ h1 h2; obtain ⟨rfl⟩ := h1; obtain ⟨rfl⟩ := h2; exact one32) rfl rfl ?_)
  refine stg (s_len sl32 rfl hS19 ?_)
  refine stg (s_eq rfl rfl ?_)
  refine st (s_pick rfl rfl ?_)
  refine st (s_move rfl ?_)
  refine r_caseP 69 rfl (fun h1 => ?_) (fun h1 => absurd (ml_nil.2 (by decide +kernel)) h1)
  refine stg (s_call fn49 rfl (of_any (by omega)) ?_)
  rintro _ w28 ⟨hq26, v26, rfl, hS20⟩
  have k28 := grown_of_below hq26 none
  have hz53 := hq26.size
  have hb28 := below_g0 hb27 k28
  have hz54 := hb28.size
  refine stg (s_call fn49 rfl (of_any (by omega)) ?_)
  rintro _ w29 ⟨hq27, v27, rfl, hS21⟩
  have k29 := grown_of_below hq27 none
  have hz55 := hq27.size
  have hb29 := below_g0 hb28 k29
  have hz56 := hb29.size
  refine stg (s_call fn54 rfl (bsame_any ((hS20.g0 k29)).none (hS21).none) ?_)
  rintro v28 w30 ⟨hq28, hv9⟩
  rw [show decide (decide ((3 : Int) < 0) = decide ((3 : Int) < 0) ∧ ml (3 : Int) = ml (3 : Int)) = true from (decide_eq_decide.2 same_big).trans (decide_eq_true (by decide +kernel))] at hv9
  subst hv9
  have k30 := grown_of_below hq28 none
  have hz57 := hq28.size
  have hb30 := below_g0 hb29 k30
  have hz58 := hb30.size
  refine st (s_pick rfl rfl ?_)
  refine st (s_move rfl ?_)
  refine stg (s_call fn49 rfl (of_any (by omega)) ?_)
  rintro _ w31 ⟨hq29, v29, rfl, hS22⟩
  have k31 := grown_of_below hq29 none
  have hz59 := hq29.size
  have hb31 := below_g0 hb30 k31
  have hz60 := hb31.size
  refine stg (s_call fn49 rfl (of_any (by omega)) ?_)
  rintro _ w32 ⟨hq30, v30, rfl, hS23⟩
  have k32 := grown_of_below hq30 none
  have hz61 := hq30.size
  have hb32 := below_g0 hb31 k32
  have hz62 := hb32.size
  refine stg (s_call fn54 rfl (bsame_any ((hS22.g0 k32)).none (hS23).none) ?_)
  rintro v31 w33 ⟨hq31, hv10⟩
  rw [(decide_eq_decide.2 same_big).trans (decide_eq_false (by decide +kernel))] at hv10
  subst hv10
  have k33 := grown_of_below hq31 none
  have hz63 := hq31.size
  have hb33 := below_g0 hb32 k33
  have hz64 := hb33.size
  refine stg (s_not rfl ?_)
  refine st (s_pick rfl rfl ?_)
  refine st (s_assign rfl ?_)
  refine r_end ?_
  refine n_then ?_
  refine w_ret1 rfl rfl ?_
  exact ⟨_, rfl, hb33, rfl⟩
end Go.Proofs.Ytencmmhfiepojaa

set_option maxRecDepth 20000
set_option linter.unusedSimpArgs false
set_option linter.unusedVariables false
namespace Go.Proofs.Ytencmmhfiepojaa
open Go.RowKit Go.Gw
theorem ints_any {w : World} {n : Int} (hni : -9223372036854775808 ≤ n ∧ n ≤ 9223372036854775807) {ng mg : Bool} {a b : Value} {xs ys : List Int} (ha : Sl Kd.u32 w (fun _ => False) a xs) (hb : Sl Kd.u32 w (fun _ => False) b ys) :
    Calls Try.prog 10 [.int .i64 n, .agg [.bool ng, a].toArray, .agg [.bool mg, b].toArray].toArray w (Pure w fun v _ => v = .bool true) := by
  have hb0 := Below.refl w.heap.size w
  refine enter Try.func10 rfl rfl ?_
  refine w_seq ?_
  refine w_region ?_
  refine st (s_box rfl ?_)
  intro g1 w1 hg1 hB1 k1 hs1
  change Blk w1 g1 52 [.bool ng, a].toArray at hB1
  have hb1 := below_g0 hb0 k1
  refine st (s_box rfl ?_)
  intro g2 w2 hg2 hB2 k2 hs2
  change Blk w2 g2 52 [.bool mg, b].toArray at hB2
  have hb2 := below_g0 hb1 k2
  refine st (s_assign rfl ?_)
  refine r_end ?_
  refine n_then ?_
  refine w_seq ?_
  refine w_seq ?_
  refine w_region ?_
  refine st (s_call fn46 rfl (alive2_any) ?_)
  rintro _ w3 ⟨hq1, rfl⟩
  have k3 := grown_of_below hq1 none
  have hz1 := hq1.size
  have hb3 := below_g0 hb2 k3
  have hz2 := hb3.size
  refine st (s_not rfl ?_)
  refine r_end ?_
  refine n_then ?_
  refine w_condF rfl ?_
  refine w_skip' ?_
  refine n_then ?_
  refine w_seq ?_
  refine w_seq ?_
  refine w_region ?_
  refine st (s_loadW row52 rfl ((hB1.g0 k2).g0 k3).range rfl ?_)
  refine st (s_call fn47 rfl (great_any ((ha.at0 hb3)).none) ?_)
  rintro _ w4 ⟨hq2, rfl⟩
  have k4 := grown_of_below hq2 none
  have hz3 := hq2.size
  have hb4 := below_g0 hb3 k4
  have hz4 := hb4.size
  refine st (s_move rfl ?_)
  refine r_caseP 17 rfl (fun h1 => ?_) (fun h1 => ?_)
  · refine s_pass rfl rfl ?_
    refine s_pass rfl rfl ?_
    refine st (s_pick rfl rfl ?_)
    refine r_end ?_
    refine n_then ?_
    refine w_condT rfl ?_
    refine w_seq ?_
    refine w_region ?_
    refine st (s_assign rfl ?_)
    refine r_end ?_
    refine n_then ?_
    refine w_ret1 rfl rfl ?_
    exact ⟨_, rfl, hb4, by first | rfl | exact congrArg Value.bool (decide_eq_true rfl) | (simp; done)⟩
  · refine stg (s_loadW row52 rfl ((hB2.g0 k3).g0 k4).range rfl ?_)
    refine stg (s_call fn47 rfl (great_any ((hb.at0 hb4)).none) ?_)
    rintro _ w5 ⟨hq3, rfl⟩
    have k5 := grown_of_below hq3 none
    have hz5 := hq3.size
    have hb5 := below_g0 hb4 k5
    have hz6 := hb5.size
    refine st (s_pick rfl rfl ?_)
    refine r_end ?_
    refine n_then ?_
    refine w_condP rfl (fun h2 => ?_) (fun h2 => ?_)
    · refine w_seq ?_
      refine w_region ?_
      refine st (s_assign rfl ?_)
      refine r_end ?_
      refine n_then ?_
      refine w_ret1 rfl rfl ?_
      exact ⟨_, rfl, hb5, by first | rfl | exact congrArg Value.bool (decide_eq_true rfl) | (simp; done)⟩
    · refine w_skip' ?_
      refine n_then ?_
      refine w_seq ?_
      refine w_region ?_
      refine st (s_move rfl ?_)
      refine st (s_call fn49 rfl (of_any (by omega)) ?_)
      rintro _ w6 ⟨hq4, v1, rfl, hS1⟩
      have k6 := grown_of_below hq4 none
      have hz7 := hq4.size
      have hb6 := below_g0 hb5 k6
      have hz8 := hb6.size
      refine st (s_call fn48 rfl (int_any (big_of rfl (hS1).none)) ?_)
      rintro v2 w7 ⟨hq5, hv1⟩
      rw [show (toI n) = n from (toI_yes hni), show (fit64 n) = true from (fit64_yes hni)] at hv1
      subst hv1
      have k7 := grown_of_below hq5 none
      have hz9 := hq5.size
      have hb7 := below_g0 hb6 k7
      have hz10 := hb7.size
      refine st (s_move rfl ?_)
      refine st (s_extract rfl rfl ?_)
      refine st (s_extract rfl rfl ?_)
      refine st (s_assign rfl ?_)
      refine st (s_assign rfl ?_)
      refine r_end ?_
      refine n_then ?_
      refine w_seq ?_
      refine w_seq ?_
      have h3 : ¬ (n ≠ n) := fun h3 => absurd rfl h3
      have h4 : ((bne (α := Bool) (bigR ng xs) (bigR ng xs))) = false := (Bool.eq_false_or_eq_true _).elim (fun h4 => absurd h4 (by simp)) (fun h4 => h4)
      have h5 : ((bne (α := Bool) (decide ((ng = mg ∧ xs = ys))) (decide ((ng = mg ∧ xs = ys))))) = false := (Bool.eq_false_or_eq_true _).elim (fun h5 => absurd h5 (by simp)) (fun h5 => h5)
      refine w_draw 39 (fun a b => a.grownBy b none) [(some 27, fun v _ => v = .bool true), (some 28, fun v _ => v = .bool false), (some 29, fun v _ => v = .bool false), (some 30, fun v _ => v = .int .i64 n), (some 31, fun v _ => v = .int .i64 n), (some 32, fun v _ => v = .bool (decide (n ≠ n))), (some 33, fun v _ => v = .bool (decide (n ≠ n))), (some 34, fun v _ => v = .bool false), (some 35, fun v _ => v = .int .i64 n), (some 36, fun v W => IsBig W v (n)), (some 37, fun v _ => v = .int .i64 n), (some 38, fun v W => IsBig W v (n)), (some 39, fun v _ => v = .bool true), (some 40, fun v _ => v = .bool false), (some 41, fun v _ => v = .bool false), (some 42, fun v _ => v = .bool false), (some 43, fun v _ => v = .agg [.bool ng, a].toArray), (some 44, fun v _ => v = .bool (bigR ng xs)), (some 45, fun v _ => v = .agg [.bool ng, a].toArray), (some 46, fun v _ => v = .bool (bigR ng xs)), (some 47, fun v _ => v = .bool (bne (α := Bool) (bigR ng xs) (bigR ng xs))), (some 48, fun v _ => v = .bool (bne (α := Bool) (bigR ng xs) (bigR ng xs))), (some 49, fun v _ => v = .bool false), (some 50, fun v _ => v = .agg [.bool ng, a].toArray), (some 51, fun v _ => v = .agg [.bool mg, b].toArray), (some 52, fun v _ => v = .bool (decide ((ng = mg ∧ xs = ys)))), (some 53, fun v _ => v = .agg [.bool ng, a].toArray), (some 54, fun v _ => v = .agg [.bool mg, b].toArray), (some 55, fun v _ => v = .bool (decide ((ng = mg ∧ xs = ys)))), (some 56, fun v _ => v = .bool (bne (α := Bool) (decide ((ng = mg ∧ xs = ys))) (decide ((ng = mg ∧ xs = ys))))), (some 57, fun v _ => v = .bool (bne (α := Bool) (decide ((ng = mg ∧ xs = ys))) (decide ((ng = mg ∧ xs = ys))))), (some 58, fun v _ => v = .bool false), (some 59, fun v _ => v = .int .i64 n), (some 60, fun v W => IsBig W v ((shlN 1 n))), (some 61, fun v _ => v = .int .i64 n), (some 62, fun v W => IsBig W v ((shlN 1 n))), (some 63, fun v _ => v = .bool true), (some 64, fun v _ => v = .bool false), (some 65, fun v _ => v = .bool false)] [[], [0], [1], [2], [2], [2, 3, 4], [2, 5], [6], [7], [7, 8], [7], [7, 10], [7, 9, 11], [7, 12], [7, 13], [14], [15], [15, 16], [15], [15, 18], [15, 17, 19], [15, 20], [21], [22], [22], [22, 23, 24], [22], [22], [22, 26, 27], [22, 25, 28], [22, 29], [30], [31], [31, 32], [31], [31, 34], [31, 33, 35], [31, 36], [31, 37]] [(0, .int .i64 n), (4, .pointer (some ⟨g1, 0, none⟩)), (5, .pointer (some ⟨g2, 0, none⟩)), (6, .bool false), (7, .int .i64 n), (8, .bool true)] (by exact ⟨rfl, rfl, rfl, rfl, rfl, rfl, trivial⟩) (by kernel_rfl) (by kernel_rfl) grown_none_refl (fun _ _ _ => grown_none_trans) ⟨fun _ _ _ h _ => by exact h, fun _ _ _ h _ => by exact h, fun _ _ _ h _ => by exact h, fun _ _ _ h _ => by exact h, fun _ _ _ h _ => by exact h, fun _ _ _ h _ => by exact h, fun _ _ _ h _ => by exact h, fun _ _ _ h _ => by exact h, fun _ _ _ h _ => by exact h, fun _ _ _ h k => h.g0 k, fun _ _ _ h _ => by exact h, fun _ _ _ h k => h.g0 k, fun _ _ _ h _ => by exact h, fun _ _ _ h _ => by exact h, fun _ _ _ h _ => by exact h, fun _ _ _ h _ => by exact h, fun _ _ _ h _ => by exact h, fun _ _ _ h _ => by exact h, fun _ _ _ h _ => by exact h, fun _ _ _ h _ => by exact h, fun _ _ _ h _ => by exact h, fun _ _ _ h _ => by exact h, fun _ _ _ h _ => by exact h, fun _ _ _ h _ => by exact h, fun _ _ _ h _ => by exact h, fun _ _ _ h _ => by exact h, fun _ _ _ h _ => by exact h, fun _ _ _ h _ => by exact h, fun _ _ _ h _ => by exact h, fun _ _ _ h _ => by exact h, fun _ _ _ h _ => by exact h, fun _ _ _ h _ => by exact h, fun _ _ _ h _ => by exact h, fun _ _ _ h k => h.g0 k, fun _ _ _ h _ => by exact h, fun _ _ _ h k => h.g0 k, fun _ _ _ h _ => by exact h, fun _ _ _ h _ => by exact h, fun _ _ _ h _ => by exact h, trivial⟩ ?_
      intro w18 k18 hs3
      have hb8 := below_g0 hb7 k18
      refine ⟨⟨?_, ?_, ?_, ?_, ?_, ?_, ?_, ?_, ?_, ?_, ?_, ?_, ?_, ?_, ?_, ?_, ?_, ?_, ?_, ?_, ?_, ?_, ?_, ?_, ?_, ?_, ?_, ?_, ?_, ?_, ?_, ?_, ?_, ?_, ?_, ?_, ?_, ?_, ?_, trivial⟩, ?_⟩
      · intro w19 k19
        have hb9 := below_g0 hb8 k19
        refine op1 (s_move rfl ?_)
        exact ⟨rfl, grown_none_refl _⟩
      · intro w20 k20
        have hb10 := below_g0 hb8 k20
        rintro _ rfl
        refine op1 (s_not rfl ?_)
        exact ⟨rfl, grown_none_refl _⟩
      · intro w21 k21
        have hb11 := below_g0 hb8 k21
        rintro _ rfl
        refine op1 (s_move rfl ?_)
        exact ⟨rfl, grown_none_refl _⟩
      · intro w22 k22
        have hb12 := below_g0 hb8 k22
        rintro _ rfl
        refine op1g (s_move rfl ?_)
        exact ⟨rfl, grown_none_refl _⟩
      · intro w23 k23
        have hb13 := below_g0 hb8 k23
        rintro _ rfl
        refine op1g (s_move rfl ?_)
        exact ⟨rfl, grown_none_refl _⟩
      · intro w24 k24
        have hb14 := below_g0 hb8 k24
        rintro _ rfl
        rintro _ rfl
        rintro _ rfl
        refine op1g (s_ne rfl rfl ?_)
        exact ⟨rfl, grown_none_refl _⟩
      · intro w25 k25
        have hb15 := below_g0 hb8 k25
        rintro _ rfl
        rintro _ rfl
        refine op1 (s_pick rfl rfl ?_)
        exact ⟨rfl, grown_none_refl _⟩
      · intro w26 k26
        have hb16 := below_g0 hb8 k26
        rintro _ rfl
        refine op1 (s_move rfl ?_)
        exact ⟨(by rw [decide_eq_false h3]), grown_none_refl _⟩
      · intro w27 k27
        have hb17 := below_g0 hb8 k27
        rintro _ rfl
        refine op1g (s_move rfl ?_)
        exact ⟨rfl, grown_none_refl _⟩
      · intro w28 k28
        have hb18 := below_g0 hb8 k28
        rintro _ rfl
        rintro _ rfl
        refine op1g (s_call fn49 rfl (of_any (by omega)) ?_)
        rintro _ w29 ⟨hq16, v9, rfl, hS6⟩
        have k29 := grown_of_below hq16 none
        have hz11 := hq16.size
        have hb19 := below_g0 hb18 k29
        have hz12 := hb19.size
        exact ⟨⟨_, rfl, hS6⟩, k29⟩
      · intro w30 k30
        have hb20 := below_g0 hb8 k30
        rintro _ rfl
        refine op1g (s_move rfl ?_)
        exact ⟨rfl, grown_none_refl _⟩
      · intro w31 k31
        have hb21 := below_g0 hb8 k31
        rintro _ rfl
        rintro _ rfl
        refine op1g (s_call fn51 rfl (rof2_any (by omega)) ?_)
        rintro _ w32 ⟨hq17, v10, rfl, hS7⟩
        have k32 := grown_of_below hq17 none
        have hz13 := hq17.size
        have hb22 := below_g0 hb21 k32
        have hz14 := hb22.size
        exact ⟨⟨_, rfl, hS7⟩, k32⟩
      · intro w33 k33
        have hb23 := below_g0 hb8 k33
        rintro _ rfl
        rintro _ ⟨v11, rfl, hS8⟩
        rintro _ ⟨v12, rfl, hS9⟩
        refine op1g (s_call fn50 rfl (rbsame_any (hS8).none (hS9).none) ?_)
        rintro v13 w34 ⟨hq18, hv4⟩
        rw [show decide (decide (n < 0) = decide (n < 0) ∧ ml n = ml n) = true from (decide_eq_decide.2 same_big).trans (decide_eq_true (rfl))] at hv4
        subst hv4
        have k34 := grown_of_below hq18 none
        have hz15 := hq18.size
        have hb24 := below_g0 hb23 k34
        have hz16 := hb24.size
        exact ⟨rfl, k34⟩
      · intro w35 k35
        have hb25 := below_g0 hb8 k35
        rintro _ rfl
        rintro _ rfl
        refine op1g (s_not rfl ?_)
        exact ⟨rfl, grown_none_refl _⟩
      · intro w36 k36
        have hb26 := below_g0 hb8 k36
        rintro _ rfl
        rintro _ rfl
        refine op1 (s_pick rfl rfl ?_)
        exact ⟨rfl, grown_none_refl _⟩
      · intro w37 k37
        have hb27 := below_g0 hb8 k37
        rintro _ rfl
        refine op1 (s_move rfl ?_)
        exact ⟨rfl, grown_none_refl _⟩
      · intro w38 k38
        have hb28 := below_g0 hb8 k38
        rintro _ rfl
        refine op1g (s_loadW row52 rfl ((((((((hB1.g0 k2).g0 k3).g0 k4).g0 k5).g0 k6).g0 k7).g0 k18).g0 k38).range rfl ?_)
        exact ⟨rfl, grown_none_refl _⟩
      · intro w39 k39
        have hb29 := below_g0 hb8 k39
        rintro _ rfl
        rintro _ rfl
        refine op1g (s_call fn52 rfl (bright_any ((ha.at0 hb29)).none) ?_)
        rintro _ w40 ⟨hq19, rfl⟩
        have k40 := grown_of_below hq19 none
        have hz17 := hq19.size
        have hb30 := below_g0 hb29 k40
        have hz18 := hb30.size
        exact ⟨rfl, k40⟩
      · intro w41 k41
        have hb31 := below_g0 hb8 k41
        rintro _ rfl
        refine op1g (s_loadW row52 rfl ((((((((hB1.g0 k2).g0 k3).g0 k4).g0 k5).g0 k6).g0 k7).g0 k18).g0 k41).range rfl ?_)
        exact ⟨rfl, grown_none_refl _⟩
      · intro w42 k42
        have hb32 := below_g0 hb8 k42
        rintro _ rfl
        rintro _ rfl
        refine op1g (s_call fn53 rfl (rbright_any ((ha.at0 hb32)).none) ?_)
        rintro _ w43 ⟨hq20, rfl⟩
        have k43 := grown_of_below hq20 none
        have hz19 := hq20.size
        have hb33 := below_g0 hb32 k43
        have hz20 := hb33.size
        exact ⟨rfl, k43⟩
      · intro w44 k44
        have hb34 := below_g0 hb8 k44
        rintro _ rfl
        rintro _ rfl
        rintro _ rfl
        refine op1g (s_nebool bool4 rfl rfl ?_)
        exact ⟨rfl, grown_none_refl _⟩
      · intro w45 k45
        have hb35 := below_g0 hb8 k45
        rintro _ rfl
        rintro _ rfl
        refine op1 (s_pick rfl rfl ?_)
        exact ⟨rfl, grown_none_refl _⟩
      · intro w46 k46
        have hb36 := below_g0 hb8 k46
        rintro _ rfl
        refine op1 (s_move rfl ?_)
        exact ⟨(by rw [h4]), grown_none_refl _⟩
      · intro w47 k47
        have hb37 := below_g0 hb8 k47
        rintro _ rfl
        refine op1g (s_loadW row52 rfl ((((((((hB1.g0 k2).g0 k3).g0 k4).g0 k5).g0 k6).g0 k7).g0 k18).g0 k47).range rfl ?_)
        exact ⟨rfl, grown_none_refl _⟩
      · intro w48 k48
        have hb38 := below_g0 hb8 k48
        rintro _ rfl
        refine op1g (s_loadW row52 rfl (((((((hB2.g0 k3).g0 k4).g0 k5).g0 k6).g0 k7).g0 k18).g0 k48).range rfl ?_)
        exact ⟨rfl, grown_none_refl _⟩
      · intro w49 k49
        have hb39 := below_g0 hb8 k49
        rintro _ rfl
        rintro _ rfl
        rintro _ rfl
        refine op1g (s_call fn54 rfl (bsame_any ((ha.at0 hb39)).none ((hb.at0 hb39)).none) ?_)
        rintro _ w50 ⟨hq21, rfl⟩
        have k50 := grown_of_below hq21 none
        have hz21 := hq21.size
        have hb40 := below_g0 hb39 k50
        have hz22 := hb40.size
        exact ⟨rfl, k50⟩
      · intro w51 k51
        have hb41 := below_g0 hb8 k51
        rintro _ rfl
        refine op1g (s_loadW row52 rfl ((((((((hB1.g0 k2).g0 k3).g0 k4).g0 k5).g0 k6).g0 k7).g0 k18).g0 k51).range rfl ?_)
        exact ⟨rfl, grown_none_refl _⟩
      · intro w52 k52
        have hb42 := below_g0 hb8 k52
        rintro _ rfl
        refine op1g (s_loadW row52 rfl (((((((hB2.g0 k3).g0 k4).g0 k5).g0 k6).g0 k7).g0 k18).g0 k52).range rfl ?_)
        exact ⟨rfl, grown_none_refl _⟩
      · intro w53 k53
        have hb43 := below_g0 hb8 k53
        rintro _ rfl
        rintro _ rfl
        rintro _ rfl
        refine op1g (s_call fn50 rfl (rbsame_any ((ha.at0 hb43)).none ((hb.at0 hb43)).none) ?_)
        rintro _ w54 ⟨hq22, rfl⟩
        have k54 := grown_of_below hq22 none
        have hz23 := hq22.size
        have hb44 := below_g0 hb43 k54
        have hz24 := hb44.size
        exact ⟨rfl, k54⟩
      · intro w55 k55
        have hb45 := below_g0 hb8 k55
        rintro _ rfl
        rintro _ rfl
        rintro _ rfl
        refine op1g (s_nebool bool4 rfl rfl ?_)
        exact ⟨rfl, grown_none_refl _⟩
      · intro w56 k56
        have hb46 := below_g0 hb8 k56
        rintro _ rfl
        rintro _ rfl
        refine op1 (s_pick rfl rfl ?_)
        exact ⟨rfl, grown_none_refl _⟩
      · intro w57 k57
        have hb47 := below_g0 hb8 k57
        rintro _ rfl
        refine op1 (s_move rfl ?_)
        exact ⟨(by rw [h5]), grown_none_refl _⟩
      · intro w58 k58
        have hb48 := below_g0 hb8 k58
        rintro _ rfl
        refine op1g (s_move rfl ?_)
        exact ⟨rfl, grown_none_refl _⟩
      · intro w59 k59
        have hb49 := below_g0 hb8 k59
        rintro _ rfl
        rintro _ rfl
        refine op1g (s_call fn55 rfl (bpow_any) ?_)
        rintro _ w60 ⟨hq23, v14, rfl, hS10⟩
        have k60 := grown_of_below hq23 none
        have hz25 := hq23.size
        have hb50 := below_g0 hb49 k60
        have hz26 := hb50.size
        exact ⟨⟨_, rfl, hS10⟩, k60⟩
      · intro w61 k61
        have hb51 := below_g0 hb8 k61
        rintro _ rfl
        refine op1g (s_move rfl ?_)
        exact ⟨rfl, grown_none_refl _⟩
      · intro w62 k62
        have hb52 := below_g0 hb8 k62
        rintro _ rfl
        rintro _ rfl
        refine op1g (s_call fn56 rfl (rbpow_any) ?_)
        rintro _ w63 ⟨hq24, v15, rfl, hS11⟩
        have k63 := grown_of_below hq24 none
        have hz27 := hq24.size
        have hb53 := below_g0 hb52 k63
        have hz28 := hb53.size
        exact ⟨⟨_, rfl, hS11⟩, k63⟩
      · intro w64 k64
        have hb54 := below_g0 hb8 k64
        rintro _ rfl
        rintro _ ⟨v16, rfl, hS12⟩
        rintro _ ⟨v17, rfl, hS13⟩
        refine op1g (s_call fn50 rfl (rbsame_any (hS12).none (hS13).none) ?_)
        rintro v18 w65 ⟨hq25, hv5⟩
        rw [show decide (decide ((shlN 1 n) < 0) = decide ((shlN 1 n) < 0) ∧ ml (shlN 1 n) = ml (shlN 1 n)) = true from (decide_eq_decide.2 same_big).trans (decide_eq_true (rfl))] at hv5
        subst hv5
        have k65 := grown_of_below hq25 none
        have hz29 := hq25.size
        have hb55 := below_g0 hb54 k65
        have hz30 := hb55.size
        exact ⟨rfl, k65⟩
      · intro w66 k66
        have hb56 := below_g0 hb8 k66
        rintro _ rfl
        rintro _ rfl
        refine op1g (s_not rfl ?_)
        exact ⟨rfl, grown_none_refl _⟩
      · intro w67 k67
        have hb57 := below_g0 hb8 k67
        rintro _ rfl
        rintro _ rfl
        refine op1 (s_pick rfl rfl ?_)
        exact ⟨rfl, grown_none_refl _⟩
      · intro w68 k68
        have hb58 := below_g0 hb8 k68
        rintro _ rfl
        rintro _ rfl
        rintro _ rfl
        rintro _ rfl
        rintro _ rfl
        rintro _ rfl
        rintro _ rfl
        rintro _ rfl
        rintro _ rfl
        rintro _ ⟨v19, rfl, hS14⟩
        rintro _ rfl
        rintro _ ⟨v20, rfl, hS15⟩
        rintro _ rfl
        rintro _ rfl
        rintro _ rfl
        rintro _ rfl
        rintro _ rfl
        rintro _ rfl
        rintro _ rfl
        rintro _ rfl
        rintro _ rfl
        rintro _ rfl
        rintro _ rfl
        rintro _ rfl
        rintro _ rfl
        rintro _ rfl
        rintro _ rfl
        rintro _ rfl
        rintro _ rfl
        rintro _ rfl
        rintro _ rfl
        rintro _ rfl
        rintro _ rfl
        rintro _ ⟨v21, rfl, hS16⟩
        rintro _ rfl
        rintro _ ⟨v22, rfl, hS17⟩
        rintro _ rfl
        rintro _ rfl
        rintro _ rfl
        refine r_end ?_
        refine n_then ?_
        refine w_condF rfl ?_
        refine w_skip' ?_
        refine n_then ?_
        refine w_seq ?_
        refine w_seq ?_
        refine w_region ?_
        refine st (s_loadW row52 rfl ((((((((hB1.g0 k2).g0 k3).g0 k4).g0 k5).g0 k6).g0 k7).g0 k18).g0 k68).range rfl ?_)
        refine st (s_call fn53 rfl (rbright_any ((ha.at0 hb58)).none) ?_)
        rintro _ w69 ⟨hq26, rfl⟩
        have k69 := grown_of_below hq26 none
        have hz31 := hq26.size
        have hb59 := below_g0 hb58 k69
        have hz32 := hb59.size
        refine st (s_not rfl ?_)
        refine r_end ?_
        refine n_then ?_
        refine w_cond rfl (fun h6 => ?_) (fun h6 => ?_)
        · refine w_seq ?_
          refine w_region ?_
          refine st (s_assign rfl ?_)
          refine r_end ?_
          refine n_then ?_
          refine w_ret1 rfl rfl ?_
          exact ⟨_, rfl, hb59, by first | rfl | exact congrArg Value.bool (decide_eq_true rfl) | (simp; done)⟩
        · obtain ⟨m, rfl, rfl⟩ := bigR_out (lim_sl ha) (by simpa using h6)
          have hbm : Bd 60 m := bd_ml (by omega)
          refine w_skip' ?_
          refine n_then ?_
          refine w_seq ?_
          refine w_region ?_
          refine st (s_loadW row52 rfl (((((((((hB1.g0 k2).g0 k3).g0 k4).g0 k5).g0 k6).g0 k7).g0 k18).g0 k68).g0 k69).range rfl ?_)
          refine st (s_call fn48 rfl (int_any (big_of rfl ((ha.at0 hb59)).none)) ?_)
          rintro _ w70 ⟨hq27, rfl⟩
          have k70 := grown_of_below hq27 none
          have hz33 := hq27.size
          have hb60 := below_g0 hb59 k70
          have hz34 := hb60.size
          refine st (s_move rfl ?_)
          refine st (s_extract rfl rfl ?_)
          refine st (s_extract rfl rfl ?_)
          refine st (s_assign rfl ?_)
          refine st (s_assign rfl ?_)
          refine r_end ?_
          refine n_then ?_
          refine w_seq ?_
          refine w_region ?_
          refine st (s_loadW row52 rfl ((((((((((hB1.g0 k2).g0 k3).g0 k4).g0 k5).g0 k6).g0 k7).g0 k18).g0 k68).g0 k69).g0 k70).range rfl ?_)
          refine st (s_call fn57 rfl (rint_any (big_of rfl ((ha.at0 hb60)).none)) ?_)
          rintro _ w71 ⟨hq28, rfl⟩
          have k71 := grown_of_below hq28 none
          have hz35 := hq28.size
          have hb61 := below_g0 hb60 k71
          have hz36 := hb61.size
          refine st (s_move rfl ?_)
          refine st (s_extract rfl rfl ?_)
          refine st (s_extract rfl rfl ?_)
          refine st (s_assign rfl ?_)
          refine st (s_assign rfl ?_)
          refine r_end ?_
          refine n_then ?_
          refine w_seq ?_
          refine w_region ?_
          refine st (s_move rfl ?_)
          refine st (s_move rfl ?_)
          refine st (s_eq rfl rfl ?_)
          refine st (s_move rfl ?_)
          refine r_caseP 82 rfl (fun h7 => ?_) (fun h7 => absurd rfl h7)
          refine stg (s_move rfl ?_)
          refine stg (s_move rfl ?_)
          refine stg (s_eqbool bool4 rfl rfl ?_)
          refine st (s_pick rfl rfl ?_)
          refine st (s_assign rfl ?_)
          refine r_end ?_
          refine n_then ?_
          refine w_ret1 rfl rfl ?_
          exact ⟨_, rfl, hb61, by first | rfl | exact congrArg Value.bool (decide_eq_true rfl) | (simp; done)⟩

theorem bsums_any {w : World} {ng mg : Bool} {a b : Value} {xs ys : List Int} (ha : Sl Kd.u32 w (fun _ => False) a xs) (hb : Sl Kd.u32 w (fun _ => False) b ys) {k : Int} :
    Calls Try.prog 11 [.agg [.bool ng, a].toArray, .agg [.bool mg, b].toArray, .int .i64 k].toArray w (Pure w fun v _ => v = .bool true) := by
  have hb0 := Below.refl w.heap.size w
  refine enter Try.func11 rfl rfl ?_
  refine w_seq ?_
  refine w_region ?_
  refine st (s_box rfl ?_)
  intro g1 w1 hg1 hB1 k1 hs1
  change Blk w1 g1 52 [.bool ng, a].toArray at hB1
  have hb1 := below_g0 hb0 k1
  refine st (s_box rfl ?_)
  intro g2 w2 hg2 hB2 k2 hs2
  change Blk w2 g2 52 [.bool mg, b].toArray at hB2
  have hb2 := below_g0 hb1 k2
  refine st (s_assign rfl ?_)
  refine r_end ?_
  refine n_then ?_
  refine w_seq ?_
  refine w_seq ?_
  refine w_region ?_
  refine st (s_call fn46 rfl (alive2_any) ?_)
  rintro _ w3 ⟨hq1, rfl⟩
  have k3 := grown_of_below hq1 none
  have hz1 := hq1.size
  have hb3 := below_g0 hb2 k3
  have hz2 := hb3.size
  refine st (s_not rfl ?_)
  refine r_end ?_
  refine n_then ?_
  refine w_condF rfl ?_
  refine w_skip' ?_
  refine n_then ?_
  refine w_seq ?_
  refine w_seq ?_
  refine w_region ?_
  refine st (s_loadW row52 rfl ((hB1.g0 k2).g0 k3).range rfl ?_)
  refine st (s_call fn47 rfl (great_any ((ha.at0 hb3)).none) ?_)
  rintro _ w4 ⟨hq2, rfl⟩
  have k4 := grown_of_below hq2 none
  have hz3 := hq2.size
  have hb4 := below_g0 hb3 k4
  have hz4 := hb4.size
  refine st (s_move rfl ?_)
  refine r_caseP 11 rfl (fun h1 => ?_) (fun h1 => ?_)
  · refine s_pass rfl rfl ?_
    refine s_pass rfl rfl ?_
    refine st (s_pick rfl rfl ?_)
    refine st (s_move rfl ?_)
    refine s_pass rfl rfl ?_
    refine s_pass rfl rfl ?_
    refine s_pass rfl rfl ?_
    refine st (s_pick rfl rfl ?_)
    refine st (s_move rfl ?_)
    refine s_pass rfl rfl ?_
    refine s_pass rfl rfl ?_
    refine s_pass rfl rfl ?_
    refine st (s_pick rfl rfl ?_)
    refine r_end ?_
    refine n_then ?_
    refine w_condT rfl ?_
    refine w_seq ?_
    refine w_region ?_
    refine st (s_assign rfl ?_)
    refine r_end ?_
    refine n_then ?_
    refine w_ret1 rfl rfl ?_
    exact ⟨_, rfl, hb4, by first | rfl | exact congrArg Value.bool (decide_eq_true rfl) | (simp; done)⟩
  · refine stg (s_loadW row52 rfl ((hB2.g0 k3).g0 k4).range rfl ?_)
    refine stg (s_call fn47 rfl (great_any ((hb.at0 hb4)).none) ?_)
    rintro _ w5 ⟨hq3, rfl⟩
    have k5 := grown_of_below hq3 none
    have hz5 := hq3.size
    have hb5 := below_g0 hb4 k5
    have hz6 := hb5.size
    refine st (s_pick rfl rfl ?_)
    refine st (s_move rfl ?_)
    refine r_caseP 15 rfl (fun h2 => ?_) (fun h2 => ?_)
    · refine s_pass rfl rfl ?_
      refine s_pass rfl rfl ?_
      refine s_pass rfl rfl ?_
      refine st (s_pick rfl rfl ?_)
      refine st (s_move rfl ?_)
      refine s_pass rfl rfl ?_
      refine s_pass rfl rfl ?_
      refine s_pass rfl rfl ?_
      refine st (s_pick rfl rfl ?_)
      refine r_end ?_
      refine n_then ?_
      refine w_condT rfl ?_
      refine w_seq ?_
      refine w_region ?_
      refine st (s_assign rfl ?_)
      refine r_end ?_
      refine n_then ?_
      refine w_ret1 rfl rfl ?_
      exact ⟨_, rfl, hb5, by first | rfl | exact congrArg Value.bool (decide_eq_true rfl) | (simp; done)⟩
    · refine stg (s_loadW row52 rfl ((((hB1.g0 k2).g0 k3).g0 k4).g0 k5).range rfl ?_)
      refine stg (s_call fn53 rfl (rbright_any ((ha.at0 hb5)).none) ?_)
      rintro _ w6 ⟨hq4, rfl⟩
      have k6 := grown_of_below hq4 none
      have hz7 := hq4.size
      have hb6 := below_g0 hb5 k6
      have hz8 := hb6.size
      refine stg (s_not rfl ?_)
      refine st (s_pick rfl rfl ?_)
      refine st (s_move rfl ?_)
      refine r_case 20 rfl (fun h3 => ?_) (fun h3 => ?_)
      · refine s_pass rfl rfl ?_
        refine s_pass rfl rfl ?_
        refine s_pass rfl rfl ?_
        refine st (s_pick rfl rfl ?_)
        refine r_end ?_
        refine n_then ?_
        refine w_condT rfl ?_
        refine w_seq ?_
        refine w_region ?_
        refine st (s_assign rfl ?_)
        refine r_end ?_
        refine n_then ?_
        refine w_ret1 rfl rfl ?_
        exact ⟨_, rfl, hb6, by first | rfl | exact congrArg Value.bool (decide_eq_true rfl) | (simp; done)⟩
      · obtain ⟨n, rfl, rfl⟩ := bigR_out (lim_sl ha) (by simpa using h3)
        have hbn : Bd 60 n := bd_ml (by omega)
        refine stg (s_loadW row52 rfl ((((hB2.g0 k3).g0 k4).g0 k5).g0 k6).range rfl ?_)
        refine stg (s_call fn53 rfl (rbright_any ((hb.at0 hb6)).none) ?_)
        rintro _ w7 ⟨hq5, rfl⟩
        have k7 := grown_of_below hq5 none
        have hz9 := hq5.size
        have hb7 := below_g0 hb6 k7
        have hz10 := hb7.size
        refine stg (s_not rfl ?_)
        refine st (s_pick rfl rfl ?_)
        refine r_end ?_
        refine n_then ?_
        refine w_cond rfl (fun h4 => ?_) (fun h4 => ?_)
        · refine w_seq ?_
          refine w_region ?_
          refine st (s_assign rfl ?_)
          refine r_end ?_
          refine n_then ?_
          refine w_ret1 rfl rfl ?_
          exact ⟨_, rfl, hb7, by first | rfl | exact congrArg Value.bool (decide_eq_true rfl) | (simp; done)⟩
        · obtain ⟨m, rfl, rfl⟩ := bigR_out (lim_sl hb) (by simpa using h4)
          have hbm : Bd 60 m := bd_ml (by omega)
          refine w_skip' ?_
          refine n_then ?_
          refine w_seq ?_
          have h5 : ((cmpI n m) = (cmpI n m)) := Classical.byContradiction fun h5 => absurd rfl h5
          refine w_draw 50 (fun a b => a.grownBy b none) [(some 25, fun v _ => v = .agg [.bool (decide (n < 0)), a].toArray), (some 26, fun v _ => v = .agg [.bool (decide (m < 0)), b].toArray), (some 27, fun v W => IsBig W v ((n + m))), (some 28, fun v _ => v = .agg [.bool (decide (n < 0)), a].toArray), (some 29, fun v _ => v = .agg [.bool (decide (m < 0)), b].toArray), (some 30, fun v W => IsBig W v ((n + m))), (some 31, fun v _ => v = .bool true), (some 32, fun v _ => v = .bool true), (some 33, fun v _ => v = .agg [.bool (decide (n < 0)), a].toArray), (some 34, fun v _ => v = .agg [.bool (decide (m < 0)), b].toArray), (some 35, fun v W => IsBig W v ((n - m))), (some 36, fun v _ => v = .agg [.bool (decide (n < 0)), a].toArray), (some 37, fun v _ => v = .agg [.bool (decide (m < 0)), b].toArray), (some 38, fun v W => IsBig W v ((n - m))), (some 39, fun v _ => v = .bool true), (some 40, fun v _ => v = .bool true), (some 41, fun v _ => v = .bool true), (some 42, fun v _ => v = .agg [.bool (decide (n < 0)), a].toArray), (some 43, fun v W => IsBig W v ((-n))), (some 44, fun v _ => v = .agg [.bool (decide (n < 0)), a].toArray), (some 45, fun v W => IsBig W v ((-n))), (some 46, fun v _ => v = .bool true), (some 47, fun v _ => v = .bool true), (some 48, fun v _ => v = .bool true), (some 49, fun v _ => v = .agg [.bool (decide (n < 0)), a].toArray), (some 50, fun v _ => v = .agg [.bool (decide (m < 0)), b].toArray), (some 51, fun v _ => v = .int .i64 (cmpI n m)), (some 52, fun v _ => v = .agg [.bool (decide (n < 0)), a].toArray), (some 53, fun v _ => v = .agg [.bool (decide (m < 0)), b].toArray), (some 54, fun v _ => v = .int .i64 (cmpI n m)), (some 55, fun v _ => v = .bool (decide ((cmpI n m) = (cmpI n m)))), (some 56, fun v _ => v = .bool (decide ((cmpI n m) = (cmpI n m)))), (some 57, fun v _ => v = .bool true), (some 58, fun v _ => v = .agg [.bool (decide (n < 0)), a].toArray), (some 59, fun v _ => v = .int .i64 k), (some 60, fun v W => IsBig W v ((shlN n k))), (some 61, fun v _ => v = .agg [.bool (decide (n < 0)), a].toArray), (some 62, fun v _ => v = .int .i64 k), (some 63, fun v W => IsBig W v ((shlN n k))), (some 64, fun v _ => v = .bool true), (some 65, fun v _ => v = .bool true), (some 66, fun v _ => v = .bool true), (some 67, fun v _ => v = .agg [.bool (decide (n < 0)), a].toArray), (some 68, fun v _ => v = .int .i64 k), (some 69, fun v W => IsBig W v ((shrN n k))), (some 70, fun v _ => v = .agg [.bool (decide (n < 0)), a].toArray), (some 71, fun v _ => v = .int .i64 k), (some 72, fun v W => IsBig W v ((shrN n k))), (some 73, fun v _ => v = .bool true), (some 74, fun v _ => v = .bool true)] [[], [], [0, 1], [], [], [3, 4], [2, 5], [6], [7], [7], [7, 8, 9], [7], [7], [7, 11, 12], [7, 10, 13], [7, 14], [15], [16], [16, 17], [16], [16, 19], [16, 18, 20], [16, 21], [22], [23], [23], [23, 24, 25], [23], [23], [23, 27, 28], [23, 26, 29], [23, 30], [31], [32], [32], [32, 33, 34], [32], [32], [32, 36, 37], [32, 35, 38], [32, 39], [40], [41], [41], [41, 42, 43], [41], [41], [41, 45, 46], [41, 44, 47], [41, 48]] [(2, .int .i64 k), (3, .pointer (some ⟨g1, 0, none⟩)), (4, .pointer (some ⟨g2, 0, none⟩)), (6, .bool false)] (by exact ⟨rfl, rfl, rfl, rfl, trivial⟩) (by kernel_rfl) (by kernel_rfl) grown_none_refl (fun _ _ _ => grown_none_trans) ⟨fun _ _ _ h _ => by exact h, fun _ _ _ h _ => by exact h, fun _ _ _ h k => h.g0 k, fun _ _ _ h _ => by exact h, fun _ _ _ h _ => by exact h, fun _ _ _ h k => h.g0 k, fun _ _ _ h _ => by exact h, fun _ _ _ h _ => by exact h, fun _ _ _ h _ => by exact h, fun _ _ _ h _ => by exact h, fun _ _ _ h k => h.g0 k, fun _ _ _ h _ => by exact h, fun _ _ _ h _ => by exact h, fun _ _ _ h k => h.g0 k, fun _ _ _ h _ => by exact h, fun _ _ _ h _ => by exact h, fun _ _ _ h _ => by exact h, fun _ _ _ h _ => by exact h, fun _ _ _ h k => h.g0 k, fun _ _ _ h _ => by exact h, fun _ _ _ h k => h.g0 k, fun _ _ _ h _ => by exact h, fun _ _ _ h _ => by exact h, fun _ _ _ h _ => by exact h, fun _ _ _ h _ => by exact h, fun _ _ _ h _ => by exact h, fun _ _ _ h _ => by exact h, fun _ _ _ h _ => by exact h, fun _ _ _ h _ => by exact h, fun _ _ _ h _ => by exact h, fun _ _ _ h _ => by exact h, fun _ _ _ h _ => by exact h, fun _ _ _ h _ => by exact h, fun _ _ _ h _ => by exact h, fun _ _ _ h _ => by exact h, fun _ _ _ h k => h.g0 k, fun _ _ _ h _ => by exact h, fun _ _ _ h _ => by exact h, fun _ _ _ h k => h.g0 k, fun _ _ _ h _ => by exact h, fun _ _ _ h _ => by exact h, fun _ _ _ h _ => by exact h, fun _ _ _ h _ => by exact h, fun _ _ _ h _ => by exact h, fun _ _ _ h k => h.g0 k, fun _ _ _ h _ => by exact h, fun _ _ _ h _ => by exact h, fun _ _ _ h k => h.g0 k, fun _ _ _ h _ => by exact h, fun _ _ _ h _ => by exact h, trivial⟩ ?_
          intro w25 k25 hs3
          have hb8 := below_g0 hb7 k25
          refine ⟨⟨?_, ?_, ?_, ?_, ?_, ?_, ?_, ?_, ?_, ?_, ?_, ?_, ?_, ?_, ?_, ?_, ?_, ?_, ?_, ?_, ?_, ?_, ?_, ?_, ?_, ?_, ?_, ?_, ?_, ?_, ?_, ?_, ?_, ?_, ?_, ?_, ?_, ?_, ?_, ?_, ?_, ?_, ?_, ?_, ?_, ?_, ?_, ?_, ?_, ?_, trivial⟩, ?_⟩
          · intro w26 k26
            have hb9 := below_g0 hb8 k26
            refine op1 (s_loadW row52 rfl ((((((((hB1.g0 k2).g0 k3).g0 k4).g0 k5).g0 k6).g0 k7).g0 k25).g0 k26).range rfl ?_)
            exact ⟨rfl, grown_none_refl _⟩
          · intro w27 k27
            have hb10 := below_g0 hb8 k27
            refine op1 (s_loadW row52 rfl (((((((hB2.g0 k3).g0 k4).g0 k5).g0 k6).g0 k7).g0 k25).g0 k27).range rfl ?_)
            exact ⟨rfl, grown_none_refl _⟩
          · intro w28 k28
            have hb11 := below_g0 hb8 k28
            rintro _ rfl
            rintro _ rfl
            refine op1 (s_call fn58 rfl (badd_any (big_of rfl ((ha.at0 hb11)).none) (big_of rfl ((hb.at0 hb11)).none) (Bd.le hbn (show 60 ≤ 90000 by decide)) (Bd.le hbm (show 60 ≤ 90000 by decide))) ?_)
            rintro _ w29 ⟨hq23, v16, rfl, hS11⟩
            have k29 := grown_of_below hq23 none
            have hz11 := hq23.size
            have hb12 := below_g0 hb11 k29
            have hz12 := hb12.size
            exact ⟨⟨_, rfl, hS11⟩, k29⟩
          · intro w30 k30
            have hb13 := below_g0 hb8 k30
            refine op1 (s_loadW row52 rfl ((((((((hB1.g0 k2).g0 k3).g0 k4).g0 k5).g0 k6).g0 k7).g0 k25).g0 k30).range rfl ?_)
            exact ⟨rfl, grown_none_refl _⟩
          · intro w31 k31
            have hb14 := below_g0 hb8 k31
            refine op1 (s_loadW row52 rfl (((((((hB2.g0 k3).g0 k4).g0 k5).g0 k6).g0 k7).g0 k25).g0 k31).range rfl ?_)
            exact ⟨rfl, grown_none_refl _⟩
          · intro w32 k32
            have hb15 := below_g0 hb8 k32
            rintro _ rfl
            rintro _ rfl
            refine op1 (s_call fn59 rfl (rbadd_any (big_of rfl ((ha.at0 hb15)).none) (big_of rfl ((hb.at0 hb15)).none) (Bd.le hbn (show 60 ≤ 90000 by decide)) (Bd.le hbm (show 60 ≤ 90000 by decide))) ?_)
            rintro _ w33 ⟨hq24, v17, rfl, hS12⟩
            have k33 := grown_of_below hq24 none
            have hz13 := hq24.size
            have hb16 := below_g0 hb15 k33
            have hz14 := hb16.size
            exact ⟨⟨_, rfl, hS12⟩, k33⟩
          · intro w34 k34
            have hb17 := below_g0 hb8 k34
            rintro _ ⟨v18, rfl, hS13⟩
            rintro _ ⟨v19, rfl, hS14⟩
            refine op1 (s_call fn50 rfl (rbsame_any (hS13).none (hS14).none) ?_)
            rintro v20 w35 ⟨hq25, hv6⟩
            rw [show decide (decide ((n + m) < 0) = decide ((n + m) < 0) ∧ ml (n + m) = ml (n + m)) = true from (decide_eq_decide.2 same_big).trans (decide_eq_true (rfl))] at hv6
            subst hv6
            have k35 := grown_of_below hq25 none
            have hz15 := hq25.size
            have hb18 := below_g0 hb17 k35
            have hz16 := hb18.size
            exact ⟨rfl, k35⟩
          · intro w36 k36
            have hb19 := below_g0 hb8 k36
            rintro _ rfl
            refine op1 (s_move rfl ?_)
            exact ⟨rfl, grown_none_refl _⟩
          · intro w37 k37
            have hb20 := below_g0 hb8 k37
            rintro _ rfl
            refine op1g (s_loadW row52 rfl ((((((((hB1.g0 k2).g0 k3).g0 k4).g0 k5).g0 k6).g0 k7).g0 k25).g0 k37).range rfl ?_)
            exact ⟨rfl, grown_none_refl _⟩
          · intro w38 k38
            have hb21 := below_g0 hb8 k38
            rintro _ rfl
            refine op1g (s_loadW row52 rfl (((((((hB2.g0 k3).g0 k4).g0 k5).g0 k6).g0 k7).g0 k25).g0 k38).range rfl ?_)
            exact ⟨rfl, grown_none_refl _⟩
          · intro w39 k39
            have hb22 := below_g0 hb8 k39
            rintro _ rfl
            rintro _ rfl
            rintro _ rfl
            refine op1g (s_call fn60 rfl (bsub_any (big_of rfl ((ha.at0 hb22)).none) (big_of rfl ((hb.at0 hb22)).none) (Bd.le hbn (show 60 ≤ 90000 by decide)) (Bd.le hbm (show 60 ≤ 90000 by decide))) ?_)
            rintro _ w40 ⟨hq26, v21, rfl, hS15⟩
            have k40 := grown_of_below hq26 none
            have hz17 := hq26.size
            have hb23 := below_g0 hb22 k40
            have hz18 := hb23.size
            exact ⟨⟨_, rfl, hS15⟩, k40⟩
          · intro w41 k41
            have hb24 := below_g0 hb8 k41
            rintro _ rfl
            refine op1g (s_loadW row52 rfl ((((((((hB1.g0 k2).g0 k3).g0 k4).g0 k5).g0 k6).g0 k7).g0 k25).g0 k41).range rfl ?_)
            exact ⟨rfl, grown_none_refl _⟩
          · intro w42 k42
            have hb25 := below_g0 hb8 k42
            rintro _ rfl
            refine op1g (s_loadW row52 rfl (((((((hB2.g0 k3).g0 k4).g0 k5).g0 k6).g0 k7).g0 k25).g0 k42).range rfl ?_)
            exact ⟨rfl, grown_none_refl _⟩
          · intro w43 k43
            have hb26 := below_g0 hb8 k43
            rintro _ rfl
            rintro _ rfl
            rintro _ rfl
            refine op1g (s_call fn61 rfl (rbsub_any (big_of rfl ((ha.at0 hb26)).none) (big_of rfl ((hb.at0 hb26)).none) (Bd.le hbn (show 60 ≤ 90000 by decide)) (Bd.le hbm (show 60 ≤ 90000 by decide))) ?_)
            rintro _ w44 ⟨hq27, v22, rfl, hS16⟩
            have k44 := grown_of_below hq27 none
            have hz19 := hq27.size
            have hb27 := below_g0 hb26 k44
            have hz20 := hb27.size
            exact ⟨⟨_, rfl, hS16⟩, k44⟩
          · intro w45 k45
            have hb28 := below_g0 hb8 k45
            rintro _ rfl
            rintro _ ⟨v23, rfl, hS17⟩
            rintro _ ⟨v24, rfl, hS18⟩
            refine op1g (s_call fn50 rfl (rbsame_any (hS17).none (hS18).none) ?_)
            rintro v25 w46 ⟨hq28, hv7⟩
            rw [show decide (decide ((n - m) < 0) = decide ((n - m) < 0) ∧ ml (n - m) = ml (n - m)) = true from (decide_eq_decide.2 same_big).trans (decide_eq_true (rfl))] at hv7
            subst hv7
            have k46 := grown_of_below hq28 none
            have hz21 := hq28.size
            have hb29 := below_g0 hb28 k46
            have hz22 := hb29.size
            exact ⟨rfl, k46⟩
          · intro w47 k47
            have hb30 := below_g0 hb8 k47
            rintro _ rfl
            rintro _ rfl
            refine op1 (s_pick rfl rfl ?_)
            exact ⟨rfl, grown_none_refl _⟩
          · intro w48 k48
            have hb31 := below_g0 hb8 k48
            rintro _ rfl
            refine op1 (s_move rfl ?_)
            exact ⟨rfl, grown_none_refl _⟩
          · intro w49 k49
            have hb32 := below_g0 hb8 k49
            rintro _ rfl
            refine op1g (s_loadW row52 rfl ((((((((hB1.g0 k2).g0 k3).g0 k4).g0 k5).g0 k6).g0 k7).g0 k25).g0 k49).range rfl ?_)
            exact ⟨rfl, grown_none_refl _⟩
          · intro w50 k50
            have hb33 := below_g0 hb8 k50
            rintro _ rfl
            rintro _ rfl
            refine op1g (s_call fn62 rfl (minus_any (big_of rfl ((ha.at0 hb33)).none)) ?_)
            rintro _ w51 ⟨hq29, v26, rfl, hS19⟩
            have k51 := grown_of_below hq29 none
            have hz23 := hq29.size
            have hb34 := below_g0 hb33 k51
            have hz24 := hb34.size
            exact ⟨⟨_, rfl, hS19⟩, k51⟩
          · intro w52 k52
            have hb35 := below_g0 hb8 k52
            rintro _ rfl
            refine op1g (s_loadW row52 rfl ((((((((hB1.g0 k2).g0 k3).g0 k4).g0 k5).g0 k6).g0 k7).g0 k25).g0 k52).range rfl ?_)
            exact ⟨rfl, grown_none_refl _⟩
          · intro w53 k53
            have hb36 := below_g0 hb8 k53
            rintro _ rfl
            rintro _ rfl
            refine op1g (s_call fn63 rfl (rminus_any (big_of rfl ((ha.at0 hb36)).none) (Bd.le hbn (show 60 ≤ 90000 by decide))) ?_)
            rintro _ w54 ⟨hq30, v27, rfl, hS20⟩
            have k54 := grown_of_below hq30 none
            have hz25 := hq30.size
            have hb37 := below_g0 hb36 k54
            have hz26 := hb37.size
            exact ⟨⟨_, rfl, hS20⟩, k54⟩
          · intro w55 k55
            have hb38 := below_g0 hb8 k55
            rintro _ rfl
            rintro _ ⟨v28, rfl, hS21⟩
            rintro _ ⟨v29, rfl, hS22⟩
            refine op1g (s_call fn50 rfl (rbsame_any (hS21).none (hS22).none) ?_)
            rintro v30 w56 ⟨hq31, hv8⟩
            rw [show decide (decide ((-n) < 0) = decide ((-n) < 0) ∧ ml (-n) = ml (-n)) = true from (decide_eq_decide.2 same_big).trans (decide_eq_true (rfl))] at hv8
            subst hv8
            have k56 := grown_of_below hq31 none
            have hz27 := hq31.size
            have hb39 := below_g0 hb38 k56
            have hz28 := hb39.size
            exact ⟨rfl, k56⟩
          · intro w57 k57
            have hb40 := below_g0 hb8 k57
            rintro _ rfl
            rintro _ rfl
            refine op1 (s_pick rfl rfl ?_)
            exact ⟨rfl, grown_none_refl _⟩
          · intro w58 k58
            have hb41 := below_g0 hb8 k58
            rintro _ rfl
            refine op1 (s_move rfl ?_)
            exact ⟨rfl, grown_none_refl _⟩
          · intro w59 k59
            have hb42 := below_g0 hb8 k59
            rintro _ rfl
            refine op1g (s_loadW row52 rfl ((((((((hB1.g0 k2).g0 k3).g0 k4).g0 k5).g0 k6).g0 k7).g0 k25).g0 k59).range rfl ?_)
            exact ⟨rfl, grown_none_refl _⟩
          · intro w60 k60
            have hb43 := below_g0 hb8 k60
            rintro _ rfl
            refine op1g (s_loadW row52 rfl (((((((hB2.g0 k3).g0 k4).g0 k5).g0 k6).g0 k7).g0 k25).g0 k60).range rfl ?_)
            exact ⟨rfl, grown_none_refl _⟩
          · intro w61 k61
            have hb44 := below_g0 hb8 k61
            rintro _ rfl
            rintro _ rfl
            rintro _ rfl
            refine op1g (s_call fn64 rfl (bcmp_any (big_of rfl ((ha.at0 hb44)).none) (big_of rfl ((hb.at0 hb44)).none)) ?_)
            rintro _ w62 ⟨hq32, rfl⟩
            have k62 := grown_of_below hq32 none
            have hz29 := hq32.size
            have hb45 := below_g0 hb44 k62
            have hz30 := hb45.size
            exact ⟨rfl, k62⟩
          · intro w63 k63
            have hb46 := below_g0 hb8 k63
            rintro _ rfl
            refine op1g (s_loadW row52 rfl ((((((((hB1.g0 k2).g0 k3).g0 k4).g0 k5).g0 k6).g0 k7).g0 k25).g0 k63).range rfl ?_)
            exact ⟨rfl, grown_none_refl _⟩
          · intro w64 k64
            have hb47 := below_g0 hb8 k64
            rintro _ rfl
            refine op1g (s_loadW row52 rfl (((((((hB2.g0 k3).g0 k4).g0 k5).g0 k6).g0 k7).g0 k25).g0 k64).range rfl ?_)
            exact ⟨rfl, grown_none_refl _⟩
          · intro w65 k65
            have hb48 := below_g0 hb8 k65
            rintro _ rfl
            rintro _ rfl
            rintro _ rfl
            refine op1g (s_call fn65 rfl (rbcmp_any (big_of rfl ((ha.at0 hb48)).none) (big_of rfl ((hb.at0 hb48)).none) (Bd.le hbn (show 60 ≤ 90000 by decide)) (Bd.le hbm (show 60 ≤ 90000 by decide))) ?_)
            rintro _ w66 ⟨hq33, rfl⟩
            have k66 := grown_of_below hq33 none
            have hz31 := hq33.size
            have hb49 := below_g0 hb48 k66
            have hz32 := hb49.size
            exact ⟨rfl, k66⟩
          · intro w67 k67
            have hb50 := below_g0 hb8 k67
            rintro _ rfl
            rintro _ rfl
            rintro _ rfl
            refine op1g (s_eq rfl rfl ?_)
            exact ⟨rfl, grown_none_refl _⟩
          · intro w68 k68
            have hb51 := below_g0 hb8 k68
            rintro _ rfl
            rintro _ rfl
            refine op1 (s_pick rfl rfl ?_)
            exact ⟨rfl, grown_none_refl _⟩
          · intro w69 k69
            have hb52 := below_g0 hb8 k69
            rintro _ rfl
            refine op1 (s_move rfl ?_)
            exact ⟨(by rw [decide_eq_true h5]), grown_none_refl _⟩
          · intro w70 k70
            have hb53 := below_g0 hb8 k70
            rintro _ rfl
            refine op1g (s_loadW row52 rfl ((((((((hB1.g0 k2).g0 k3).g0 k4).g0 k5).g0 k6).g0 k7).g0 k25).g0 k70).range rfl ?_)
            exact ⟨rfl, grown_none_refl _⟩
          · intro w71 k71
            have hb54 := below_g0 hb8 k71
            rintro _ rfl
            refine op1g (s_move rfl ?_)
            exact ⟨rfl, grown_none_refl _⟩
          · intro w72 k72
            have hb55 := below_g0 hb8 k72
            rintro _ rfl
            rintro _ rfl
            rintro _ rfl
            refine op1g (s_call fn66 rfl (bshl_any (big_of rfl ((ha.at0 hb55)).none) (Bd.le hbn (show 60 ≤ 90000 by decide))) ?_)
            rintro _ w73 ⟨hq34, v31, rfl, hS23⟩
            have k73 := grown_of_below hq34 none
            have hz33 := hq34.size
            have hb56 := below_g0 hb55 k73
            have hz34 := hb56.size
            exact ⟨⟨_, rfl, hS23⟩, k73⟩
          · intro w74 k74
            have hb57 := below_g0 hb8 k74
            rintro _ rfl
            refine op1g (s_loadW row52 rfl ((((((((hB1.g0 k2).g0 k3).g0 k4).g0 k5).g0 k6).g0 k7).g0 k25).g0 k74).range rfl ?_)
            exact ⟨rfl, grown_none_refl _⟩
          · intro w75 k75
            have hb58 := below_g0 hb8 k75
            rintro _ rfl
            refine op1g (s_move rfl ?_)
            exact ⟨rfl, grown_none_refl _⟩
          · intro w76 k76
            have hb59 := below_g0 hb8 k76
            rintro _ rfl
            rintro _ rfl
            rintro _ rfl
            refine op1g (s_call fn67 rfl (rbshl_any (big_of rfl ((ha.at0 hb59)).none) (Bd.le hbn (show 60 ≤ 90000 by decide))) ?_)
            rintro _ w77 ⟨hq35, v32, rfl, hS24⟩
            have k77 := grown_of_below hq35 none
            have hz35 := hq35.size
            have hb60 := below_g0 hb59 k77
            have hz36 := hb60.size
            exact ⟨⟨_, rfl, hS24⟩, k77⟩
          · intro w78 k78
            have hb61 := below_g0 hb8 k78
            rintro _ rfl
            rintro _ ⟨v33, rfl, hS25⟩
            rintro _ ⟨v34, rfl, hS26⟩
            refine op1g (s_call fn50 rfl (rbsame_any (hS25).none (hS26).none) ?_)
            rintro v35 w79 ⟨hq36, hv9⟩
            rw [show decide (decide ((shlN n k) < 0) = decide ((shlN n k) < 0) ∧ ml (shlN n k) = ml (shlN n k)) = true from (decide_eq_decide.2 same_big).trans (decide_eq_true (rfl))] at hv9
            subst hv9
            have k79 := grown_of_below hq36 none
            have hz37 := hq36.size
            have hb62 := below_g0 hb61 k79
            have hz38 := hb62.size
            exact ⟨rfl, k79⟩
          · intro w80 k80
            have hb63 := below_g0 hb8 k80
            rintro _ rfl
            rintro _ rfl
            refine op1 (s_pick rfl rfl ?_)
            exact ⟨rfl, grown_none_refl _⟩
          · intro w81 k81
            have hb64 := below_g0 hb8 k81
            rintro _ rfl
            refine op1 (s_move rfl ?_)
            exact ⟨rfl, grown_none_refl _⟩
          · intro w82 k82
            have hb65 := below_g0 hb8 k82
            rintro _ rfl
            refine op1g (s_loadW row52 rfl ((((((((hB1.g0 k2).g0 k3).g0 k4).g0 k5).g0 k6).g0 k7).g0 k25).g0 k82).range rfl ?_)
            exact ⟨rfl, grown_none_refl _⟩
          · intro w83 k83
            have hb66 := below_g0 hb8 k83
            rintro _ rfl
            refine op1g (s_move rfl ?_)
            exact ⟨rfl, grown_none_refl _⟩
          · intro w84 k84
            have hb67 := below_g0 hb8 k84
            rintro _ rfl
            rintro _ rfl
            rintro _ rfl
            refine op1g (s_call fn68 rfl (bshr_any (big_of rfl ((ha.at0 hb67)).none) (Bd.le hbn (show 60 ≤ 90000 by decide))) ?_)
            rintro _ w85 ⟨hq37, v36, rfl, hS27⟩
            have k85 := grown_of_below hq37 none
            have hz39 := hq37.size
            have hb68 := below_g0 hb67 k85
            have hz40 := hb68.size
            exact ⟨⟨_, rfl, hS27⟩, k85⟩
          · intro w86 k86
            have hb69 := below_g0 hb8 k86
            rintro _ rfl
            refine op1g (s_loadW row52 rfl ((((((((hB1.g0 k2).g0 k3).g0 k4).g0 k5).g0 k6).g0 k7).g0 k25).g0 k86).range rfl ?_)
            exact ⟨rfl, grown_none_refl _⟩
          · intro w87 k87
            have hb70 := below_g0 hb8 k87
            rintro _ rfl
            refine op1g (s_move rfl ?_)
            exact ⟨rfl, grown_none_refl _⟩
          · intro w88 k88
            have hb71 := below_g0 hb8 k88
            rintro _ rfl
            rintro _ rfl
            rintro _ rfl
            refine op1g (s_call fn69 rfl (rbshr_any (big_of rfl ((ha.at0 hb71)).none) (Bd.le hbn (show 60 ≤ 80000 by decide))) ?_)
            rintro _ w89 ⟨hq38, v37, rfl, hS28⟩
            have k89 := grown_of_below hq38 none
            have hz41 := hq38.size
            have hb72 := below_g0 hb71 k89
            have hz42 := hb72.size
            exact ⟨⟨_, rfl, hS28⟩, k89⟩
          · intro w90 k90
            have hb73 := below_g0 hb8 k90
            rintro _ rfl
            rintro _ ⟨v38, rfl, hS29⟩
            rintro _ ⟨v39, rfl, hS30⟩
            refine op1g (s_call fn50 rfl (rbsame_any (hS29).none (hS30).none) ?_)
            rintro v40 w91 ⟨hq39, hv10⟩
            rw [show decide (decide ((shrN n k) < 0) = decide ((shrN n k) < 0) ∧ ml (shrN n k) = ml (shrN n k)) = true from (decide_eq_decide.2 same_big).trans (decide_eq_true (rfl))] at hv10
            subst hv10
            have k91 := grown_of_below hq39 none
            have hz43 := hq39.size
            have hb74 := below_g0 hb73 k91
            have hz44 := hb74.size
            exact ⟨rfl, k91⟩
          · intro w92 k92
            have hb75 := below_g0 hb8 k92
            rintro _ rfl
            rintro _ rfl
            refine op1 (s_pick rfl rfl ?_)
            exact ⟨rfl, grown_none_refl _⟩
          · intro w93 k93
            have hb76 := below_g0 hb8 k93
            rintro _ rfl
            rintro _ rfl
            rintro _ ⟨v41, rfl, hS31⟩
            rintro _ rfl
            rintro _ rfl
            rintro _ ⟨v42, rfl, hS32⟩
            rintro _ rfl
            rintro _ rfl
            rintro _ rfl
            rintro _ rfl
            rintro _ ⟨v43, rfl, hS33⟩
            rintro _ rfl
            rintro _ rfl
            rintro _ ⟨v44, rfl, hS34⟩
            rintro _ rfl
            rintro _ rfl
            rintro _ rfl
            rintro _ rfl
            rintro _ ⟨v45, rfl, hS35⟩
            rintro _ rfl
            rintro _ ⟨v46, rfl, hS36⟩
            rintro _ rfl
            rintro _ rfl
            rintro _ rfl
            rintro _ rfl
            rintro _ rfl
            rintro _ rfl
            rintro _ rfl
            rintro _ rfl
            rintro _ rfl
            rintro _ rfl
            rintro _ rfl
            rintro _ rfl
            rintro _ rfl
            rintro _ rfl
            rintro _ ⟨v47, rfl, hS37⟩
            rintro _ rfl
            rintro _ rfl
            rintro _ ⟨v48, rfl, hS38⟩
            rintro _ rfl
            rintro _ rfl
            rintro _ rfl
            rintro _ rfl
            rintro _ rfl
            rintro _ ⟨v49, rfl, hS39⟩
            rintro _ rfl
            rintro _ rfl
            rintro _ ⟨v50, rfl, hS40⟩
            rintro _ rfl
            rintro _ rfl
            refine st (s_assign rfl ?_)
            refine r_end ?_
            refine n_then ?_
            refine w_ret1 rfl rfl ?_
            exact ⟨_, rfl, hb76, by first | rfl | exact congrArg Value.bool (decide_eq_true rfl) | (simp; done)⟩

theorem bback_any {w : World} {ng mg : Bool} {a b : Value} {xs ys : List Int} (ha : Sl Kd.u32 w (fun _ => False) a xs) (hb : Sl Kd.u32 w (fun _ => False) b ys) {k : Int} (hk : 0 ≤ k ∧ k ≤ 255) :
    Calls Try.prog 12 [.agg [.bool ng, a].toArray, .agg [.bool mg, b].toArray, .int .u8 k].toArray w (Pure w fun v _ => v = .bool true) := by
  have hb0 := Below.refl w.heap.size w
  refine enter Try.func12 rfl rfl ?_
  refine w_seq ?_
  refine w_region ?_
  refine st (s_box rfl ?_)
  intro g1 w1 hg1 hB1 k1 hs1
  change Blk w1 g1 52 [.bool ng, a].toArray at hB1
  have hb1 := below_g0 hb0 k1
  refine st (s_box rfl ?_)
  intro g2 w2 hg2 hB2 k2 hs2
  change Blk w2 g2 52 [.bool mg, b].toArray at hB2
  have hb2 := below_g0 hb1 k2
  refine st (s_assign rfl ?_)
  refine r_end ?_
  refine n_then ?_
  refine w_seq ?_
  refine w_seq ?_
  refine w_region ?_
  refine st (s_call fn46 rfl (alive2_any) ?_)
  rintro _ w3 ⟨hq1, rfl⟩
  have k3 := grown_of_below hq1 none
  have hz1 := hq1.size
  have hb3 := below_g0 hb2 k3
  have hz2 := hb3.size
  refine st (s_not rfl ?_)
  refine r_end ?_
  refine n_then ?_
  refine w_condF rfl ?_
  refine w_skip' ?_
  refine n_then ?_
  refine w_seq ?_
  refine w_seq ?_
  refine w_region ?_
  refine st (s_loadW row52 rfl ((hB1.g0 k2).g0 k3).range rfl ?_)
  refine st (s_call fn47 rfl (great_any ((ha.at0 hb3)).none) ?_)
  rintro _ w4 ⟨hq2, rfl⟩
  have k4 := grown_of_below hq2 none
  have hz3 := hq2.size
  have hb4 := below_g0 hb3 k4
  have hz4 := hb4.size
  refine st (s_move rfl ?_)
  refine r_caseP 15 rfl (fun h1 => ?_) (fun h1 => ?_)
  · refine s_pass rfl rfl ?_
    refine s_pass rfl rfl ?_
    refine st (s_pick rfl rfl ?_)
    refine st (s_move rfl ?_)
    refine s_pass rfl rfl ?_
    refine s_pass rfl rfl ?_
    refine s_pass rfl rfl ?_
    refine st (s_pick rfl rfl ?_)
    refine st (s_move rfl ?_)
    refine s_pass rfl rfl ?_
    refine s_pass rfl rfl ?_
    refine s_pass rfl rfl ?_
    refine st (s_pick rfl rfl ?_)
    refine r_end ?_
    refine n_then ?_
    refine w_condT rfl ?_
    refine w_seq ?_
    refine w_region ?_
    refine st (s_assign rfl ?_)
    refine r_end ?_
    refine n_then ?_
    refine w_ret1 rfl rfl ?_
    exact ⟨_, rfl, hb4, by first | rfl | exact congrArg Value.bool (decide_eq_true rfl) | (simp; done)⟩
  · refine stg (s_loadW row52 rfl ((hB2.g0 k3).g0 k4).range rfl ?_)
    refine stg (s_call fn47 rfl (great_any ((hb.at0 hb4)).none) ?_)
    rintro _ w5 ⟨hq3, rfl⟩
    have k5 := grown_of_below hq3 none
    have hz5 := hq3.size
    have hb5 := below_g0 hb4 k5
    have hz6 := hb5.size
    refine st (s_pick rfl rfl ?_)
    refine st (s_move rfl ?_)
    refine r_caseP 19 rfl (fun h2 => ?_) (fun h2 => ?_)
    · refine s_pass rfl rfl ?_
      refine s_pass rfl rfl ?_
      refine s_pass rfl rfl ?_
      refine st (s_pick rfl rfl ?_)
      refine st (s_move rfl ?_)
      refine s_pass rfl rfl ?_
      refine s_pass rfl rfl ?_
      refine s_pass rfl rfl ?_
      refine st (s_pick rfl rfl ?_)
      refine r_end ?_
      refine n_then ?_
      refine w_condT rfl ?_
      refine w_seq ?_
      refine w_region ?_
      refine st (s_assign rfl ?_)
      refine r_end ?_
      refine n_then ?_
      refine w_ret1 rfl rfl ?_
      exact ⟨_, rfl, hb5, by first | rfl | exact congrArg Value.bool (decide_eq_true rfl) | (simp; done)⟩
    · refine stg (s_loadW row52 rfl ((((hB1.g0 k2).g0 k3).g0 k4).g0 k5).range rfl ?_)
      refine stg (s_call fn53 rfl (rbright_any ((ha.at0 hb5)).none) ?_)
      rintro _ w6 ⟨hq4, rfl⟩
      have k6 := grown_of_below hq4 none
      have hz7 := hq4.size
      have hb6 := below_g0 hb5 k6
      have hz8 := hb6.size
      refine stg (s_not rfl ?_)
      refine st (s_pick rfl rfl ?_)
      refine st (s_move rfl ?_)
      refine r_case 24 rfl (fun h3 => ?_) (fun h3 => ?_)
      · refine s_pass rfl rfl ?_
        refine s_pass rfl rfl ?_
        refine s_pass rfl rfl ?_
        refine st (s_pick rfl rfl ?_)
        refine r_end ?_
        refine n_then ?_
        refine w_condT rfl ?_
        refine w_seq ?_
        refine w_region ?_
        refine st (s_assign rfl ?_)
        refine r_end ?_
        refine n_then ?_
        refine w_ret1 rfl rfl ?_
        exact ⟨_, rfl, hb6, by first | rfl | exact congrArg Value.bool (decide_eq_true rfl) | (simp; done)⟩
      · obtain ⟨n, rfl, rfl⟩ := bigR_out (lim_sl ha) (by simpa using h3)
        have hbn : Bd 60 n := bd_ml (by omega)
        refine stg (s_loadW row52 rfl ((((hB2.g0 k3).g0 k4).g0 k5).g0 k6).range rfl ?_)
        refine stg (s_call fn53 rfl (rbright_any ((hb.at0 hb6)).none) ?_)
        rintro _ w7 ⟨hq5, rfl⟩
        have k7 := grown_of_below hq5 none
        have hz9 := hq5.size
        have hb7 := below_g0 hb6 k7
        have hz10 := hb7.size
        refine stg (s_not rfl ?_)
        refine st (s_pick rfl rfl ?_)
        refine r_end ?_
        refine n_then ?_
        refine w_cond rfl (fun h4 => ?_) (fun h4 => ?_)
        · refine w_seq ?_
          refine w_region ?_
          refine st (s_assign rfl ?_)
          refine r_end ?_
          refine n_then ?_
          refine w_ret1 rfl rfl ?_
          exact ⟨_, rfl, hb7, by first | rfl | exact congrArg Value.bool (decide_eq_true rfl) | (simp; done)⟩
        · obtain ⟨m, rfl, rfl⟩ := bigR_out (lim_sl hb) (by simpa using h4)
          have hbm : Bd 60 m := bd_ml (by omega)
          refine w_skip' ?_
          refine n_then ?_
          refine w_seq ?_
          refine w_region ?_
          refine st (s_move rfl ?_)
          refine st (s_conv64 intk5 intk3 rfl (by omega) ?_)
          refine st (s_assign rfl ?_)
          refine r_end ?_
          refine n_then ?_
          refine w_seq ?_
          refine w_region ?_
          refine st (s_loadW row52 rfl ((((((hB1.g0 k2).g0 k3).g0 k4).g0 k5).g0 k6).g0 k7).range rfl ?_)
          refine st (s_move rfl ?_)
          refine st (s_call fn68 rfl (bshr_any (big_of rfl ((ha.at0 hb7)).none) (Bd.le hbn (show 60 ≤ 90000 by decide))) ?_)
          rintro _ w8 ⟨hq6, v1, rfl, hS1⟩
          have k8 := grown_of_below hq6 none
          have hz11 := hq6.size
          have hb8 := below_g0 hb7 k8
          have hz12 := hb8.size
          refine st (s_alloc zero52 ?_)
          intro g3 w9 hg3 hB3 k9 hs3
          have hb9 := below_g0 hb8 k9
          refine st0 (s_storeN row52 rfl rfl hB3 (by simp only [List.all_cons, List.all_nil, hS1.one, Bool.and_true, Bool.and_self] <;> rfl) rfl rfl ?_)
          intro w10 hB4 k10 hs4
          have hb10 := below_g hb9 k10 (by omega)
          refine r_end ?_
          refine n_then ?_
          refine w_seq ?_
          have hlt_1 := ((((((((((hB1.g0 k2).g0 k3).g0 k4).g0 k5).g0 k6).g0 k7).g0 k8).g0 k9).gne k10 (by omega))).lt
          have hlt_2 := (((((((((hB2.g0 k3).g0 k4).g0 k5).g0 k6).g0 k7).g0 k8).g0 k9).gne k10 (by omega))).lt
          have hlt_3 := (hB4).lt
          refine w_drawF 10 (fun a b => a.grownBy b none) [(some 34, fun v _ => v = .agg [.bool (decide ((shrN n k) < 0)), v1].toArray), (some 35, fun v _ => v = .int .i64 k), (some 36, fun v W => IsBig W v ((shlN (shrN n k) k))), (some 37, fun v _ => v = .agg [.bool (decide ((shrN n k) < 0)), v1].toArray), (some 38, fun v W => IsBig W v ((1 : Int))), (some 39, fun v W => IsBig W v (((shrN n k) + (1 : Int)))), (some 40, fun v _ => v = .int .i64 k), (some 41, fun v W => IsBig W v ((shlN ((shrN n k) + (1 : Int)) k))), (some 9, fun v W => ∃ g, v = .pointer (some ⟨g, 0, none⟩) ∧ Blk W g 52 #[.bool false, .slice none 0 0] ∧ w10.heap.size ≤ g), (some 10, fun v W => ∃ g, v = .pointer (some ⟨g, 0, none⟩) ∧ Blk W g 52 #[.bool false, .slice none 0 0] ∧ w10.heap.size ≤ g)] [[], [], [0, 1], [], [], [3, 4], [], [5, 6], [], []] [false, false, false, false, false, false, false, false, true, true] [(3, .pointer (some ⟨g1, 0, none⟩)), (4, .pointer (some ⟨g2, 0, none⟩)), (6, .bool false), (7, .int .i64 k), (8, .pointer (some ⟨g3, 0, none⟩))] (by exact ⟨rfl, rfl, rfl, rfl, rfl, trivial⟩) (by kernel_rfl) (by kernel_rfl) grown_none_refl (fun _ _ _ => grown_none_trans) ⟨fun _ _ _ h _ => h, fun _ _ _ h _ => h, fun _ _ _ h k => h.g0 k, fun _ _ _ h _ => h, fun _ _ _ h k => h.g0 k, fun _ _ _ h k => h.g0 k, fun _ _ _ h _ => h, fun _ _ _ h k => h.g0 k, fun _ _ _ h k => by obtain ⟨g, e, hB, hg⟩ := h; exact ⟨g, e, hB.g0 k, hg⟩, fun _ _ _ h k => by obtain ⟨g, e, hB, hg⟩ := h; exact ⟨g, e, hB.g0 k, hg⟩, trivial⟩ ⟨(fun h => by cases h), (fun h => by cases h), (fun h => by cases h), (fun h => by cases h), (fun h => by cases h), (fun h => by cases h), (fun h => by cases h), (fun h => by cases h), fun _ _ _ ⟨g, e, hB, _⟩ => ⟨g, e, hB.lt⟩, fun _ _ _ ⟨g, e, hB, _⟩ => ⟨g, e, hB.lt⟩, trivial⟩ ?_
          intro w17 k17 hs7
          have hb11 := below_g0 hb10 k17
          refine ⟨⟨?_, ?_, ?_, ?_, ?_, ?_, ?_, ?_, ?_, ?_, trivial⟩, ?_⟩
          · intro w18 k18
            have hb12 := below_g0 hb11 k18
            refine op1 (s_loadW row52 rfl ((hB4.g0 k17).g0 k18).range rfl ?_)
            exact ⟨rfl, grown_none_refl _, fun h => by cases h⟩
          · intro w19 k19
            have hb13 := below_g0 hb11 k19
            refine op1 (s_move rfl ?_)
            exact ⟨rfl, grown_none_refl _, fun h => by cases h⟩
          · intro w20 k20
            have hb14 := below_g0 hb11 k20
            rintro _ rfl
            rintro _ rfl
            refine op1 (s_call fn66 rfl (bshl_any (big_of rfl (((((hS1.g0 k9).gB k10 hB3 rfl).g0 k17).g0 k20)).none) (Bd.le (bd_shr hbn) (show 60 ≤ 90000 by decide))) ?_)
            rintro _ w21 ⟨hq11, v6, rfl, hS6⟩
            have k21 := grown_of_below hq11 none
            have hz13 := hq11.size
            have hb15 := below_g0 hb14 k21
            have hz14 := hb15.size
            exact ⟨⟨_, rfl, hS6⟩, k21, fun h => by cases h⟩
          · intro w22 k22
            have hb16 := below_g0 hb11 k22
            refine op1 (s_loadW row52 rfl ((hB4.g0 k17).g0 k22).range rfl ?_)
            exact ⟨rfl, grown_none_refl _, fun h => by cases h⟩
          · intro w23 k23
            have hb17 := below_g0 hb11 k23
            refine op1 (s_call fn49 rfl (of_any (by omega)) ?_)
            rintro _ w24 ⟨hq12, v7, rfl, hS7⟩
            have k24 := grown_of_below hq12 none
            have hz15 := hq12.size
            have hb18 := below_g0 hb17 k24
            have hz16 := hb18.size
            exact ⟨⟨_, rfl, hS7⟩, k24, fun h => by cases h⟩
          · intro w25 k25
            have hb19 := below_g0 hb11 k25
            rintro _ rfl
            rintro _ ⟨v8, rfl, hS8⟩
            refine op1 (s_call fn58 rfl (badd_any (big_of rfl (((((hS1.g0 k9).gB k10 hB3 rfl).g0 k17).g0 k25)).none) (big_of rfl (hS8).none) (Bd.le (bd_shr hbn) (show 60 ≤ 90000 by decide)) (Bd.le (bd_small (by omega)) (show 2 ≤ 90000 by decide))) ?_)
            rintro _ w26 ⟨hq13, v9, rfl, hS9⟩
            have k26 := grown_of_below hq13 none
            have hz17 := hq13.size
            have hb20 := below_g0 hb19 k26
            have hz18 := hb20.size
            exact ⟨⟨_, rfl, hS9⟩, k26, fun h => by cases h⟩
          · intro w27 k27
            have hb21 := below_g0 hb11 k27
            refine op1 (s_move rfl ?_)
            exact ⟨rfl, grown_none_refl _, fun h => by cases h⟩
          · intro w28 k28
            have hb22 := below_g0 hb11 k28
            rintro _ ⟨v10, rfl, hS10⟩
            rintro _ rfl
            refine op1 (s_call fn66 rfl (bshl_any (big_of rfl (hS10).none) (Bd.le (bd_add (bd_shr hbn) (bd_small (by omega)) (show 60 < 61 by decide) (show 2 < 61 by decide)) (show 61 ≤ 90000 by decide))) ?_)
            rintro _ w29 ⟨hq14, v11, rfl, hS11⟩
            have k29 := grown_of_below hq14 none
            have hz19 := hq14.size
            have hb23 := below_g0 hb22 k29
            have hz20 := hb23.size
            exact ⟨⟨_, rfl, hS11⟩, k29, fun h => by cases h⟩
          · intro w30 k30
            have hb24 := below_g0 hb11 k30
            refine op1 (s_alloc zero52 ?_)
            intro g6 w31 hg6 hB7 k31 hs8
            have hb25 := below_g0 hb24 k31
            exact ⟨⟨_, rfl, hB7, by have h0_ := k17.size; have h1_ := k30.size; have h2_ := k31.size; omega⟩, k31, fun _ => ⟨_, rfl, by omega⟩⟩
          · intro w32 k32
            have hb26 := below_g0 hb11 k32
            refine op1 (s_alloc zero52 ?_)
            intro g7 w33 hg7 hB8 k33 hs9
            have hb27 := below_g0 hb26 k33
            exact ⟨⟨_, rfl, hB8, by have h0_ := k17.size; have h1_ := k32.size; have h2_ := k33.size; omega⟩, k33, fun _ => ⟨_, rfl, by omega⟩⟩
          · intro w34 k34
            have hb28 := below_g0 hb11 k34
            rintro _ rfl
            rintro _ rfl
            rintro _ ⟨v12, rfl, hS12⟩
            rintro _ rfl
            rintro _ ⟨v13, rfl, hS13⟩
            rintro _ ⟨v14, rfl, hS14⟩
            rintro _ rfl
            rintro _ ⟨v15, rfl, hS15⟩
            rintro _ ⟨g8, rfl, hB9, hg8⟩
            intro hnf1
            rintro _ ⟨g9, rfl, hB10, hg9⟩
            intro hnf2
            have hne1 : g8 ≠ g9 := fresh_ne (hnf2 _ (by simp))
            refine st0 (s_storeN row52 rfl rfl hB9 (by simp only [List.all_cons, List.all_nil, hS12.one, Bool.and_true, Bool.and_self] <;> rfl) rfl rfl ?_)
            intro w35 hB11 k35 hs10
            have hb29 := below_g hb28 k35 (by omega)
            refine st0 (s_storeN row52 rfl rfl (hB10.gne k35 (by omega)) (by simp only [List.all_cons, List.all_nil, hS15.one, Bool.and_true, Bool.and_self] <;> rfl) rfl rfl ?_)
            intro w36 hB12 k36 hs11
            have hb30 := below_g hb29 k36 (by omega)
            refine r_end ?_
            refine n_then ?_
            refine w_seq ?_
            have h5 : ((cmpI (shlN (shrN n k) k) n) ≤ 0) := Classical.byContradiction fun h5 => absurd (back_low hk.1 hk.2) h5
            have h6 : ((cmpI n (shlN ((shrN n k) + (1 : Int)) k)) < 0) := Classical.byContradiction fun h6 => absurd (back_high hk.1 hk.2) h6
            have h7 : ((cmpI n m) = (-(cmpI m n))) := Classical.byContradiction fun h7 => absurd (cmpI_flip n m) h7
            refine w_draw 51 (fun a b => a.grownBy b none) [(some 42, fun v _ => v = .agg [.bool (decide (n < 0)), a].toArray), (some 43, fun v _ => v = .agg [.bool (decide (m < 0)), b].toArray), (some 44, fun v W => IsBig W v ((n + m))), (some 45, fun v _ => v = .agg [.bool (decide (m < 0)), b].toArray), (some 46, fun v W => IsBig W v (((n + m) - m))), (some 47, fun v _ => v = .agg [.bool (decide (n < 0)), a].toArray), (some 48, fun v _ => v = .bool true), (some 49, fun v _ => v = .bool true), (some 50, fun v _ => v = .agg [.bool (decide (n < 0)), a].toArray), (some 51, fun v _ => v = .agg [.bool (decide (m < 0)), b].toArray), (some 52, fun v W => IsBig W v ((n + m))), (some 53, fun v _ => v = .agg [.bool (decide (m < 0)), b].toArray), (some 54, fun v _ => v = .agg [.bool (decide (n < 0)), a].toArray), (some 55, fun v W => IsBig W v ((m + n))), (some 56, fun v _ => v = .bool true), (some 57, fun v _ => v = .bool true), (some 58, fun v _ => v = .bool true), (some 59, fun v _ => v = .agg [.bool (decide (n < 0)), a].toArray), (some 60, fun v _ => v = .int .i64 k), (some 61, fun v W => IsBig W v ((shlN n k))), (some 62, fun v _ => v = .int .i64 k), (some 63, fun v W => IsBig W v ((shrN (shlN n k) k))), (some 64, fun v _ => v = .agg [.bool (decide (n < 0)), a].toArray), (some 65, fun v _ => v = .bool true), (some 66, fun v _ => v = .bool true), (some 67, fun v _ => v = .bool true), (some 68, fun v _ => v = .agg [.bool (decide ((shlN (shrN n k) k) < 0)), v12].toArray), (some 69, fun v _ => v = .agg [.bool (decide (n < 0)), a].toArray), (some 70, fun v _ => v = .int .i64 (cmpI (shlN (shrN n k) k) n)), (some 71, fun v _ => v = .bool (decide ((cmpI (shlN (shrN n k) k) n) ≤ 0))), (some 72, fun v _ => v = .bool (decide ((cmpI (shlN (shrN n k) k) n) ≤ 0))), (some 73, fun v _ => v = .bool true), (some 74, fun v _ => v = .agg [.bool (decide (n < 0)), a].toArray), (some 75, fun v _ => v = .agg [.bool (decide ((shlN ((shrN n k) + (1 : Int)) k) < 0)), v15].toArray), (some 76, fun v _ => v = .int .i64 (cmpI n (shlN ((shrN n k) + (1 : Int)) k))), (some 77, fun v _ => v = .bool (decide ((cmpI n (shlN ((shrN n k) + (1 : Int)) k)) < 0))), (some 78, fun v _ => v = .bool (decide ((cmpI n (shlN ((shrN n k) + (1 : Int)) k)) < 0))), (some 79, fun v _ => v = .bool true), (some 80, fun v _ => v = .agg [.bool (decide (n < 0)), a].toArray), (some 81, fun v _ => v = .agg [.bool (decide (m < 0)), b].toArray), (some 82, fun v _ => v = .int .i64 (cmpI n m)), (some 83, fun v _ => v = .agg [.bool (decide (m < 0)), b].toArray), (some 84, fun v _ => v = .agg [.bool (decide (n < 0)), a].toArray), (some 85, fun v _ => v = .int .i64 (cmpI m n)), (some 86, fun v _ => v = .int .i64 (-(cmpI m n))), (some 87, fun v _ => v = .bool (decide ((cmpI n m) = (-(cmpI m n))))), (some 88, fun v _ => v = .bool (decide ((cmpI n m) = (-(cmpI m n))))), (some 89, fun v _ => v = .bool true), (some 90, fun v _ => v = .agg [.bool (decide ((shrN n k) < 0)), v1].toArray), (some 91, fun v _ => v = .bool true), (some 92, fun v _ => v = .bool true)] [[], [], [0, 1], [], [2, 3], [], [4, 5], [6], [7], [7], [7, 8, 9], [7], [7], [7, 11, 12], [7, 10, 13], [7, 14], [15], [16], [16], [16, 17, 18], [16], [16, 19, 20], [16], [16, 21, 22], [16, 23], [24], [25], [25], [25, 26, 27], [25, 28], [25, 29], [30], [31], [31], [31, 32, 33], [31, 34], [31, 35], [36], [37], [37], [37, 38, 39], [37], [37], [37, 41, 42], [37, 43], [37, 40, 44], [37, 45], [46], [47], [47, 48], [47, 49]] [(3, .pointer (some ⟨g1, 0, none⟩)), (4, .pointer (some ⟨g2, 0, none⟩)), (6, .bool false), (7, .int .i64 k), (8, .pointer (some ⟨g3, 0, none⟩)), (9, .pointer (some ⟨g8, 0, none⟩)), (10, .pointer (some ⟨g9, 0, none⟩))] (by exact ⟨rfl, rfl, rfl, rfl, rfl, rfl, rfl, trivial⟩) (by kernel_rfl) (by kernel_rfl) grown_none_refl (fun _ _ _ => grown_none_trans) ⟨fun _ _ _ h _ => by exact h, fun _ _ _ h _ => by exact h, fun _ _ _ h k => h.g0 k, fun _ _ _ h _ => by exact h, fun _ _ _ h k => h.g0 k, fun _ _ _ h _ => by exact h, fun _ _ _ h _ => by exact h, fun _ _ _ h _ => by exact h, fun _ _ _ h _ => by exact h, fun _ _ _ h _ => by exact h, fun _ _ _ h k => h.g0 k, fun _ _ _ h _ => by exact h, fun _ _ _ h _ => by exact h, fun _ _ _ h k => h.g0 k, fun _ _ _ h _ => by exact h, fun _ _ _ h _ => by exact h, fun _ _ _ h _ => by exact h, fun _ _ _ h _ => by exact h, fun _ _ _ h _ => by exact h, fun _ _ _ h k => h.g0 k, fun _ _ _ h _ => by exact h, fun _ _ _ h k => h.g0 k, fun _ _ _ h _ => by exact h, fun _ _ _ h _ => by exact h, fun _ _ _ h _ => by exact h, fun _ _ _ h _ => by exact h, fun _ _ _ h _ => by exact h, fun _ _ _ h _ => by exact h, fun _ _ _ h _ => by exact h, fun _ _ _ h _ => by exact h, fun _ _ _ h _ => by exact h, fun _ _ _ h _ => by exact h, fun _ _ _ h _ => by exact h, fun _ _ _ h _ => by exact h, fun _ _ _ h _ => by exact h, fun _ _ _ h _ => by exact h, fun _ _ _ h _ => by exact h, fun _ _ _ h _ => by exact h, fun _ _ _ h _ => by exact h, fun _ _ _ h _ => by exact h, fun _ _ _ h _ => by exact h, fun _ _ _ h _ => by exact h, fun _ _ _ h _ => by exact h, fun _ _ _ h _ => by exact h, fun _ _ _ h _ => by exact h, fun _ _ _ h _ => by exact h, fun _ _ _ h _ => by exact h, fun _ _ _ h _ => by exact h, fun _ _ _ h _ => by exact h, fun _ _ _ h _ => by exact h, fun _ _ _ h _ => by exact h, trivial⟩ ?_
            intro w51 k51 hs12
            have hb31 := below_g0 hb30 k51
            refine ⟨⟨?_, ?_, ?_, ?_, ?_, ?_, ?_, ?_, ?_, ?_, ?_, ?_, ?_, ?_, ?_, ?_, ?_, ?_, ?_, ?_, ?_, ?_, ?_, ?_, ?_, ?_, ?_, ?_, ?_, ?_, ?_, ?_, ?_, ?_, ?_, ?_, ?_, ?_, ?_, ?_, ?_, ?_, ?_, ?_, ?_, ?_, ?_, ?_, ?_, ?_, ?_, trivial⟩, ?_⟩
            · intro w52 k52
              have hb32 := below_g0 hb31 k52
              refine op1 (s_loadW row52 rfl (((((((((((((((hB1.g0 k2).g0 k3).g0 k4).g0 k5).g0 k6).g0 k7).g0 k8).g0 k9).gne k10 (by omega)).g0 k17).g0 k34).gne k35 (by omega)).gne k36 (by omega)).g0 k51).g0 k52).range rfl ?_)
              exact ⟨rfl, grown_none_refl _⟩
            · intro w53 k53
              have hb33 := below_g0 hb31 k53
              refine op1 (s_loadW row52 rfl ((((((((((((((hB2.g0 k3).g0 k4).g0 k5).g0 k6).g0 k7).g0 k8).g0 k9).gne k10 (by omega)).g0 k17).g0 k34).gne k35 (by omega)).gne k36 (by omega)).g0 k51).g0 k53).range rfl ?_)
              exact ⟨rfl, grown_none_refl _⟩
            · intro w54 k54
              have hb34 := below_g0 hb31 k54
              rintro _ rfl
              rintro _ rfl
              refine op1 (s_call fn58 rfl (badd_any (big_of rfl ((ha.at0 hb34)).none) (big_of rfl ((hb.at0 hb34)).none) (Bd.le hbn (show 60 ≤ 90000 by decide)) (Bd.le hbm (show 60 ≤ 90000 by decide))) ?_)
              rintro _ w55 ⟨hq29, v26, rfl, hS22⟩
              have k55 := grown_of_below hq29 none
              have hz21 := hq29.size
              have hb35 := below_g0 hb34 k55
              have hz22 := hb35.size
              exact ⟨⟨_, rfl, hS22⟩, k55⟩
            · intro w56 k56
              have hb36 := below_g0 hb31 k56
              refine op1 (s_loadW row52 rfl ((((((((((((((hB2.g0 k3).g0 k4).g0 k5).g0 k6).g0 k7).g0 k8).g0 k9).gne k10 (by omega)).g0 k17).g0 k34).gne k35 (by omega)).gne k36 (by omega)).g0 k51).g0 k56).range rfl ?_)
              exact ⟨rfl, grown_none_refl _⟩
            · intro w57 k57
              have hb37 := below_g0 hb31 k57
              rintro _ ⟨v27, rfl, hS23⟩
              rintro _ rfl
              refine op1 (s_call fn60 rfl (bsub_any (big_of rfl (hS23).none) (big_of rfl ((hb.at0 hb37)).none) (Bd.le (bd_add hbn hbm (show 60 < 61 by decide) (show 60 < 61 by decide)) (show 61 ≤ 90000 by decide)) (Bd.le hbm (show 60 ≤ 90000 by decide))) ?_)
              rintro _ w58 ⟨hq30, v28, rfl, hS24⟩
              have k58 := grown_of_below hq30 none
              have hz23 := hq30.size
              have hb38 := below_g0 hb37 k58
              have hz24 := hb38.size
              exact ⟨⟨_, rfl, hS24⟩, k58⟩
            · intro w59 k59
              have hb39 := below_g0 hb31 k59
              refine op1 (s_loadW row52 rfl (((((((((((((((hB1.g0 k2).g0 k3).g0 k4).g0 k5).g0 k6).g0 k7).g0 k8).g0 k9).gne k10 (by omega)).g0 k17).g0 k34).gne k35 (by omega)).gne k36 (by omega)).g0 k51).g0 k59).range rfl ?_)
              exact ⟨rfl, grown_none_refl _⟩
            · intro w60 k60
              have hb40 := below_g0 hb31 k60
              rintro _ ⟨v29, rfl, hS25⟩
              rintro _ rfl
              refine op1 (s_call fn50 rfl (rbsame_any (hS25).none ((ha.at0 hb40)).none) ?_)
              rintro v30 w61 ⟨hq31, hv5⟩
              rw [show decide (decide (((n + m) - m) < 0) = decide (n < 0) ∧ ml ((n + m) - m) = ml n) = true from (decide_eq_decide.2 same_big).trans (decide_eq_true (by omega))] at hv5
              subst hv5
              have k61 := grown_of_below hq31 none
              have hz25 := hq31.size
              have hb41 := below_g0 hb40 k61
              have hz26 := hb41.size
              exact ⟨rfl, k61⟩
            · intro w62 k62
              have hb42 := below_g0 hb31 k62
              rintro _ rfl
              refine op1 (s_move rfl ?_)
              exact ⟨rfl, grown_none_refl _⟩
            · intro w63 k63
              have hb43 := below_g0 hb31 k63
              rintro _ rfl
              refine op1g (s_loadW row52 rfl (((((((((((((((hB1.g0 k2).g0 k3).g0 k4).g0 k5).g0 k6).g0 k7).g0 k8).g0 k9).gne k10 (by omega)).g0 k17).g0 k34).gne k35 (by omega)).gne k36 (by omega)).g0 k51).g0 k63).range rfl ?_)
              exact ⟨rfl, grown_none_refl _⟩
            · intro w64 k64
              have hb44 := below_g0 hb31 k64
              rintro _ rfl
              refine op1g (s_loadW row52 rfl ((((((((((((((hB2.g0 k3).g0 k4).g0 k5).g0 k6).g0 k7).g0 k8).g0 k9).gne k10 (by omega)).g0 k17).g0 k34).gne k35 (by omega)).gne k36 (by omega)).g0 k51).g0 k64).range rfl ?_)
              exact ⟨rfl, grown_none_refl _⟩
            · intro w65 k65
              have hb45 := below_g0 hb31 k65
              rintro _ rfl
              rintro _ rfl
              rintro _ rfl
              refine op1g (s_call fn58 rfl (badd_any (big_of rfl ((ha.at0 hb45)).none) (big_of rfl ((hb.at0 hb45)).none) (Bd.le hbn (show 60 ≤ 90000 by decide)) (Bd.le hbm (show 60 ≤ 90000 by decide))) ?_)
              rintro _ w66 ⟨hq32, v31, rfl, hS26⟩
              have k66 := grown_of_below hq32 none
              have hz27 := hq32.size
              have hb46 := below_g0 hb45 k66
              have hz28 := hb46.size
              exact ⟨⟨_, rfl, hS26⟩, k66⟩
            · intro w67 k67
              have hb47 := below_g0 hb31 k67
              rintro _ rfl
              refine op1g (s_loadW row52 rfl ((((((((((((((hB2.g0 k3).g0 k4).g0 k5).g0 k6).g0 k7).g0 k8).g0 k9).gne k10 (by omega)).g0 k17).g0 k34).gne k35 (by omega)).gne k36 (by omega)).g0 k51).g0 k67).range rfl ?_)
              exact ⟨rfl, grown_none_refl _⟩
            · intro w68 k68
              have hb48 := below_g0 hb31 k68
              rintro _ rfl
              refine op1g (s_loadW row52 rfl (((((((((((((((hB1.g0 k2).g0 k3).g0 k4).g0 k5).g0 k6).g0 k7).g0 k8).g0 k9).gne k10 (by omega)).g0 k17).g0 k34).gne k35 (by omega)).gne k36 (by omega)).g0 k51).g0 k68).range rfl ?_)
              exact ⟨rfl, grown_none_refl _⟩
            · intro w69 k69
              have hb49 := below_g0 hb31 k69
              rintro _ rfl
              rintro _ rfl
              rintro _ rfl
              refine op1g (s_call fn58 rfl (badd_any (big_of rfl ((hb.at0 hb49)).none) (big_of rfl ((ha.at0 hb49)).none) (Bd.le hbm (show 60 ≤ 90000 by decide)) (Bd.le hbn (show 60 ≤ 90000 by decide))) ?_)
              rintro _ w70 ⟨hq33, v32, rfl, hS27⟩
              have k70 := grown_of_below hq33 none
              have hz29 := hq33.size
              have hb50 := below_g0 hb49 k70
              have hz30 := hb50.size
              exact ⟨⟨_, rfl, hS27⟩, k70⟩
            · intro w71 k71
              have hb51 := below_g0 hb31 k71
              rintro _ rfl
              rintro _ ⟨v33, rfl, hS28⟩
              rintro _ ⟨v34, rfl, hS29⟩
              refine op1g (s_call fn50 rfl (rbsame_any (hS28).none (hS29).none) ?_)
              rintro v35 w72 ⟨hq34, hv6⟩
              rw [show decide (decide ((n + m) < 0) = decide ((m + n) < 0) ∧ ml (n + m) = ml (m + n)) = true from (decide_eq_decide.2 same_big).trans (decide_eq_true (by omega))] at hv6
              subst hv6
              have k72 := grown_of_below hq34 none
              have hz31 := hq34.size
              have hb52 := below_g0 hb51 k72
              have hz32 := hb52.size
              exact ⟨rfl, k72⟩
            · intro w73 k73
              have hb53 := below_g0 hb31 k73
              rintro _ rfl
              rintro _ rfl
              refine op1 (s_pick rfl rfl ?_)
              exact ⟨rfl, grown_none_refl _⟩
            · intro w74 k74
              have hb54 := below_g0 hb31 k74
              rintro _ rfl
              refine op1 (s_move rfl ?_)
              exact ⟨rfl, grown_none_refl _⟩
            · intro w75 k75
              have hb55 := below_g0 hb31 k75
              rintro _ rfl
              refine op1g (s_loadW row52 rfl (((((((((((((((hB1.g0 k2).g0 k3).g0 k4).g0 k5).g0 k6).g0 k7).g0 k8).g0 k9).gne k10 (by omega)).g0 k17).g0 k34).gne k35 (by omega)).gne k36 (by omega)).g0 k51).g0 k75).range rfl ?_)
              exact ⟨rfl, grown_none_refl _⟩
            · intro w76 k76
              have hb56 := below_g0 hb31 k76
              rintro _ rfl
              refine op1g (s_move rfl ?_)
              exact ⟨rfl, grown_none_refl _⟩
            · intro w77 k77
              have hb57 := below_g0 hb31 k77
              rintro _ rfl
              rintro _ rfl
              rintro _ rfl
              refine op1g (s_call fn66 rfl (bshl_any (big_of rfl ((ha.at0 hb57)).none) (Bd.le hbn (show 60 ≤ 90000 by decide))) ?_)
              rintro _ w78 ⟨hq35, v36, rfl, hS30⟩
              have k78 := grown_of_below hq35 none
              have hz33 := hq35.size
              have hb58 := below_g0 hb57 k78
              have hz34 := hb58.size
              exact ⟨⟨_, rfl, hS30⟩, k78⟩
            · intro w79 k79
              have hb59 := below_g0 hb31 k79
              rintro _ rfl
              refine op1g (s_move rfl ?_)
              exact ⟨rfl, grown_none_refl _⟩
            · intro w80 k80
              have hb60 := below_g0 hb31 k80
              rintro _ rfl
              rintro _ ⟨v37, rfl, hS31⟩
              rintro _ rfl
              refine op1g (s_call fn68 rfl (bshr_any (big_of rfl (hS31).none) (Bd.le (bd_shl hbn (show 60 + 313 ≤ 373 by decide)) (show 373 ≤ 90000 by decide))) ?_)
              rintro _ w81 ⟨hq36, v38, rfl, hS32⟩
              have k81 := grown_of_below hq36 none
              have hz35 := hq36.size
              have hb61 := below_g0 hb60 k81
              have hz36 := hb61.size
              exact ⟨⟨_, rfl, hS32⟩, k81⟩
            · intro w82 k82
              have hb62 := below_g0 hb31 k82
              rintro _ rfl
              refine op1g (s_loadW row52 rfl (((((((((((((((hB1.g0 k2).g0 k3).g0 k4).g0 k5).g0 k6).g0 k7).g0 k8).g0 k9).gne k10 (by omega)).g0 k17).g0 k34).gne k35 (by omega)).gne k36 (by omega)).g0 k51).g0 k82).range rfl ?_)
              exact ⟨rfl, grown_none_refl _⟩
            · intro w83 k83
              have hb63 := below_g0 hb31 k83
              rintro _ rfl
              rintro _ ⟨v39, rfl, hS33⟩
              rintro _ rfl
              refine op1g (s_call fn50 rfl (rbsame_any (hS33).none ((ha.at0 hb63)).none) ?_)
              rintro v40 w84 ⟨hq37, hv7⟩
              rw [show decide (decide ((shrN (shlN n k) k) < 0) = decide (n < 0) ∧ ml (shrN (shlN n k) k) = ml n) = true from (decide_eq_decide.2 same_big).trans (decide_eq_true (back_shN hk.1 hk.2))] at hv7
              subst hv7
              have k84 := grown_of_below hq37 none
              have hz37 := hq37.size
              have hb64 := below_g0 hb63 k84
              have hz38 := hb64.size
              exact ⟨rfl, k84⟩
            · intro w85 k85
              have hb65 := below_g0 hb31 k85
              rintro _ rfl
              rintro _ rfl
              refine op1 (s_pick rfl rfl ?_)
              exact ⟨rfl, grown_none_refl _⟩
            · intro w86 k86
              have hb66 := below_g0 hb31 k86
              rintro _ rfl
              refine op1 (s_move rfl ?_)
              exact ⟨rfl, grown_none_refl _⟩
            · intro w87 k87
              have hb67 := below_g0 hb31 k87
              rintro _ rfl
              refine op1g (s_loadW row52 rfl (((hB11.gne k36 (by omega)).g0 k51).g0 k87).range rfl ?_)
              exact ⟨rfl, grown_none_refl _⟩
            · intro w88 k88
              have hb68 := below_g0 hb31 k88
              rintro _ rfl
              refine op1g (s_loadW row52 rfl (((((((((((((((hB1.g0 k2).g0 k3).g0 k4).g0 k5).g0 k6).g0 k7).g0 k8).g0 k9).gne k10 (by omega)).g0 k17).g0 k34).gne k35 (by omega)).gne k36 (by omega)).g0 k51).g0 k88).range rfl ?_)
              exact ⟨rfl, grown_none_refl _⟩
            · intro w89 k89
              have hb69 := below_g0 hb31 k89
              rintro _ rfl
              rintro _ rfl
              rintro _ rfl
              refine op1g (s_call fn64 rfl (bcmp_any (big_of rfl (((((hS12.gB k35 hB9 rfl).gB k36 (hB10.gne k35 (by omega)) rfl).g0 k51).g0 k89)).none) (big_of rfl ((ha.at0 hb69)).none)) ?_)
              rintro _ w90 ⟨hq38, rfl⟩
              have k90 := grown_of_below hq38 none
              have hz39 := hq38.size
              have hb70 := below_g0 hb69 k90
              have hz40 := hb70.size
              exact ⟨rfl, k90⟩
            · intro w91 k91
              have hb71 := below_g0 hb31 k91
              rintro _ rfl
              rintro _ rfl
              refine op1g (s_le rfl rfl ?_)
              exact ⟨rfl, grown_none_refl _⟩
            · intro w92 k92
              have hb72 := below_g0 hb31 k92
              rintro _ rfl
              rintro _ rfl
              refine op1 (s_pick rfl rfl ?_)
              exact ⟨rfl, grown_none_refl _⟩
            · intro w93 k93
              have hb73 := below_g0 hb31 k93
              rintro _ rfl
              refine op1 (s_move rfl ?_)
              exact ⟨(by rw [decide_eq_true h5]), grown_none_refl _⟩
            · intro w94 k94
              have hb74 := below_g0 hb31 k94
              rintro _ rfl
              refine op1g (s_loadW row52 rfl (((((((((((((((hB1.g0 k2).g0 k3).g0 k4).g0 k5).g0 k6).g0 k7).g0 k8).g0 k9).gne k10 (by omega)).g0 k17).g0 k34).gne k35 (by omega)).gne k36 (by omega)).g0 k51).g0 k94).range rfl ?_)
              exact ⟨rfl, grown_none_refl _⟩
            · intro w95 k95
              have hb75 := below_g0 hb31 k95
              rintro _ rfl
              refine op1g (s_loadW row52 rfl ((hB12.g0 k51).g0 k95).range rfl ?_)
              exact ⟨rfl, grown_none_refl _⟩
            · intro w96 k96
              have hb76 := below_g0 hb31 k96
              rintro _ rfl
              rintro _ rfl
              rintro _ rfl
              refine op1g (s_call fn64 rfl (bcmp_any (big_of rfl ((ha.at0 hb76)).none) (big_of rfl (((((hS15.gB k35 hB9 rfl).gB k36 (hB10.gne k35 (by omega)) rfl).g0 k51).g0 k96)).none)) ?_)
              rintro _ w97 ⟨hq39, rfl⟩
              have k97 := grown_of_below hq39 none
              have hz41 := hq39.size
              have hb77 := below_g0 hb76 k97
              have hz42 := hb77.size
              exact ⟨rfl, k97⟩
            · intro w98 k98
              have hb78 := below_g0 hb31 k98
              rintro _ rfl
              rintro _ rfl
              refine op1g (s_lt rfl rfl ?_)
              exact ⟨rfl, grown_none_refl _⟩
            · intro w99 k99
              have hb79 := below_g0 hb31 k99
              rintro _ rfl
              rintro _ rfl
              refine op1 (s_pick rfl rfl ?_)
              exact ⟨rfl, grown_none_refl _⟩
            · intro w100 k100
              have hb80 := below_g0 hb31 k100
              rintro _ rfl
              refine op1 (s_move rfl ?_)
              exact ⟨(by rw [decide_eq_true h6]), grown_none_refl _⟩
            · intro w101 k101
              have hb81 := below_g0 hb31 k101
              rintro _ rfl
              refine op1g (s_loadW row52 rfl (((((((((((((((hB1.g0 k2).g0 k3).g0 k4).g0 k5).g0 k6).g0 k7).g0 k8).g0 k9).gne k10 (by omega)).g0 k17).g0 k34).gne k35 (by omega)).gne k36 (by omega)).g0 k51).g0 k101).range rfl ?_)
              exact ⟨rfl, grown_none_refl _⟩
            · intro w102 k102
              have hb82 := below_g0 hb31 k102
              rintro _ rfl
              refine op1g (s_loadW row52 rfl ((((((((((((((hB2.g0 k3).g0 k4).g0 k5).g0 k6).g0 k7).g0 k8).g0 k9).gne k10 (by omega)).g0 k17).g0 k34).gne k35 (by omega)).gne k36 (by omega)).g0 k51).g0 k102).range rfl ?_)
              exact ⟨rfl, grown_none_refl _⟩
            · intro w103 k103
              have hb83 := below_g0 hb31 k103
              rintro _ rfl
              rintro _ rfl
              rintro _ rfl
              refine op1g (s_call fn64 rfl (bcmp_any (big_of rfl ((ha.at0 hb83)).none) (big_of rfl ((hb.at0 hb83)).none)) ?_)
              rintro _ w104 ⟨hq40, rfl⟩
              have k104 := grown_of_below hq40 none
              have hz43 := hq40.size
              have hb84 := below_g0 hb83 k104
              have hz44 := hb84.size
              exact ⟨rfl, k104⟩
            · intro w105 k105
              have hb85 := below_g0 hb31 k105
              rintro _ rfl
              refine op1g (s_loadW row52 rfl ((((((((((((((hB2.g0 k3).g0 k4).g0 k5).g0 k6).g0 k7).g0 k8).g0 k9).gne k10 (by omega)).g0 k17).g0 k34).gne k35 (by omega)).gne k36 (by omega)).g0 k51).g0 k105).range rfl ?_)
              exact ⟨rfl, grown_none_refl _⟩
            · intro w106 k106
              have hb86 := below_g0 hb31 k106
              rintro _ rfl
              refine op1g (s_loadW row52 rfl (((((((((((((((hB1.g0 k2).g0 k3).g0 k4).g0 k5).g0 k6).g0 k7).g0 k8).g0 k9).gne k10 (by omega)).g0 k17).g0 k34).gne k35 (by omega)).gne k36 (by omega)).g0 k51).g0 k106).range rfl ?_)
              exact ⟨rfl, grown_none_refl _⟩
            · intro w107 k107
              have hb87 := below_g0 hb31 k107
              rintro _ rfl
              rintro _ rfl
              rintro _ rfl
              refine op1g (s_call fn64 rfl (bcmp_any (big_of rfl ((hb.at0 hb87)).none) (big_of rfl ((ha.at0 hb87)).none)) ?_)
              rintro _ w108 ⟨hq41, rfl⟩
              have k108 := grown_of_below hq41 none
              have hz45 := hq41.size
              have hb88 := below_g0 hb87 k108
              have hz46 := hb88.size
              exact ⟨rfl, k108⟩
            · intro w109 k109
              have hb89 := below_g0 hb31 k109
              rintro _ rfl
              rintro _ rfl
              refine op1g (s_neg rfl (by first | omega | exact cmpI_bd _ _) ?_)
              exact ⟨rfl, grown_none_refl _⟩
            · intro w110 k110
              have hb90 := below_g0 hb31 k110
              rintro _ rfl
              rintro _ rfl
              rintro _ rfl
              refine op1g (s_eq rfl rfl ?_)
              exact ⟨rfl, grown_none_refl _⟩
            · intro w111 k111
              have hb91 := below_g0 hb31 k111
              rintro _ rfl
              rintro _ rfl
              refine op1 (s_pick rfl rfl ?_)
              exact ⟨rfl, grown_none_refl _⟩
            · intro w112 k112
              have hb92 := below_g0 hb31 k112
              rintro _ rfl
              refine op1 (s_move rfl ?_)
              exact ⟨(by rw [decide_eq_true h7]), grown_none_refl _⟩
            · intro w113 k113
              have hb93 := below_g0 hb31 k113
              rintro _ rfl
              refine op1g (s_loadW row52 rfl ((((((hB4.g0 k17).g0 k34).gne k35 (by omega)).gne k36 (by omega)).g0 k51).g0 k113).range rfl ?_)
              exact ⟨rfl, grown_none_refl _⟩
            · intro w114 k114
              have hb94 := below_g0 hb31 k114
              rintro _ rfl
              rintro _ rfl
              refine op1g (s_call fn53 rfl (rbright_any (((((((((hS1.g0 k9).gB k10 hB3 rfl).g0 k17).g0 k34).gB k35 hB9 rfl).gB k36 (hB10.gne k35 (by omega)) rfl).g0 k51).g0 k114)).none) ?_)
              rintro v41 w115 ⟨hq42, hv8⟩
              rw [bigR_ml] at hv8
              subst hv8
              have k115 := grown_of_below hq42 none
              have hz47 := hq42.size
              have hb95 := below_g0 hb94 k115
              have hz48 := hb95.size
              exact ⟨rfl, k115⟩
            · intro w116 k116
              have hb96 := below_g0 hb31 k116
              rintro _ rfl
              rintro _ rfl
              refine op1 (s_pick rfl rfl ?_)
              exact ⟨rfl, grown_none_refl _⟩
            · intro w117 k117
              have hb97 := below_g0 hb31 k117
              rintro _ rfl
              rintro _ rfl
              rintro _ ⟨v42, rfl, hS34⟩
              rintro _ rfl
              rintro _ ⟨v43, rfl, hS35⟩
              rintro _ rfl
              rintro _ rfl
              rintro _ rfl
              rintro _ rfl
              rintro _ rfl
              rintro _ ⟨v44, rfl, hS36⟩
              rintro _ rfl
              rintro _ rfl
              rintro _ ⟨v45, rfl, hS37⟩
              rintro _ rfl
              rintro _ rfl
              rintro _ rfl
              rintro _ rfl
              rintro _ rfl
              rintro _ ⟨v46, rfl, hS38⟩
              rintro _ rfl
              rintro _ ⟨v47, rfl, hS39⟩
              rintro _ rfl
              rintro _ rfl
              rintro _ rfl
              rintro _ rfl
              rintro _ rfl
              rintro _ rfl
              rintro _ rfl
              rintro _ rfl
              rintro _ rfl
              rintro _ rfl
              rintro _ rfl
              rintro _ rfl
              rintro _ rfl
              rintro _ rfl
              rintro _ rfl
              rintro _ rfl
              rintro _ rfl
              rintro _ rfl
              rintro _ rfl
              rintro _ rfl
              rintro _ rfl
              rintro _ rfl
              rintro _ rfl
              rintro _ rfl
              rintro _ rfl
              rintro _ rfl
              rintro _ rfl
              rintro _ rfl
              rintro _ rfl
              refine st (s_assign rfl ?_)
              refine r_end ?_
              refine n_then ?_
              refine w_ret1 rfl rfl ?_
              exact ⟨_, rfl, hb97, by first | rfl | exact congrArg Value.bool (decide_eq_true rfl) | (simp; done)⟩
end Go.Proofs.Ytencmmhfiepojaa
