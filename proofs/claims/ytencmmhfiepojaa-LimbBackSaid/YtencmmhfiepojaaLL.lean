/- Part of the proof that is named in YtencmmhfiepojaaLRowBack: a library for walks, or a function's walk. -/
import Derived.Test.YtencmmhfiepojaaLK
set_option maxRecDepth 20000
set_option linter.unusedSimpArgs false
set_option linter.unusedVariables false
namespace Go.Proofs.Ytencmmhfiepojaa
open Go.RowKit Go.Gw
theorem alive_any {w : World}  :
    Calls Try.prog 22 [].toArray w (Pure w fun v _ => v = .bool true) := by
  have hb0 := Below.refl w.heap.size w
  refine enter Try.func22 rfl rfl ?_
  refine w_seq ?_
  refine w_region ?_
  refine st (s_assign rfl ?_)
  refine r_end ?_
  refine n_then ?_
  refine w_seq ?_
  refine w_region ?_
  refine st (s_bslice (ps := [(0, .const (.int .u32 1)), (1, .const (.int .u32 1))]) (ccs := [#[.int .u32 1], #[.int .u32 1]]) (e := 44) (cells := [.int .u32 1, .int .u32 1]) rfl rfl (by kernel_rfl) (by decide) nz44 ?_)
  intro g1 w1 hg1 hB1 k1 hs1
  have hb1 := below_g0 hb0 k1
  have hz1 := hb1.size
  have hS1 := lit_u32s (F := fun _ => False) ([1, 1] : List Int) hB1 (fun h => h) rfl (by first | decide | simp)
  refine st (s_assign rfl ?_)
  refine r_end ?_
  refine n_then ?_
  refine w_seq ?_
  refine w_region ?_
  refine st (s_move rfl ?_)
  refine st (s_bslice (ps := [(0, .const (.int .u32 2))]) (ccs := [#[.int .u32 2]]) (e := 44) (cells := [.int .u32 2]) rfl rfl (by kernel_rfl) (by decide) nz44 ?_)
  intro g2 w2 hg2 hB2 k2 hs2
  have hb2 := below_g0 hb1 k2
  have hz2 := hb2.size
  have hS2 := lit_u32s (F := fun _ => False) ([2] : List Int) hB2 (fun h => h) rfl (by first | decide | simp)
  refine st (s_call fn23 rfl (sub_any ((hS1.g0 k2)).none (hS2).none (by first | omega | (simp; done) | (simp; omega)) (by first | omega | (simp; done) | (simp; omega))) ?_)
  rintro r1 w3 ⟨hq1, v1, hv1, hS3⟩
  rw [show (decide (nv ([2] : List Int) ≤ nv ([1, 1] : List Int))) = true from (by decide +kernel)] at hv1
  subst hv1
  rw [show (tl (nv ([1, 1] : List Int) - nv ([2] : List Int))) = ([4294967295] : List Int) from (tl_is ([4294967295] : List Int) (by decide) (by decide) (by decide))] at hS3
  have k3 := grown_of_below hq1 none
  have hz3 := hq1.size
  have hb3 := below_g0 hb2 k3
  have hz4 := hb3.size
  refine st (s_move rfl ?_)
  refine st (s_extract rfl rfl ?_)
  refine st (s_extract rfl rfl ?_)
  refine st (s_assign rfl ?_)
  refine st (s_assign rfl ?_)
  refine r_end ?_
  refine n_then ?_
  refine w_seq ?_
  refine w_region ?_
  refine st (s_bslice (ps := [(0, .const (.int .u32 2))]) (ccs := [#[.int .u32 2]]) (e := 44) (cells := [.int .u32 2]) rfl rfl (by kernel_rfl) (by decide) nz44 ?_)
  intro g3 w4 hg3 hB3 k4 hs3
  have hb4 := below_g0 hb3 k4
  have hz5 := hb4.size
  have hS4 := lit_u32s (F := fun _ => False) ([2] : List Int) hB3 (fun h => h) rfl (by first | decide | simp)
  refine st (s_move rfl ?_)
  refine st (s_call fn23 rfl (sub_any (hS4).none ((((hS1.g0 k2).g0 k3).g0 k4)).none (by first | omega | (simp; done) | (simp; omega)) (by first | omega | (simp; done) | (simp; omega))) ?_)
  rintro r2 w5 ⟨hq2, v2, hv2, hS5⟩
  rw [show (decide (nv ([1, 1] : List Int) ≤ nv ([2] : List Int))) = false from (by decide +kernel)] at hv2
  subst hv2
  have k5 := grown_of_below hq2 none
  have hz6 := hq2.size
  have hb5 := below_g0 hb4 k5
  have hz7 := hb5.size
  refine st (s_move rfl ?_)
  refine st (s_extract rfl rfl ?_)
  refine st (s_extract rfl rfl ?_)
  refine st (s_assign rfl ?_)
  refine st (s_assign rfl ?_)
  refine r_end ?_
  refine n_then ?_
  refine w_seq ?_
  refine w_region ?_
  refine st (s_move rfl ?_)
  refine st (s_call fn42 rfl (div_any (((((hS1.g0 k2).g0 k3).g0 k4).g0 k5)).none (by first | omega | decide) (by first | omega | (simp; done) | (simp; omega))) ?_)
  rintro r3 w6 ⟨hq3, v3, hv3, hS6⟩
  rw [show (if (10 : Int) = 0 then 0 else nv ([1, 1] : List Int) % (10 : Int)) = 7 from (by decide +kernel)] at hv3
  subst hv3
  rw [show (tl (nv ([1, 1] : List Int) / (10 : Int))) = ([429496729] : List Int) from (tl_is ([429496729] : List Int) (by decide) (by decide) (by decide))] at hS6
  have k6 := grown_of_below hq3 none
  have hz8 := hq3.size
  have hb6 := below_g0 hb5 k6
  have hz9 := hb6.size
  refine st (s_move rfl ?_)
  refine st (s_extract rfl rfl ?_)
  refine st (s_extract rfl rfl ?_)
  refine st (s_assign rfl ?_)
  refine st (s_assign rfl ?_)
  refine r_end ?_
  refine n_then ?_
  refine w_seq ?_
  refine w_region ?_
  refine st (s_move rfl ?_)
  refine st (s_call fn34 rfl (len_any ((((((hS1.g0 k2).g0 k3).g0 k4).g0 k5).g0 k6)).none (by first | omega | (simp; done) | (simp; omega))) ?_)
  rintro v4 w7 ⟨hq4, hv4⟩
  rw [show (blen (nv ([1, 1] : List Int))) = 33 from (by decide +kernel)] at hv4
  subst hv4
  have k7 := grown_of_below hq4 none
  have hz10 := hq4.size
  have hb7 := below_g0 hb6 k7
  have hz11 := hb7.size
  refine st (s_eq rfl rfl ?_)
  rw [show decide ((33 : Int) = 33) = true from rfl]
  refine st (s_move rfl ?_)
  refine stg (s_move rfl ?_)
  refine stg (s_call fn38 rfl (right_any (((((((hS1.g0 k2).g0 k3).g0 k4).g0 k5).g0 k6).g0 k7)).none) ?_)
  rintro v5 w8 ⟨hq5, hv5⟩
  rw [show rightB ([1, 1] : List Int) = true from (by decide +kernel)] at hv5
  subst hv5
  have k8 := grown_of_below hq5 none
  have hz12 := hq5.size
  have hb8 := below_g0 hb7 k8
  have hz13 := hb8.size
  refine st (s_pick rfl rfl ?_)
  refine st (s_move rfl ?_)
  refine stg (s_bslice (ps := [(0, .const (.int .u32 1)), (1, .const (.int .u32 0))]) (ccs := [#[.int .u32 1], #[.int .u32 0]]) (e := 44) (cells := [.int .u32 1, .int .u32 0]) rfl rfl (by kernel_rfl) (by decide) nz44 ?_)
  intro g4 w9 hg4 hB4 k9 hs4
  have hb9 := below_g0 hb8 k9
  have hz14 := hb9.size
  have hS7 := lit_u32s (F := fun _ => False) ([1, 0] : List Int) hB4 (fun h => h) rfl (by first | decide | simp)
  refine stg (s_call fn38 rfl (right_any (hS7).none) ?_)
  rintro v6 w10 ⟨hq6, hv6⟩
  rw [show rightB ([1, 0] : List Int) = false from (by decide +kernel)] at hv6
  subst hv6
  have k10 := grown_of_below hq6 none
  have hz15 := hq6.size
  have hb10 := below_g0 hb9 k10
  have hz16 := hb10.size
  refine stg (s_not rfl ?_)
  refine st (s_pick rfl rfl ?_)
  refine st (s_move rfl ?_)
  refine stg (s_bslice (ps := [(0, .const (.int .u32 1)), (1, .const (.int .u32 0))]) (ccs := [#[.int .u32 1], #[.int .u32 0]]) (e := 44) (cells := [.int .u32 1, .int .u32 0]) rfl rfl (by kernel_rfl) (by decide) nz44 ?_)
  intro g5 w11 hg5 hB5 k11 hs5
  have hb11 := below_g0 hb10 k11
  have hz17 := hb11.size
  have hS8 := lit_u32s (F := fun _ => False) ([1, 0] : List Int) hB5 (fun h => h) rfl (by first | decide | simp)
  refine stg (s_call fn40 rfl (norm_any (hS8).none (by first | omega | (simp; done) | (simp; omega))) ?_)
  rintro v7 w12 ⟨hq7, hS9⟩
  rw [show (tl (nv ([1, 0] : List Int))) = ([1] : List Int) from (tl_is ([1] : List Int) (by decide) (by decide) (by decide))] at hS9
  have k12 := grown_of_below hq7 none
  have hz18 := hq7.size
  have hb12 := below_g0 hb11 k12
  have hz19 := hb12.size
  refine stg (s_bslice (ps := [(0, .const (.int .u32 1))]) (ccs := [#[.int .u32 1]]) (e := 44) (cells := [.int .u32 1]) rfl rfl (by kernel_rfl) (by decide) nz44 ?_)
  intro g6 w13 hg6 hB6 k13 hs6
  have hb13 := below_g0 hb12 k13
  have hz20 := hb13.size
  have hS10 := lit_u32s (F := fun _ => False) ([1] : List Int) hB6 (fun h => h) rfl (by first | decide | simp)
  refine stg (s_call fn25 rfl (same_any ((hS9.g0 k13)).none (hS10).none) ?_)
  rintro v8 w14 ⟨hq8, hv7⟩
  rw [show (decide (([1] : List Int) = ([1] : List Int))) = true from (by decide +kernel)] at hv7
  subst hv7
  have k14 := grown_of_below hq8 none
  have hz21 := hq8.size
  have hb14 := below_g0 hb13 k14
  have hz22 := hb14.size
  refine st (s_pick rfl rfl ?_)
  refine st (s_move rfl ?_)
  refine stg (s_move rfl ?_)
  refine stg (s_bslice (ps := [(0, .const (.int .u32 4294967295))]) (ccs := [#[.int .u32 4294967295]]) (e := 44) (cells := [.int .u32 4294967295]) rfl rfl (by kernel_rfl) (by decide) nz44 ?_)
  intro g7 w15 hg7 hB7 k15 hs7
  have hb15 := below_g0 hb14 k15
  have hz23 := hb15.size
  have hS11 := lit_u32s (F := fun _ => False) ([4294967295] : List Int) hB7 (fun h => h) rfl (by first | decide | simp)
  refine stg (s_call fn26 rfl (add_any (((((((((((((((hS1.g0 k2).g0 k3).g0 k4).g0 k5).g0 k6).g0 k7).g0 k8).g0 k9).g0 k10).g0 k11).g0 k12).g0 k13).g0 k14).g0 k15)).none (hS11).none (by first | omega | (simp; done) | (simp; omega)) (by first | omega | (simp; done) | (simp; omega))) ?_)
  rintro v9 w16 ⟨hq9, hS12⟩
  rw [show (tl (nv ([1, 1] : List Int) + nv ([4294967295] : List Int))) = ([0, 2] : List Int) from (tl_is ([0, 2] : List Int) (by decide) (by decide) (by decide))] at hS12
  have k16 := grown_of_below hq9 none
  have hz24 := hq9.size
  have hb16 := below_g0 hb15 k16
  have hz25 := hb16.size
  refine stg (s_bslice (ps := [(0, .const (.int .u32 0)), (1, .const (.int .u32 2))]) (ccs := [#[.int .u32 0], #[.int .u32 2]]) (e := 44) (cells := [.int .u32 0, .int .u32 2]) rfl rfl (by kernel_rfl) (by decide) nz44 ?_)
  intro g8 w17 hg8 hB8 k17 hs8
  have hb17 := below_g0 hb16 k17
  have hz26 := hb17.size
  have hS13 := lit_u32s (F := fun _ => False) ([0, 2] : List Int) hB8 (fun h => h) rfl (by first | decide | simp)
  refine stg (s_call fn25 rfl (same_any ((hS12.g0 k17)).none (hS13).none) ?_)
  rintro v10 w18 ⟨hq10, hv8⟩
  rw [show (decide (([0, 2] : List Int) = ([0, 2] : List Int))) = true from (by decide +kernel)] at hv8
  subst hv8
  have k18 := grown_of_below hq10 none
  have hz27 := hq10.size
  have hb18 := below_g0 hb17 k18
  have hz28 := hb18.size
  refine st (s_pick rfl rfl ?_)
  refine st (s_move rfl ?_)
  refine stg (s_move rfl ?_)
  refine stg (s_bslice (ps := [(0, .const (.int .u32 4294967295))]) (ccs := [#[.int .u32 4294967295]]) (e := 44) (cells := [.int .u32 4294967295]) rfl rfl (by kernel_rfl) (by decide) nz44 ?_)
  intro g9 w19 hg9 hB9 k19 hs9
  have hb19 := below_g0 hb18 k19
  have hz29 := hb19.size
  have hS14 := lit_u32s (F := fun _ => False) ([4294967295] : List Int) hB9 (fun h => h) rfl (by first | decide | simp)
  refine stg (s_call fn25 rfl (same_any (((((((((((((((((hS3.g0 k4).g0 k5).g0 k6).g0 k7).g0 k8).g0 k9).g0 k10).g0 k11).g0 k12).g0 k13).g0 k14).g0 k15).g0 k16).g0 k17).g0 k18).g0 k19)).none (hS14).none) ?_)
  rintro v11 w20 ⟨hq11, hv9⟩
  rw [show (decide (([4294967295] : List Int) = ([4294967295] : List Int))) = true from (by decide +kernel)] at hv9
  subst hv9
  have k20 := grown_of_below hq11 none
  have hz30 := hq11.size
  have hb20 := below_g0 hb19 k20
  have hz31 := hb20.size
  refine st (s_pick rfl rfl ?_)
  refine st (s_move rfl ?_)
  refine stg (s_move rfl ?_)
  refine st (s_pick rfl rfl ?_)
  refine st (s_move rfl ?_)
  refine stg (s_move rfl ?_)
  refine stg (s_not rfl ?_)
  refine st (s_pick rfl rfl ?_)
  refine st (s_move rfl ?_)
  refine stg (s_bslice (ps := [(0, .const (.int .u32 3))]) (ccs := [#[.int .u32 3]]) (e := 44) (cells := [.int .u32 3]) rfl rfl (by kernel_rfl) (by decide) nz44 ?_)
  intro g10 w21 hg10 hB10 k21 hs10
  have hb21 := below_g0 hb20 k21
  have hz32 := hb21.size
  have hS15 := lit_u32s (F := fun _ => False) ([3] : List Int) hB10 (fun h => h) rfl (by first | decide | simp)
  refine stg (s_call fn30 rfl (shl_any (hS15).none (by first | omega | (simp; done) | (simp; omega))) ?_)
  rintro v12 w22 ⟨hq12, hS16⟩
  rw [show (shlL ([3] : List Int) (31 : Int)) = ([2147483648, 1] : List Int) from ((if_pos (by decide)).trans (tl_is ([2147483648, 1] : List Int) (by decide) (by decide) (by decide)))] at hS16
  have k22 := grown_of_below hq12 none
  have hz33 := hq12.size
  have hb22 := below_g0 hb21 k22
  have hz34 := hb22.size
  refine stg (s_bslice (ps := [(0, .const (.int .u32 2147483648)), (1, .const (.int .u32 1))]) (ccs := [#[.int .u32 2147483648], #[.int .u32 1]]) (e := 44) (cells := [.int .u32 2147483648, .int .u32 1]) rfl rfl (by kernel_rfl) (by decide) nz44 ?_)
  intro g11 w23 hg11 hB11 k23 hs11
  have hb23 := below_g0 hb22 k23
  have hz35 := hb23.size
  have hS17 := lit_u32s (F := fun _ => False) ([2147483648, 1] : List Int) hB11 (fun h => h) rfl (by first | decide | simp)
  refine stg (s_call fn25 rfl (same_any ((hS16.g0 k23)).none (hS17).none) ?_)
  rintro v13 w24 ⟨hq13, hv10⟩
  rw [show (decide (([2147483648, 1] : List Int) = ([2147483648, 1] : List Int))) = true from (by decide +kernel)] at hv10
  subst hv10
  have k24 := grown_of_below hq13 none
  have hz36 := hq13.size
  have hb24 := below_g0 hb23 k24
  have hz37 := hb24.size
  refine st (s_pick rfl rfl ?_)
  refine st (s_move rfl ?_)
  refine stg (s_move rfl ?_)
  refine stg (s_call fn32 rfl (shr_any ((((((((((((((((((((((((hS1.g0 k2).g0 k3).g0 k4).g0 k5).g0 k6).g0 k7).g0 k8).g0 k9).g0 k10).g0 k11).g0 k12).g0 k13).g0 k14).g0 k15).g0 k16).g0 k17).g0 k18).g0 k19).g0 k20).g0 k21).g0 k22).g0 k23).g0 k24)).none (by first | omega | (simp; done) | (simp; omega))) ?_)
  rintro v14 w25 ⟨hq14, hS18⟩
  rw [show (shrL ([1, 1] : List Int) (32 : Int)) = ([1] : List Int) from ((if_pos (by decide)).trans (tl_is ([1] : List Int) (by decide) (by decide) (by decide)))] at hS18
  have k25 := grown_of_below hq14 none
  have hz38 := hq14.size
  have hb25 := below_g0 hb24 k25
  have hz39 := hb25.size
  refine stg (s_bslice (ps := [(0, .const (.int .u32 1))]) (ccs := [#[.int .u32 1]]) (e := 44) (cells := [.int .u32 1]) rfl rfl (by kernel_rfl) (by decide) nz44 ?_)
  intro g12 w26 hg12 hB12 k26 hs12
  have hb26 := below_g0 hb25 k26
  have hz40 := hb26.size
  have hS19 := lit_u32s (F := fun _ => False) ([1] : List Int) hB12 (fun h => h) rfl (by first | decide | simp)
  refine stg (s_call fn25 rfl (same_any ((hS18.g0 k26)).none (hS19).none) ?_)
  rintro v15 w27 ⟨hq15, hv11⟩
  rw [show (decide (([1] : List Int) = ([1] : List Int))) = true from (by decide +kernel)] at hv11
  subst hv11
  have k27 := grown_of_below hq15 none
  have hz41 := hq15.size
  have hb27 := below_g0 hb26 k27
  have hz42 := hb27.size
  refine st (s_pick rfl rfl ?_)
  refine st (s_move rfl ?_)
  refine stg (s_move rfl ?_)
  refine stg (s_bslice (ps := [(0, .const (.int .u32 429496729))]) (ccs := [#[.int .u32 429496729]]) (e := 44) (cells := [.int .u32 429496729]) rfl rfl (by kernel_rfl) (by decide) nz44 ?_)
  intro g13 w28 hg13 hB13 k28 hs13
  have hb28 := below_g0 hb27 k28
  have hz43 := hb28.size
  have hS20 := lit_u32s (F := fun _ => False) ([429496729] : List Int) hB13 (fun h => h) rfl (by first | decide | simp)
  refine stg (s_call fn25 rfl (same_any (((((((((((((((((((((((hS6.g0 k7).g0 k8).g0 k9).g0 k10).g0 k11).g0 k12).g0 k13).g0 k14).g0 k15).g0 k16).g0 k17).g0 k18).g0 k19).g0 k20).g0 k21).g0 k22).g0 k23).g0 k24).g0 k25).g0 k26).g0 k27).g0 k28)).none (hS20).none) ?_)
  rintro v16 w29 ⟨hq16, hv12⟩
  rw [show (decide (([429496729] : List Int) = ([429496729] : List Int))) = true from (by decide +kernel)] at hv12
  subst hv12
  have k29 := grown_of_below hq16 none
  have hz44 := hq16.size
  have hb29 := below_g0 hb28 k29
  have hz45 := hb29.size
  refine st (s_pick rfl rfl ?_)
  refine st (s_move rfl ?_)
  refine stg (s_move rfl ?_)
  refine stg (s_eq rfl rfl ?_)
  rw [show decide ((7 : Int) = 7) = true from rfl]
  refine st (s_pick rfl rfl ?_)
  refine st (s_move rfl ?_)
  refine stg (s_move rfl ?_)
  refine stg (s_move rfl ?_)
  refine stg (s_call fn44 rfl (mul_any ((((((((((((((((((((((((hS6.g0 k7).g0 k8).g0 k9).g0 k10).g0 k11).g0 k12).g0 k13).g0 k14).g0 k15).g0 k16).g0 k17).g0 k18).g0 k19).g0 k20).g0 k21).g0 k22).g0 k23).g0 k24).g0 k25).g0 k26).g0 k27).g0 k28).g0 k29)).none (by first | omega | decide) (by first | omega | decide) (by first | omega | (simp; done) | (simp; omega))) ?_)
  rintro v17 w30 ⟨hq17, hS21⟩
  rw [show (tl (nv ([429496729] : List Int) * (10 : Int) + (7 : Int))) = ([1, 1] : List Int) from (tl_is ([1, 1] : List Int) (by decide) (by decide) (by decide))] at hS21
  have k30 := grown_of_below hq17 none
  have hz46 := hq17.size
  have hb30 := below_g0 hb29 k30
  have hz47 := hb30.size
  refine stg (s_move rfl ?_)
  refine stg (s_call fn25 rfl (same_any (hS21).none ((((((((((((((((((((((((((((((hS1.g0 k2).g0 k3).g0 k4).g0 k5).g0 k6).g0 k7).g0 k8).g0 k9).g0 k10).g0 k11).g0 k12).g0 k13).g0 k14).g0 k15).g0 k16).g0 k17).g0 k18).g0 k19).g0 k20).g0 k21).g0 k22).g0 k23).g0 k24).g0 k25).g0 k26).g0 k27).g0 k28).g0 k29).g0 k30)).none) ?_)
  rintro v18 w31 ⟨hq18, hv13⟩
  rw [show (decide (([1, 1] : List Int) = ([1, 1] : List Int))) = true from (by decide +kernel)] at hv13
  subst hv13
  have k31 := grown_of_below hq18 none
  have hz48 := hq18.size
  have hb31 := below_g0 hb30 k31
  have hz49 := hb31.size
  refine st (s_pick rfl rfl ?_)
  refine st (s_move rfl ?_)
  refine stg (s_move rfl ?_)
  refine stg (s_call fn36 rfl (bit_any (((((((((((((((((((((((((((((((hS1.g0 k2).g0 k3).g0 k4).g0 k5).g0 k6).g0 k7).g0 k8).g0 k9).g0 k10).g0 k11).g0 k12).g0 k13).g0 k14).g0 k15).g0 k16).g0 k17).g0 k18).g0 k19).g0 k20).g0 k21).g0 k22).g0 k23).g0 k24).g0 k25).g0 k26).g0 k27).g0 k28).g0 k29).g0 k30).g0 k31)).none (by omega)) ?_)
  rintro v19 w32 ⟨hq19, hv14⟩
  rw [show (bitB (nv ([1, 1] : List Int)) (32 : Int)) = true from (by decide +kernel)] at hv14
  subst hv14
  have k32 := grown_of_below hq19 none
  have hz50 := hq19.size
  have hb32 := below_g0 hb31 k32
  have hz51 := hb32.size
  refine st (s_pick rfl rfl ?_)
  refine st (s_move rfl ?_)
  refine stg (s_move rfl ?_)
  refine stg (s_call fn36 rfl (bit_any ((((((((((((((((((((((((((((((((hS1.g0 k2).g0 k3).g0 k4).g0 k5).g0 k6).g0 k7).g0 k8).g0 k9).g0 k10).g0 k11).g0 k12).g0 k13).g0 k14).g0 k15).g0 k16).g0 k17).g0 k18).g0 k19).g0 k20).g0 k21).g0 k22).g0 k23).g0 k24).g0 k25).g0 k26).g0 k27).g0 k28).g0 k29).g0 k30).g0 k31).g0 k32)).none (by omega)) ?_)
  rintro v20 w33 ⟨hq20, hv15⟩
  rw [show (bitB (nv ([1, 1] : List Int)) (31 : Int)) = false from (by decide +kernel)] at hv15
  subst hv15
  have k33 := grown_of_below hq20 none
  have hz52 := hq20.size
  have hb33 := below_g0 hb32 k33
  have hz53 := hb33.size
  refine stg (s_not rfl ?_)
  refine st (s_pick rfl rfl ?_)
  refine st (s_move rfl ?_)
  refine stg (s_move rfl ?_)
  refine stg (s_move rfl ?_)
  refine stg (s_call fn28 rfl (cmp_any (((((((((((((((((((((((((((((((((hS1.g0 k2).g0 k3).g0 k4).g0 k5).g0 k6).g0 k7).g0 k8).g0 k9).g0 k10).g0 k11).g0 k12).g0 k13).g0 k14).g0 k15).g0 k16).g0 k17).g0 k18).g0 k19).g0 k20).g0 k21).g0 k22).g0 k23).g0 k24).g0 k25).g0 k26).g0 k27).g0 k28).g0 k29).g0 k30).g0 k31).g0 k32).g0 k33)).none ((((((((((((((((((((((((((((hS6.g0 k7).g0 k8).g0 k9).g0 k10).g0 k11).g0 k12).g0 k13).g0 k14).g0 k15).g0 k16).g0 k17).g0 k18).g0 k19).g0 k20).g0 k21).g0 k22).g0 k23).g0 k24).g0 k25).g0 k26).g0 k27).g0 k28).g0 k29).g0 k30).g0 k31).g0 k32).g0 k33)).none) ?_)
  rintro v21 w34 ⟨hq21, hv16⟩
  rw [show (cmpI (nv ([1, 1] : List Int)) (nv ([429496729] : List Int))) = 1 from (by decide +kernel)] at hv16
  subst hv16
  have k34 := grown_of_below hq21 none
  have hz54 := hq21.size
  have hb34 := below_g0 hb33 k34
  have hz55 := hb34.size
  refine stg (s_eq rfl rfl ?_)
  rw [show decide ((1 : Int) = 1) = true from rfl]
  refine st (s_pick rfl rfl ?_)
  refine st (s_assign rfl ?_)
  refine r_end ?_
  refine n_then ?_
  refine w_ret1 rfl rfl ?_
  exact ⟨_, rfl, hb34, rfl⟩
end Go.Proofs.Ytencmmhfiepojaa
