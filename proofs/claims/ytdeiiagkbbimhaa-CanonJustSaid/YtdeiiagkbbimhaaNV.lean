/- Part of the proof that is named in YtdeiiagkbbimhaaNRowCanJust: a library for walks, or a function's walk. -/
import Derived.Test.YtdeiiagkbbimhaaNU
set_option maxRecDepth 20000
set_option linter.unusedSimpArgs false
set_option linter.unusedVariables false
namespace Go.Proofs.Ytdeiiagkbbimhaa
open Go.RowKit Go.Gw
theorem alive6_any {w : World} :
    Calls Try.prog 20 [].toArray w (Pure w fun v _ => v = .bool true) := by
  have hb0 := Below.refl w.heap.size w
  refine enter Try.func20 rfl rfl ?_
  refine w_seq ?_
  refine w_region ?_
  refine st (s_assign rfl ?_)
  refine r_end ?_
  refine n_then ?_
  refine w_seq ?_
  refine w_region ?_
  refine st (s_build (ps := [(0, .const (.int .i64 0)), (1, .const (.int .i64 0)), (2, .const (.int .i64 0)), (3, .const (.int .i64 1))]) (ccs := [#[.int .i64 0], #[.int .i64 0], #[.int .i64 0], #[.int .i64 1]]) (cells := [.int .i64 0, .int .i64 0, .int .i64 0, .int .i64 1]) rfl rfl (by kernel_rfl) ?_)
  refine st (s_build (ps := [(0, .const (.int .i64 1)), (1, .tmp 17)]) (ccs := [#[.int .i64 1], #[.int .i64 0, .int .i64 0, .int .i64 0, .int .i64 1]]) (cells := [.int .i64 1, .int .i64 0, .int .i64 0, .int .i64 0, .int .i64 1]) rfl rfl (by kernel_rfl) ?_)
  refine st (s_build (ps := [(0, .const (.int .i64 1))]) (ccs := [#[.int .i64 1]]) (cells := [.int .i64 1, .int .i64 0, .int .i64 0, .int .i64 0, .int .i64 0]) rfl rfl (by kernel_rfl) ?_)
  refine st (s_build (ps := [(0, .const (.int .i64 2)), (1, .const (.int .i64 0)), (2, .const (.int .i64 0)), (3, .const (.int .i64 1))]) (ccs := [#[.int .i64 2], #[.int .i64 0], #[.int .i64 0], #[.int .i64 1]]) (cells := [.int .i64 2, .int .i64 0, .int .i64 0, .int .i64 1]) rfl rfl (by kernel_rfl) ?_)
  refine st (s_build (ps := [(0, .const (.int .i64 2)), (1, .tmp 20)]) (ccs := [#[.int .i64 2], #[.int .i64 2, .int .i64 0, .int .i64 0, .int .i64 1]]) (cells := [.int .i64 2, .int .i64 2, .int .i64 0, .int .i64 0, .int .i64 1]) rfl rfl (by kernel_rfl) ?_)
  refine st (s_build (ps := [(0, .const (.int .i64 1)), (1, .const (.int .i64 2)), (2, .const (.int .i64 0)), (3, .const (.int .i64 0))]) (ccs := [#[.int .i64 1], #[.int .i64 2], #[.int .i64 0], #[.int .i64 0]]) (cells := [.int .i64 1, .int .i64 2, .int .i64 0, .int .i64 0]) rfl rfl (by kernel_rfl) ?_)
  refine st (s_build (ps := [(0, .const (.int .i64 2)), (1, .tmp 22)]) (ccs := [#[.int .i64 2], #[.int .i64 1, .int .i64 2, .int .i64 0, .int .i64 0]]) (cells := [.int .i64 2, .int .i64 1, .int .i64 2, .int .i64 0, .int .i64 0]) rfl rfl (by kernel_rfl) ?_)
  refine st (s_bslice (ps := [(0, .tmp 18), (1, .tmp 19), (2, .tmp 21), (3, .tmp 23)]) (ccs := [#[.int .i64 1, .int .i64 0, .int .i64 0, .int .i64 0, .int .i64 1], #[.int .i64 1, .int .i64 0, .int .i64 0, .int .i64 0, .int .i64 0], #[.int .i64 2, .int .i64 2, .int .i64 0, .int .i64 0, .int .i64 1], #[.int .i64 2, .int .i64 1, .int .i64 2, .int .i64 0, .int .i64 0]]) (e := 35) (cells := [.int .i64 1, .int .i64 0, .int .i64 0, .int .i64 0, .int .i64 1, .int .i64 1, .int .i64 0, .int .i64 0, .int .i64 0, .int .i64 0, .int .i64 2, .int .i64 2, .int .i64 0, .int .i64 0, .int .i64 1, .int .i64 2, .int .i64 1, .int .i64 2, .int .i64 0, .int .i64 0]) rfl rfl (by kernel_rfl) (by decide) nz35 ?_)
  intro g1 w1 hg1 hB1 k1 hs1
  have hb1 := below_g0 hb0 k1
  have hz1 := hb1.size
  have hS1 := lit_nodes (F := fun _ => False) ([⟨1, 0, 0, 0, 1⟩, ⟨1, 0, 0, 0, 0⟩, ⟨2, 2, 0, 0, 1⟩, ⟨2, 1, 2, 0, 0⟩] : List Nd) hB1 (fun h => h) rfl (by first | decide | simp)
  have hS2 := hS1.at0 (Below.refl _ _)
  refine st (s_assign rfl ?_)
  refine r_end ?_
  refine n_then ?_
  refine w_seq ?_
  refine w_region ?_
  refine st (s_build (ps := [(0, .const (.int .i64 0)), (1, .const (.int .i64 0)), (2, .const (.int .i64 0)), (3, .const (.int .i64 1))]) (ccs := [#[.int .i64 0], #[.int .i64 0], #[.int .i64 0], #[.int .i64 1]]) (cells := [.int .i64 0, .int .i64 0, .int .i64 0, .int .i64 1]) rfl rfl (by kernel_rfl) ?_)
  refine st (s_build (ps := [(0, .const (.int .i64 1)), (1, .tmp 25)]) (ccs := [#[.int .i64 1], #[.int .i64 0, .int .i64 0, .int .i64 0, .int .i64 1]]) (cells := [.int .i64 1, .int .i64 0, .int .i64 0, .int .i64 0, .int .i64 1]) rfl rfl (by kernel_rfl) ?_)
  refine st (s_bslice (ps := [(0, .tmp 26)]) (ccs := [#[.int .i64 1, .int .i64 0, .int .i64 0, .int .i64 0, .int .i64 1]]) (e := 35) (cells := [.int .i64 1, .int .i64 0, .int .i64 0, .int .i64 0, .int .i64 1]) rfl rfl (by kernel_rfl) (by decide) nz35 ?_)
  intro g2 w2 hg2 hB2 k2 hs2
  have hb2 := below_g0 hb1 k2
  have hz2 := hb2.size
  have hS3 := lit_nodes (F := fun _ => False) ([⟨1, 0, 0, 0, 1⟩] : List Nd) hB2 (fun h => h) rfl (by first | decide | simp)
  have hS4 := hS3.at0 (Below.refl _ _)
  refine st (s_build (ps := [(0, .tmp 27)]) (ccs := [#[.slice (some ⟨g2, 0, none⟩) 1 1]]) (cells := [.slice (some ⟨g2, 0, none⟩) 1 1]) rfl (by simp only [List.map_cons, List.map_nil, hS4.cells1] <;> rfl) (by kernel_rfl) ?_)
  refine st (s_alloc zero27 ?_)
  intro g3 w3 hg3 hB3 k3 hs3
  have hb3 := below_g0 hb2 k3
  refine st0 (s_storeN row27 rfl rfl hB3 (by simp only [List.all_cons, List.all_nil, hS4.one, Bool.and_true, Bool.and_self] <;> rfl) rfl rfl ?_)
  intro w4 hB4 k4 hs4
  have hb4 := below_g hb3 k4 (by omega)
  clear hB3
  refine r_end ?_
  refine n_then ?_
  refine w_seq ?_
  refine w_region ?_
  refine st (s_move rfl ?_)
  refine st (s_call fn21 rfl (of_any (n := 4) (((hS2.g0 k2).g0 k3).g k4 (.inr (by omega))) (by first | omega | decide)) ?_)
  rintro v_ w5 ⟨hq1, v1, hv1, hS5, hlq1⟩
  rw [show ofL ([⟨1, 0, 0, 0, 1⟩, ⟨1, 0, 0, 0, 0⟩, ⟨2, 2, 0, 0, 1⟩, ⟨2, 1, 2, 0, 0⟩] : List Nd) 4 = (([⟨1, 1, 0, 0, 0⟩] : List Nd), 0) from by kernel_rfl] at hv1 hS5
  dsimp only at hv1 hS5
  subst hv1
  have k5 := grown_of_below hq1 none
  have hz3 := hq1.size
  have hS6 := hS5.at0 (Below.refl _ _)
  have hb5 := below_g0 hb4 k5
  have hz4 := hb5.size
  refine st (s_move rfl ?_)
  refine st (s_extract rfl rfl ?_)
  refine st (s_extract rfl rfl ?_)
  refine st (s_alloc zero27 ?_)
  intro g4 w6 hg4 hB5 k6 hs5
  have hb6 := below_g0 hb5 k6
  refine st0 (s_storeN row27 rfl rfl hB5 (by simp only [List.all_cons, List.all_nil, hS6.one, Bool.and_true, Bool.and_self] <;> rfl) rfl rfl ?_)
  intro w7 hB6 k7 hs6
  have hb7 := below_g hb6 k7 (by omega)
  clear hB5
  refine st (s_assign rfl ?_)
  refine r_end ?_
  refine n_then ?_
  refine w_seq ?_
  refine w_region ?_
  refine st (s_move rfl ?_)
  refine st (s_call fn21 rfl (of_any (n := 3) ((((((hS2.g0 k2).g0 k3).g k4 (.inr (by omega))).g0 k5).g0 k6).g k7 (.inr (by omega))) (by first | omega | decide)) ?_)
  rintro v_ w8 ⟨hq2, v2, hv2, hS7, hlq2⟩
  rw [show ofL ([⟨1, 0, 0, 0, 1⟩, ⟨1, 0, 0, 0, 0⟩, ⟨2, 2, 0, 0, 1⟩, ⟨2, 1, 2, 0, 0⟩] : List Nd) 3 = (([⟨1, 0, 0, 0, 1⟩, ⟨2, 0, 0, 0, 1⟩] : List Nd), 0) from by kernel_rfl] at hv2 hS7
  dsimp only at hv2 hS7
  subst hv2
  have k8 := grown_of_below hq2 none
  have hz5 := hq2.size
  have hS8 := hS7.at0 (Below.refl _ _)
  have hb8 := below_g0 hb7 k8
  have hz6 := hb8.size
  refine st (s_move rfl ?_)
  refine st (s_extract rfl rfl ?_)
  refine st (s_extract rfl rfl ?_)
  refine st (s_alloc zero27 ?_)
  intro g5 w9 hg5 hB7 k9 hs7
  have hb9 := below_g0 hb8 k9
  refine st0 (s_storeN row27 rfl rfl hB7 (by simp only [List.all_cons, List.all_nil, hS8.one, Bool.and_true, Bool.and_self] <;> rfl) rfl rfl ?_)
  intro w10 hB8 k10 hs8
  have hb10 := below_g hb9 k10 (by omega)
  clear hB7
  refine st (s_assign rfl ?_)
  refine r_end ?_
  refine n_then ?_
  refine w_seq ?_
  refine w_region ?_
  refine st (s_move rfl ?_)
  refine st (s_call fn21 rfl (of_any (n := 5) (((((((((hS2.g0 k2).g0 k3).g k4 (.inr (by omega))).g0 k5).g0 k6).g k7 (.inr (by omega))).g0 k8).g0 k9).g k10 (.inr (by omega))) (by first | omega | decide)) ?_)
  rintro v_ w11 ⟨hq3, v3, hv3, hS9, hlq3⟩
  rw [show ofL ([⟨1, 0, 0, 0, 1⟩, ⟨1, 0, 0, 0, 0⟩, ⟨2, 2, 0, 0, 1⟩, ⟨2, 1, 2, 0, 0⟩] : List Nd) 5 = (([] : List Nd), 1) from by kernel_rfl] at hv3 hS9
  dsimp only at hv3 hS9
  subst hv3
  have k11 := grown_of_below hq3 none
  have hz7 := hq3.size
  have hS10 := hS9.at0 (Below.refl _ _)
  have hb11 := below_g0 hb10 k11
  have hz8 := hb11.size
  refine st (s_move rfl ?_)
  refine st (s_extract rfl rfl ?_)
  refine st (s_extract rfl rfl ?_)
  refine st (s_alloc zero27 ?_)
  intro g6 w12 hg6 hB9 k12 hs9
  have hb12 := below_g0 hb11 k12
  refine st0 (s_storeN row27 rfl rfl hB9 (by simp only [List.all_cons, List.all_nil, hS10.one, Bool.and_true, Bool.and_self] <;> rfl) rfl rfl ?_)
  intro w13 hB10 k13 hs10
  have hb13 := below_g hb12 k13 (by omega)
  clear hB9
  refine st (s_assign rfl ?_)
  refine r_end ?_
  refine n_then ?_
  refine w_seq ?_
  refine w_region ?_
  refine st (s_move rfl ?_)
  refine st (s_call fn21 rfl (of_any (n := 2) ((((((((((((hS2.g0 k2).g0 k3).g k4 (.inr (by omega))).g0 k5).g0 k6).g k7 (.inr (by omega))).g0 k8).g0 k9).g k10 (.inr (by omega))).g0 k11).g0 k12).g k13 (.inr (by omega))) (by first | omega | decide)) ?_)
  rintro v_ w14 ⟨hq4, v4, hv4, hS11, hlq4⟩
  rw [show ofL ([⟨1, 0, 0, 0, 1⟩, ⟨1, 0, 0, 0, 0⟩, ⟨2, 2, 0, 0, 1⟩, ⟨2, 1, 2, 0, 0⟩] : List Nd) 2 = (([] : List Nd), 0) from by kernel_rfl] at hv4 hS11
  dsimp only at hv4 hS11
  subst hv4
  have k14 := grown_of_below hq4 none
  have hz9 := hq4.size
  have hS12 := hS11.at0 (Below.refl _ _)
  have hb14 := below_g0 hb13 k14
  have hz10 := hb14.size
  refine st (s_move rfl ?_)
  refine st (s_extract rfl rfl ?_)
  refine st (s_extract rfl rfl ?_)
  refine st (s_alloc zero27 ?_)
  intro g7 w15 hg7 hB11 k15 hs11
  have hb15 := below_g0 hb14 k15
  refine st0 (s_storeN row27 rfl rfl hB11 (by simp only [List.all_cons, List.all_nil, hS12.one, Bool.and_true, Bool.and_self] <;> rfl) rfl rfl ?_)
  intro w16 hB12 k16 hs12
  have hb16 := below_g hb15 k16 (by omega)
  clear hB11
  refine st (s_assign rfl ?_)
  refine r_end ?_
  refine n_then ?_
  refine w_seq ?_
  refine w_region ?_
  refine st (s_loadW row27 rfl ((((((((((((hB4.g0 k5).g0 k6).gne k7 (by omega)).g0 k8).g0 k9).gne k10 (by omega)).g0 k11).g0 k12).gne k13 (by omega)).g0 k14).g0 k15).gne k16 (by omega)).range rfl ?_)
  refine st (s_call fn32 rfl (grow_any (level := 3) ((((((((((((((hS4.g0 k3).g k4 (.inr (by omega))).g0 k5).g0 k6).g k7 (.inr (by omega))).g0 k8).g0 k9).g k10 (.inr (by omega))).g0 k11).g0 k12).g k13 (.inr (by omega))).g0 k14).g0 k15).g k16 (.inr (by omega))) (by decide) (by decide) (by decide) (by decide)) ?_)
  rintro v_ w17 ⟨hq5, v5, hv5, hS13⟩
  rw [show growF (3 - (lastN' ([⟨1, 0, 0, 0, 1⟩] : List Nd)).lv).toNat ([⟨1, 0, 0, 0, 1⟩] : List Nd) = ([⟨1, 0, 0, 0, 1⟩, ⟨1, 1, 0, 0, 0⟩, ⟨2, 0, 0, 0, 2⟩, ⟨2, 2, 0, 0, 0⟩, ⟨3, 0, 0, 0, 4⟩] : List Nd) from by kernel_rfl] at hv5 hS13
  rw [show ((([⟨1, 0, 0, 0, 1⟩, ⟨1, 1, 0, 0, 0⟩, ⟨2, 0, 0, 0, 2⟩, ⟨2, 2, 0, 0, 0⟩, ⟨3, 0, 0, 0, 4⟩] : List Nd).length : Nat) : Int) = 5 from rfl] at hv5
  subst hv5
  have k17 := grown_of_below hq5 none
  have hz11 := hq5.size
  have hS14 := hS13.at0 (Below.refl _ _)
  have hb17 := below_g0 hb16 k17
  have hz12 := hb17.size
  refine st (s_move rfl ?_)
  refine st (s_extract rfl rfl ?_)
  refine st (s_extract rfl rfl ?_)
  refine st (s_assign rfl ?_)
  refine st (s_assign rfl ?_)
  refine r_end ?_
  refine n_then ?_
  refine w_seq ?_
  refine w_region ?_
  refine st (s_move rfl ?_)
  refine st (s_move rfl ?_)
  refine st (s_call fn21 rfl (of_any (n := 5) hS14 (by first | omega | decide)) ?_)
  rintro v_ w18 ⟨hq6, v6, hv6, hS15, hlq5⟩
  rw [show ofL ([⟨1, 0, 0, 0, 1⟩, ⟨1, 1, 0, 0, 0⟩, ⟨2, 0, 0, 0, 2⟩, ⟨2, 2, 0, 0, 0⟩, ⟨3, 0, 0, 0, 4⟩] : List Nd) 5 = (([⟨1, 0, 0, 0, 1⟩] : List Nd), 0) from by kernel_rfl] at hv6 hS15
  dsimp only at hv6 hS15
  subst hv6
  have k18 := grown_of_below hq6 none
  have hz13 := hq6.size
  have hS16 := hS15.at0 (Below.refl _ _)
  have hb18 := below_g0 hb17 k18
  have hz14 := hb18.size
  refine st (s_move rfl ?_)
  refine st (s_extract rfl rfl ?_)
  refine st (s_extract rfl rfl ?_)
  refine st (s_alloc zero27 ?_)
  intro g8 w19 hg8 hB13 k19 hs13
  have hb19 := below_g0 hb18 k19
  refine st0 (s_storeN row27 rfl rfl hB13 (by simp only [List.all_cons, List.all_nil, hS16.one, Bool.and_true, Bool.and_self] <;> rfl) rfl rfl ?_)
  intro w20 hB14 k20 hs14
  have hb20 := below_g hb19 k20 (by omega)
  clear hB13
  refine st (s_assign rfl ?_)
  refine r_end ?_
  refine n_then ?_
  refine w_seq ?_
  refine w_region ?_
  refine st (s_move rfl ?_)
  refine st (s_move rfl ?_)
  refine st (s_call fn33 rfl (shrink_any (n0 := 5) (((hS14.g0 k18).g0 k19).g k20 (.inr (by omega))) (by kernel_rfl) (by decide) (by decide) (by decide)) ?_)
  rintro _ w21 ⟨hq7, L1, n1, v7, rfl, hS17, hLok1, hn1, hn2, hT1, hH1, hLl1⟩
  have k21 := grown_of_below hq7 none
  have hO1 := Own.rebase hS17 hb20.size
  have hb21 := below_g0 hb20 k21
  have hz15 := hb21.size
  rw [show shr0 (tr ([⟨1, 0, 0, 0, 1⟩, ⟨1, 1, 0, 0, 0⟩, ⟨2, 0, 0, 0, 2⟩, ⟨2, 2, 0, 0, 0⟩, ⟨3, 0, 0, 0, 4⟩] : List Nd) 5) = Tr.leaf 0 0 0 1 from by kernel_rfl] at hT1
  obtain ⟨hk1, hk2⟩ := tr_is_leaf hLok1 hn1 hn2 hT1
  have hl9 : L1.length ≤ 2000 := Nat.le_trans hLl1 (by decide)
  refine st (s_move rfl ?_)
  refine st (s_extract rfl rfl ?_)
  refine st (s_extract rfl rfl ?_)
  refine st (s_assign rfl ?_)
  refine st (s_assign rfl ?_)
  refine r_end ?_
  refine n_then ?_
  refine w_seq ?_
  refine w_seq ?_
  refine w_region ?_
  refine st (s_move rfl ?_)
  refine st (s_ne rfl rfl ?_)
  rw [show decide ((0 : Int) ≠ 0) = false from rfl]
  refine st (s_move rfl ?_)
  refine stg (s_move rfl ?_)
  refine stg (s_ne rfl rfl ?_)
  rw [show decide ((0 : Int) ≠ 0) = false from rfl]
  refine st (s_pick rfl rfl ?_)
  refine st (s_move rfl ?_)
  refine stg (s_move rfl ?_)
  refine stg (s_ne rfl rfl ?_)
  rw [show decide ((1 : Int) ≠ 1) = false from rfl]
  refine st (s_pick rfl rfl ?_)
  refine st (s_move rfl ?_)
  refine stg (s_move rfl ?_)
  refine stg (s_ne rfl rfl ?_)
  rw [show decide ((0 : Int) ≠ 0) = false from rfl]
  refine st (s_pick rfl rfl ?_)
  refine st (s_move rfl ?_)
  refine stg (s_move rfl ?_)
  refine stg (s_ne rfl rfl ?_)
  rw [show decide ((0 : Int) ≠ 0) = false from rfl]
  refine st (s_pick rfl rfl ?_)
  refine st (s_move rfl ?_)
  refine stg (s_move rfl ?_)
  refine stg (s_lt rfl rfl ?_)
  rw [show decide ((5 : Int) < 1) = false from rfl]
  refine st (s_pick rfl rfl ?_)
  refine st (s_move rfl ?_)
  refine stg (s_move rfl ?_)
  refine stg (s_move rfl ?_)
  refine stg (s_len sl22 rfl ((((hS14.g0 k18).g0 k19).g k20 (.inr (by omega))).g0 k21) ?_)
  rw [show ((([⟨1, 0, 0, 0, 1⟩, ⟨1, 1, 0, 0, 0⟩, ⟨2, 0, 0, 0, 2⟩, ⟨2, 2, 0, 0, 0⟩, ⟨3, 0, 0, 0, 4⟩] : List Nd).length : Nat) : Int) = 5 from rfl]
  refine stg (s_gt rfl rfl ?_)
  rw [show decide ((5 : Int) < 5) = false from rfl]
  refine st (s_pick rfl rfl ?_)
  refine st (s_move rfl ?_)
  refine stg (s_move rfl ?_)
  refine stg (s_lt rfl rfl ?_)
  refine st (s_pick rfl rfl ?_)
  refine st (s_move rfl ?_)
  refine r_caseP 98 rfl (fun h1 => ?_) (fun h1 => ?_)
  · refine s_pass rfl rfl ?_
    refine s_pass rfl rfl ?_
    refine s_pass rfl rfl ?_
    refine s_pass rfl rfl ?_
    refine st (s_pick rfl rfl ?_)
    refine r_end ?_
    refine n_then ?_
    refine w_condT rfl ?_
    refine w_seq ?_
    refine w_region ?_
    refine st (s_assign rfl ?_)
    refine r_end ?_
    refine n_then ?_
    refine w_ret1 rfl rfl ?_
    exfalso
    first | omega | exact absurd (by decide) h1 | exact absurd h1 (by decide)
  · refine stg (s_move rfl ?_)
    refine stg (s_move rfl ?_)
    refine stg (s_len sl22 rfl hO1.sl ?_)
    refine stg (s_gt rfl rfl ?_)
    refine st (s_pick rfl rfl ?_)
    refine r_end ?_
    refine n_then ?_
    refine w_condP rfl (fun h2 => ?_) (fun h2 => ?_)
    · refine w_seq ?_
      refine w_region ?_
      refine st (s_assign rfl ?_)
      refine r_end ?_
      refine n_then ?_
      refine w_ret1 rfl rfl ?_
      exfalso
      first | omega | exact absurd (by decide) h2 | exact absurd h2 (by decide)
    · refine w_skip' ?_
      refine n_then ?_
      refine w_seq ?_
      refine w_region ?_
      refine st (s_loadW row27 rfl ((((((((((((((hB6.g0 k8).g0 k9).gne k10 (by omega)).g0 k11).g0 k12).gne k13 (by omega)).g0 k14).g0 k15).gne k16 (by omega)).g0 k17).g0 k18).g0 k19).gne k20 (by omega)).g0 k21).range rfl ?_)
      refine st (s_build (ps := [(0, .const (.int .i64 1)), (1, .const (.int .i64 0)), (2, .const (.int .i64 0)), (3, .const (.int .i64 0))]) (ccs := [#[.int .i64 1], #[.int .i64 0], #[.int .i64 0], #[.int .i64 0]]) (cells := [.int .i64 1, .int .i64 0, .int .i64 0, .int .i64 0]) rfl rfl (by kernel_rfl) ?_)
      refine st (s_build (ps := [(0, .const (.int .i64 1)), (1, .tmp 105)]) (ccs := [#[.int .i64 1], #[.int .i64 1, .int .i64 0, .int .i64 0, .int .i64 0]]) (cells := [.int .i64 1, .int .i64 1, .int .i64 0, .int .i64 0, .int .i64 0]) rfl rfl (by kernel_rfl) ?_)
      refine st (s_bslice (ps := [(0, .tmp 106)]) (ccs := [#[.int .i64 1, .int .i64 1, .int .i64 0, .int .i64 0, .int .i64 0]]) (e := 35) (cells := [.int .i64 1, .int .i64 1, .int .i64 0, .int .i64 0, .int .i64 0]) rfl rfl (by kernel_rfl) (by decide) nz35 ?_)
      intro g9 w22 hg9 hB15 k22 hs15
      have hb22 := below_g0 hb21 k22
      have hz16 := hb22.size
      have hO2 := hO1.g0 k22
      have hS18 := lit_nodes (F := fun _ => False) ([⟨1, 1, 0, 0, 0⟩] : List Nd) hB15 (fun h => h) rfl (by first | decide | simp)
      have hS19 := hS18.at0 (Below.refl _ _)
      refine st (s_build (ps := [(0, .tmp 107)]) (ccs := [#[.slice (some ⟨g9, 0, none⟩) 1 1]]) (cells := [.slice (some ⟨g9, 0, none⟩) 1 1]) rfl (by simp only [List.map_cons, List.map_nil, hS19.cells1] <;> rfl) (by kernel_rfl) ?_)
      refine st (s_call fn23 rfl (rsame_any (((((((((((((((((hS6.g0 k6).g k7 (.inr (by omega))).g0 k8).g0 k9).g k10 (.inr (by omega))).g0 k11).g0 k12).g k13 (.inr (by omega))).g0 k14).g0 k15).g k16 (.inr (by omega))).g0 k17).g0 k18).g0 k19).g k20 (.inr (by omega))).g0 k21).g0 k22).none hS19.none) ?_)
      rintro v8 w23 ⟨hq8, hv7⟩
      rw [show Nd.eqv ([⟨1, 1, 0, 0, 0⟩] : List Nd) ([⟨1, 1, 0, 0, 0⟩] : List Nd) = true from rfl] at hv7
      subst hv7
      have k23 := grown_of_below hq8 none
      have hz17 := hq8.size
      have hb23 := below_g0 hb22 k23
      have hz18 := hb23.size
      have hO3 := hO2.g0 k23
      refine st (s_move rfl ?_)
      refine stg (s_faddr fld27_0 rfl ?_)
      refine stg (s_load one22 rfl (((((((((((((hB8.g0 k11).g0 k12).gne k13 (by omega)).g0 k14).g0 k15).gne k16 (by omega)).g0 k17).g0 k18).g0 k19).gne k20 (by omega)).g0 k21).g0 k22).g0 k23).range (j := 0) rfl ?_)
      refine stg (s_len sl22 rfl (((((((((((((((hS8.g0 k9).g k10 (.inr (by omega))).g0 k11).g0 k12).g k13 (.inr (by omega))).g0 k14).g0 k15).g k16 (.inr (by omega))).g0 k17).g0 k18).g0 k19).g k20 (.inr (by omega))).g0 k21).g0 k22).g0 k23) ?_)
      rw [show ((([⟨1, 0, 0, 0, 1⟩, ⟨2, 0, 0, 0, 1⟩] : List Nd).length : Nat) : Int) = 2 from rfl]
      refine stg (s_eq rfl rfl ?_)
      rw [show decide ((2 : Int) = 2) = true from rfl]
      refine st (s_pick rfl rfl ?_)
      refine st (s_move rfl ?_)
      refine stg (s_faddr fld27_0 rfl ?_)
      refine stg (s_load one22 rfl (((((((hB12.g0 k17).g0 k18).g0 k19).gne k20 (by omega)).g0 k21).g0 k22).g0 k23).range (j := 0) rfl ?_)
      refine stg (s_len sl22 rfl (((((((((hS12.g0 k15).g k16 (.inr (by omega))).g0 k17).g0 k18).g0 k19).g k20 (.inr (by omega))).g0 k21).g0 k22).g0 k23) ?_)
      rw [show ((([] : List Nd).length : Nat) : Int) = 0 from rfl]
      refine stg (s_eq rfl rfl ?_)
      rw [show decide ((0 : Int) = 0) = true from rfl]
      refine st (s_pick rfl rfl ?_)
      refine st (s_move rfl ?_)
      refine stg (s_move rfl ?_)
      refine stg (s_move rfl ?_)
      refine stg (s_sub rfl rfl (by omega) ?_)
      refine stg (s_idx sl22 rfl rfl ((((((hS14.g0 k18).g0 k19).g k20 (.inr (by omega))).g0 k21).g0 k22).g0 k23) (by first | omega | decide) (by first | omega | decide) ?_)
      rintro b1 o1 _ ⟨rfl, _⟩ hc1 hF1 hlt1
      refine stg (s_faddr fld35_0 rfl ?_)
      refine stg (s_load one3 rfl hc1 (j := 0) rfl ?_)
      refine stg (s_eq rfl rfl ?_)
      refine st (s_pick rfl rfl ?_)
      refine st (s_move rfl ?_)
      refine r_caseP 131 rfl (fun h3 => ?_) (fun h3 => ?_)
      · refine stg (s_loadW row27 rfl (((hB14.g0 k21).g0 k22).g0 k23).range rfl ?_)
        refine stg (s_loadW row27 rfl (((((((((((((((((((hB4.g0 k5).g0 k6).gne k7 (by omega)).g0 k8).g0 k9).gne k10 (by omega)).g0 k11).g0 k12).gne k13 (by omega)).g0 k14).g0 k15).gne k16 (by omega)).g0 k17).g0 k18).g0 k19).gne k20 (by omega)).g0 k21).g0 k22).g0 k23).range rfl ?_)
        refine stg (s_call fn23 rfl (rsame_any (((((hS16.g0 k19).g k20 (.inr (by omega))).g0 k21).g0 k22).g0 k23).none (((((((((((((((((((((hS4.g0 k3).g k4 (.inr (by omega))).g0 k5).g0 k6).g k7 (.inr (by omega))).g0 k8).g0 k9).g k10 (.inr (by omega))).g0 k11).g0 k12).g k13 (.inr (by omega))).g0 k14).g0 k15).g k16 (.inr (by omega))).g0 k17).g0 k18).g0 k19).g k20 (.inr (by omega))).g0 k21).g0 k22).g0 k23).none) ?_)
        rintro v9 w24 ⟨hq9, hv8⟩
        rw [show Nd.eqv ([⟨1, 0, 0, 0, 1⟩] : List Nd) ([⟨1, 0, 0, 0, 1⟩] : List Nd) = true from rfl] at hv8
        subst hv8
        have k24 := grown_of_below hq9 none
        have hz19 := hq9.size
        have hb24 := below_g0 hb23 k24
        have hz20 := hb24.size
        have hO4 := hO3.g0 k24
        refine st (s_pick rfl rfl ?_)
        refine st (s_move rfl ?_)
        refine stg (s_move rfl ?_)
        refine stg (s_move rfl ?_)
        refine stg (s_sub rfl rfl (by omega) ?_)
        refine stg (s_idx sl22 rfl rfl hO4.sl (by first | omega | decide) (by first | omega | decide) ?_)
        rintro b2 o2 _ ⟨rfl, _⟩ hc2 hF2 hlt2
        refine stg (s_faddr fld35_0 rfl ?_)
        refine stg (s_load one3 rfl hc2 (j := 0) rfl ?_)
        refine stg (s_eq rfl rfl ?_)
        refine st (s_pick rfl rfl ?_)
        refine st (s_assign rfl ?_)
        refine r_end ?_
        refine n_then ?_
        refine w_ret1 rfl rfl ?_
        exact ⟨_, rfl, hb24, by rw [decide_eq_true (by first | omega | decide)]⟩
      · refine s_pass rfl rfl ?_
        refine s_pass rfl rfl ?_
        refine s_pass rfl rfl ?_
        refine st (s_pick rfl rfl ?_)
        refine st (s_move rfl ?_)
        refine s_pass rfl rfl ?_
        refine s_pass rfl rfl ?_
        refine s_pass rfl rfl ?_
        refine s_pass rfl rfl ?_
        refine s_pass rfl rfl ?_
        refine s_pass rfl rfl ?_
        refine s_pass rfl rfl ?_
        refine st (s_pick rfl rfl ?_)
        refine st (s_assign rfl ?_)
        refine r_end ?_
        refine n_then ?_
        refine w_ret1 rfl rfl ?_
        exfalso
        first | omega | exact absurd (by decide) h3 | exact absurd h3 (by decide)
end Go.Proofs.Ytdeiiagkbbimhaa
