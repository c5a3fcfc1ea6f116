/- Part of the proof that is named in YtdeiiagkbbimhaaNRowOnes: a library for walks, or a function's walk. -/
import Derived.Test.YtdeiiagkbbimhaaNJ
set_option linter.unusedSimpArgs false
set_option linter.unusedVariables false
namespace Go.Proofs.Ytdeiiagkbbimhaa
open Go.RowKit Go.Gw
theorem alive_any {w : World} :
    Calls Try.prog 8 [].toArray w (Pure w fun v _ => v = .bool true) := by
  have hb0 := Below.refl w.heap.size w
  refine enter Try.func8 rfl rfl ?_
  refine w_seq ?_
  refine w_region ?_
  refine st (s_assign rfl ?_)
  refine r_end ?_
  refine n_then ?_
  refine w_seq ?_
  refine w_region ?_
  refine st (s_build (ps := [(0, .const (.int .i64 0)), (1, .const (.int .i64 0)), (2, .const (.int .i64 0)), (3, .const (.int .i64 1))]) (ccs := [#[.int .i64 0], #[.int .i64 0], #[.int .i64 0], #[.int .i64 1]]) (cells := [.int .i64 0, .int .i64 0, .int .i64 0, .int .i64 1]) rfl rfl (by kernel_rfl) ?_)
  refine st (s_build (ps := [(0, .const (.int .i64 1)), (1, .tmp 4)]) (ccs := [#[.int .i64 1], #[.int .i64 0, .int .i64 0, .int .i64 0, .int .i64 1]]) (cells := [.int .i64 1, .int .i64 0, .int .i64 0, .int .i64 0, .int .i64 1]) rfl rfl (by kernel_rfl) ?_)
  refine st (s_bslice (ps := [(0, .tmp 5)]) (ccs := [#[.int .i64 1, .int .i64 0, .int .i64 0, .int .i64 0, .int .i64 1]]) (e := 35) (cells := [.int .i64 1, .int .i64 0, .int .i64 0, .int .i64 0, .int .i64 1]) rfl rfl (by kernel_rfl) (by decide) nz35 ?_)
  intro g1 w1 hg1 hB1 k1 hs1
  have hb1 := below_g0 hb0 k1
  have hz1 := hb1.size
  have hS1 := lit_nodes (F := fun _ => False) ([⟨1, 0, 0, 0, 1⟩] : List Nd) hB1 (fun h => h) rfl (by decide)
  refine st (s_assign rfl ?_)
  refine r_end ?_
  refine n_then ?_
  refine w_seq ?_
  refine w_region ?_
  refine st (s_build (ps := [(0, .const (.int .i64 0)), (1, .const (.int .i64 0)), (2, .const (.int .i64 0)), (3, .const (.int .i64 1))]) (ccs := [#[.int .i64 0], #[.int .i64 0], #[.int .i64 0], #[.int .i64 1]]) (cells := [.int .i64 0, .int .i64 0, .int .i64 0, .int .i64 1]) rfl rfl (by kernel_rfl) ?_)
  refine st (s_build (ps := [(0, .const (.int .i64 1)), (1, .tmp 7)]) (ccs := [#[.int .i64 1], #[.int .i64 0, .int .i64 0, .int .i64 0, .int .i64 1]]) (cells := [.int .i64 1, .int .i64 0, .int .i64 0, .int .i64 0, .int .i64 1]) rfl rfl (by kernel_rfl) ?_)
  refine st (s_build (ps := [(0, .const (.int .i64 1)), (1, .const (.int .i64 0)), (2, .const (.int .i64 0)), (3, .const (.int .i64 0))]) (ccs := [#[.int .i64 1], #[.int .i64 0], #[.int .i64 0], #[.int .i64 0]]) (cells := [.int .i64 1, .int .i64 0, .int .i64 0, .int .i64 0]) rfl rfl (by kernel_rfl) ?_)
  refine st (s_build (ps := [(0, .const (.int .i64 2)), (1, .tmp 9)]) (ccs := [#[.int .i64 2], #[.int .i64 1, .int .i64 0, .int .i64 0, .int .i64 0]]) (cells := [.int .i64 2, .int .i64 1, .int .i64 0, .int .i64 0, .int .i64 0]) rfl rfl (by kernel_rfl) ?_)
  refine st (s_bslice (ps := [(0, .tmp 8), (1, .tmp 10)]) (ccs := [#[.int .i64 1, .int .i64 0, .int .i64 0, .int .i64 0, .int .i64 1], #[.int .i64 2, .int .i64 1, .int .i64 0, .int .i64 0, .int .i64 0]]) (e := 35) (cells := [.int .i64 1, .int .i64 0, .int .i64 0, .int .i64 0, .int .i64 1, .int .i64 2, .int .i64 1, .int .i64 0, .int .i64 0, .int .i64 0]) rfl rfl (by kernel_rfl) (by decide) nz35 ?_)
  intro g2 w2 hg2 hB2 k2 hs2
  have hb2 := below_g0 hb1 k2
  have hz2 := hb2.size
  have hS2 := lit_nodes (F := fun _ => False) ([⟨1, 0, 0, 0, 1⟩, ⟨2, 1, 0, 0, 0⟩] : List Nd) hB2 (fun h => h) rfl (by decide)
  refine st (s_assign rfl ?_)
  refine r_end ?_
  refine n_then ?_
  refine w_seq ?_
  refine w_region ?_
  refine st (s_build (ps := [(0, .const (.int .i64 0)), (1, .const (.int .i64 0)), (2, .const (.int .i64 0)), (3, .const (.int .i64 1))]) (ccs := [#[.int .i64 0], #[.int .i64 0], #[.int .i64 0], #[.int .i64 1]]) (cells := [.int .i64 0, .int .i64 0, .int .i64 0, .int .i64 1]) rfl rfl (by kernel_rfl) ?_)
  refine st (s_build (ps := [(0, .const (.int .i64 1)), (1, .tmp 12)]) (ccs := [#[.int .i64 1], #[.int .i64 0, .int .i64 0, .int .i64 0, .int .i64 1]]) (cells := [.int .i64 1, .int .i64 0, .int .i64 0, .int .i64 0, .int .i64 1]) rfl rfl (by kernel_rfl) ?_)
  refine st (s_build (ps := [(0, .const (.int .i64 0)), (1, .const (.int .i64 0)), (2, .const (.int .i64 0)), (3, .const (.int .i64 1))]) (ccs := [#[.int .i64 0], #[.int .i64 0], #[.int .i64 0], #[.int .i64 1]]) (cells := [.int .i64 0, .int .i64 0, .int .i64 0, .int .i64 1]) rfl rfl (by kernel_rfl) ?_)
  refine st (s_build (ps := [(0, .const (.int .i64 2)), (1, .tmp 14)]) (ccs := [#[.int .i64 2], #[.int .i64 0, .int .i64 0, .int .i64 0, .int .i64 1]]) (cells := [.int .i64 2, .int .i64 0, .int .i64 0, .int .i64 0, .int .i64 1]) rfl rfl (by kernel_rfl) ?_)
  refine st (s_bslice (ps := [(0, .tmp 13), (1, .tmp 15)]) (ccs := [#[.int .i64 1, .int .i64 0, .int .i64 0, .int .i64 0, .int .i64 1], #[.int .i64 2, .int .i64 0, .int .i64 0, .int .i64 0, .int .i64 1]]) (e := 35) (cells := [.int .i64 1, .int .i64 0, .int .i64 0, .int .i64 0, .int .i64 1, .int .i64 2, .int .i64 0, .int .i64 0, .int .i64 0, .int .i64 1]) rfl rfl (by kernel_rfl) (by decide) nz35 ?_)
  intro g3 w3 hg3 hB3 k3 hs3
  have hb3 := below_g0 hb2 k3
  have hz3 := hb3.size
  have hS3 := lit_nodes (F := fun _ => False) ([⟨1, 0, 0, 0, 1⟩, ⟨2, 0, 0, 0, 1⟩] : List Nd) hB3 (fun h => h) rfl (by decide)
  refine st (s_assign rfl ?_)
  refine r_end ?_
  refine n_then ?_
  refine w_seq ?_
  refine w_region ?_
  refine st (s_move rfl ?_)
  refine st (s_build (ps := [(0, .tmp 17)]) (ccs := [#[.slice (some ⟨g1, 0, none⟩) 1 1]]) (cells := [.slice (some ⟨g1, 0, none⟩) 1 1]) rfl (by simp only [List.map_cons, List.map_nil, hS1.cells1] <;> rfl) (by kernel_rfl) ?_)
  refine st (s_call fn11 rfl (right_any ((hS1.g0 k2).g0 k3) (by decide)) ?_)
  rintro v1 w4 ⟨hq1, hv1⟩
  rw [show rightB ([⟨1, 0, 0, 0, 1⟩] : List Nd) = true from rfl] at hv1
  subst hv1
  have k4 := grown_of_below hq1 none
  have hz4 := hq1.size
  have hb4 := below_g0 hb3 k4
  have hz5 := hb4.size
  refine st (s_move rfl ?_)
  refine stg (s_move rfl ?_)
  refine stg (s_build (ps := [(0, .tmp 21)]) (ccs := [#[.slice (some ⟨g1, 0, none⟩) 1 1]]) (cells := [.slice (some ⟨g1, 0, none⟩) 1 1]) rfl (by simp only [List.map_cons, List.map_nil, hS1.cells1] <;> rfl) (by kernel_rfl) ?_)
  refine stg (s_call fn19 rfl (level_any (((hS1.g0 k2).g0 k3).g0 k4)) ?_)
  rintro v2 w5 ⟨hq2, hv2⟩
  rw [show levelN ([⟨1, 0, 0, 0, 1⟩] : List Nd) = 1 from rfl] at hv2
  subst hv2
  have k5 := grown_of_below hq2 none
  have hz6 := hq2.size
  have hb5 := below_g0 hb4 k5
  have hz7 := hb5.size
  refine stg (s_eq rfl rfl ?_)
  refine st (s_pick rfl rfl ?_)
  refine st (s_move rfl ?_)
  refine r_caseP 26 rfl (fun h1 => ?_) (fun h1 => ?_)
  · refine stg (s_move rfl ?_)
    refine stg (s_call fn9 rfl (loose_any (((hS2.g0 k3).g0 k4).g0 k5)) ?_)
    rintro v3 w6 ⟨hq3, hv3⟩
    rw [show looseB ([⟨1, 0, 0, 0, 1⟩, ⟨2, 1, 0, 0, 0⟩] : List Nd) = true from rfl] at hv3
    subst hv3
    have k6 := grown_of_below hq3 none
    have hz8 := hq3.size
    have hb6 := below_g0 hb5 k6
    have hz9 := hb6.size
    refine st (s_pick rfl rfl ?_)
    refine st (s_move rfl ?_)
    refine stg (s_move rfl ?_)
    refine stg (s_call fn17 rfl (hollow_any ((((hS2.g0 k3).g0 k4).g0 k5).g0 k6) rfl (by decide) (by decide) (by decide)) ?_)
    rintro v4 w7 ⟨hq4, hv4⟩
    rw [show hollowB ([⟨1, 0, 0, 0, 1⟩, ⟨2, 1, 0, 0, 0⟩] : List Nd) 2 = true from rfl] at hv4
    subst hv4
    have k7 := grown_of_below hq4 none
    have hz10 := hq4.size
    have hb7 := below_g0 hb6 k7
    have hz11 := hb7.size
    refine st (s_pick rfl rfl ?_)
    refine st (s_move rfl ?_)
    refine stg (s_move rfl ?_)
    refine stg (s_build (ps := [(0, .tmp 35)]) (ccs := [#[.slice (some ⟨g2, 0, none⟩) 2 2]]) (cells := [.slice (some ⟨g2, 0, none⟩) 2 2]) rfl (by simp only [List.map_cons, List.map_nil, hS2.cells1] <;> rfl) (by kernel_rfl) ?_)
    refine stg (s_call fn11 rfl (right_any (((((hS2.g0 k3).g0 k4).g0 k5).g0 k6).g0 k7) (by decide)) ?_)
    rintro v5 w8 ⟨hq5, hv5⟩
    rw [show rightB ([⟨1, 0, 0, 0, 1⟩, ⟨2, 1, 0, 0, 0⟩] : List Nd) = false from rfl] at hv5
    subst hv5
    have k8 := grown_of_below hq5 none
    have hz12 := hq5.size
    have hb8 := below_g0 hb7 k8
    have hz13 := hb8.size
    refine stg (s_not rfl ?_)
    refine st (s_pick rfl rfl ?_)
    refine st (s_move rfl ?_)
    refine stg (s_move rfl ?_)
    refine stg (s_build (ps := [(0, .tmp 41)]) (ccs := [#[.slice (some ⟨g3, 0, none⟩) 2 2]]) (cells := [.slice (some ⟨g3, 0, none⟩) 2 2]) rfl (by simp only [List.map_cons, List.map_nil, hS3.cells1] <;> rfl) (by kernel_rfl) ?_)
    refine stg (s_call fn11 rfl (right_any (((((hS3.g0 k4).g0 k5).g0 k6).g0 k7).g0 k8) (by decide)) ?_)
    rintro v6 w9 ⟨hq6, hv6⟩
    rw [show rightB ([⟨1, 0, 0, 0, 1⟩, ⟨2, 0, 0, 0, 1⟩] : List Nd) = true from rfl] at hv6
    subst hv6
    have k9 := grown_of_below hq6 none
    have hz14 := hq6.size
    have hb9 := below_g0 hb8 k9
    have hz15 := hb9.size
    refine st (s_pick rfl rfl ?_)
    refine st (s_move rfl ?_)
    refine stg (s_move rfl ?_)
    refine stg (s_call fn17 rfl (hollow_any ((((((hS3.g0 k4).g0 k5).g0 k6).g0 k7).g0 k8).g0 k9) rfl (by decide) (by decide) (by decide)) ?_)
    rintro v7 w10 ⟨hq7, hv7⟩
    rw [show hollowB ([⟨1, 0, 0, 0, 1⟩, ⟨2, 0, 0, 0, 1⟩] : List Nd) 2 = false from rfl] at hv7
    subst hv7
    have k10 := grown_of_below hq7 none
    have hz16 := hq7.size
    have hb10 := below_g0 hb9 k10
    have hz17 := hb10.size
    refine stg (s_not rfl ?_)
    refine st (s_pick rfl rfl ?_)
    refine st (s_move rfl ?_)
    refine stg (s_move rfl ?_)
    refine stg (s_call fn15 rfl (empty_any (((((((hS3.g0 k4).g0 k5).g0 k6).g0 k7).g0 k8).g0 k9).g0 k10) rfl (by decide) (by decide) (by decide)) ?_)
    rintro v8 w11 ⟨hq8, hv8⟩
    rw [show (!(ix (hasL ([⟨1, 0, 0, 0, 1⟩, ⟨2, 0, 0, 0, 1⟩] : List Nd)) 0)) = true from rfl] at hv8
    subst hv8
    have k11 := grown_of_below hq8 none
    have hz18 := hq8.size
    have hb11 := below_g0 hb10 k11
    have hz19 := hb11.size
    refine st (s_pick rfl rfl ?_)
    refine st (s_move rfl ?_)
    refine stg (s_move rfl ?_)
    refine stg (s_call fn15 rfl (empty_any ((((((((hS3.g0 k4).g0 k5).g0 k6).g0 k7).g0 k8).g0 k9).g0 k10).g0 k11) rfl (by decide) (by decide) (by decide)) ?_)
    rintro v9 w12 ⟨hq9, hv9⟩
    rw [show (!(ix (hasL ([⟨1, 0, 0, 0, 1⟩, ⟨2, 0, 0, 0, 1⟩] : List Nd)) 2)) = false from rfl] at hv9
    subst hv9
    have k12 := grown_of_below hq9 none
    have hz20 := hq9.size
    have hb12 := below_g0 hb11 k12
    have hz21 := hb12.size
    refine stg (s_not rfl ?_)
    refine st (s_pick rfl rfl ?_)
    refine st (s_move rfl ?_)
    refine stg (s_build (ps := [(0, .const (.int .i64 1))]) (ccs := [#[.int .i64 1]]) (cells := [.int .i64 1, .int .i64 0, .int .i64 0, .int .i64 0, .int .i64 0]) rfl rfl (by kernel_rfl) ?_)
    refine stg (s_bslice (ps := [(0, .tmp 60)]) (ccs := [#[.int .i64 1, .int .i64 0, .int .i64 0, .int .i64 0, .int .i64 0]]) (e := 35) (cells := [.int .i64 1, .int .i64 0, .int .i64 0, .int .i64 0, .int .i64 0]) rfl rfl (by kernel_rfl) (by decide) nz35 ?_)
    intro g4 w13 hg4 hB4 k13 hs4
    have hb13 := below_g0 hb12 k13
    have hz22 := hb13.size
    have hS4 := lit_nodes (F := fun _ => False) ([⟨1, 0, 0, 0, 0⟩] : List Nd) hB4 (fun h => h) rfl (by decide)
    refine stg (s_call fn15 rfl (empty_any hS4 rfl (by decide) (by decide) (by decide)) ?_)
    rintro v10 w14 ⟨hq10, hv10⟩
    rw [show (!(ix (hasL ([⟨1, 0, 0, 0, 0⟩] : List Nd)) 1)) = true from rfl] at hv10
    subst hv10
    have k14 := grown_of_below hq10 none
    have hz23 := hq10.size
    have hb14 := below_g0 hb13 k14
    have hz24 := hb14.size
    refine st (s_pick rfl rfl ?_)
    refine st (s_move rfl ?_)
    refine stg (s_build (ps := [(0, .const (.int .i64 256))]) (ccs := [#[.int .i64 256]]) (cells := [.int .i64 256, .int .i64 0, .int .i64 0, .int .i64 0]) rfl rfl (by kernel_rfl) ?_)
    refine stg (s_build (ps := [(0, .const (.int .i64 1)), (1, .tmp 65)]) (ccs := [#[.int .i64 1], #[.int .i64 256, .int .i64 0, .int .i64 0, .int .i64 0]]) (cells := [.int .i64 1, .int .i64 256, .int .i64 0, .int .i64 0, .int .i64 0]) rfl rfl (by kernel_rfl) ?_)
    refine stg (s_bslice (ps := [(0, .tmp 66)]) (ccs := [#[.int .i64 1, .int .i64 256, .int .i64 0, .int .i64 0, .int .i64 0]]) (e := 35) (cells := [.int .i64 1, .int .i64 256, .int .i64 0, .int .i64 0, .int .i64 0]) rfl rfl (by kernel_rfl) (by decide) nz35 ?_)
    intro g5 w15 hg5 hB5 k15 hs5
    have hb15 := below_g0 hb14 k15
    have hz25 := hb15.size
    have hS5 := lit_nodes (F := fun _ => False) ([⟨1, 256, 0, 0, 0⟩] : List Nd) hB5 (fun h => h) rfl (by decide)
    refine stg (s_call fn9 rfl (loose_any hS5) ?_)
    rintro v11 w16 ⟨hq11, hv11⟩
    rw [show looseB ([⟨1, 256, 0, 0, 0⟩] : List Nd) = false from rfl] at hv11
    subst hv11
    have k16 := grown_of_below hq11 none
    have hz26 := hq11.size
    have hb16 := below_g0 hb15 k16
    have hz27 := hb16.size
    refine stg (s_not rfl ?_)
    refine st (s_pick rfl rfl ?_)
    refine st (s_move rfl ?_)
    refine stg (s_move rfl ?_)
    refine stg (s_build (ps := [(0, .tmp 72)]) (ccs := [#[.slice (some ⟨g1, 0, none⟩) 1 1]]) (cells := [.slice (some ⟨g1, 0, none⟩) 1 1]) rfl (by simp only [List.map_cons, List.map_nil, hS1.cells1] <;> rfl) (by kernel_rfl) ?_)
    refine stg (s_move rfl ?_)
    refine stg (s_build (ps := [(0, .tmp 74)]) (ccs := [#[.slice (some ⟨g1, 0, none⟩) 1 1]]) (cells := [.slice (some ⟨g1, 0, none⟩) 1 1]) rfl (by simp only [List.map_cons, List.map_nil, hS1.cells1] <;> rfl) (by kernel_rfl) ?_)
    refine stg (s_call fn13 rfl (same_any (((((((((((((((hS1.g0 k2).g0 k3).g0 k4).g0 k5).g0 k6).g0 k7).g0 k8).g0 k9).g0 k10).g0 k11).g0 k12).g0 k13).g0 k14).g0 k15).g0 k16).none (((((((((((((((hS1.g0 k2).g0 k3).g0 k4).g0 k5).g0 k6).g0 k7).g0 k8).g0 k9).g0 k10).g0 k11).g0 k12).g0 k13).g0 k14).g0 k15).g0 k16).none) ?_)
    rintro v12 w17 ⟨hq12, hv12⟩
    rw [show Nd.eqv ([⟨1, 0, 0, 0, 1⟩] : List Nd) ([⟨1, 0, 0, 0, 1⟩] : List Nd) = true from rfl] at hv12
    subst hv12
    have k17 := grown_of_below hq12 none
    have hz28 := hq12.size
    have hb17 := below_g0 hb16 k17
    have hz29 := hb17.size
    refine st (s_pick rfl rfl ?_)
    refine st (s_move rfl ?_)
    refine stg (s_move rfl ?_)
    refine stg (s_build (ps := [(0, .tmp 79)]) (ccs := [#[.slice (some ⟨g1, 0, none⟩) 1 1]]) (cells := [.slice (some ⟨g1, 0, none⟩) 1 1]) rfl (by simp only [List.map_cons, List.map_nil, hS1.cells1] <;> rfl) (by kernel_rfl) ?_)
    refine stg (s_move rfl ?_)
    refine stg (s_build (ps := [(0, .tmp 81)]) (ccs := [#[.slice (some ⟨g3, 0, none⟩) 2 2]]) (cells := [.slice (some ⟨g3, 0, none⟩) 2 2]) rfl (by simp only [List.map_cons, List.map_nil, hS3.cells1] <;> rfl) (by kernel_rfl) ?_)
    refine stg (s_call fn13 rfl (same_any ((((((((((((((((hS1.g0 k2).g0 k3).g0 k4).g0 k5).g0 k6).g0 k7).g0 k8).g0 k9).g0 k10).g0 k11).g0 k12).g0 k13).g0 k14).g0 k15).g0 k16).g0 k17).none ((((((((((((((hS3.g0 k4).g0 k5).g0 k6).g0 k7).g0 k8).g0 k9).g0 k10).g0 k11).g0 k12).g0 k13).g0 k14).g0 k15).g0 k16).g0 k17).none) ?_)
    rintro v13 w18 ⟨hq13, hv13⟩
    rw [show Nd.eqv ([⟨1, 0, 0, 0, 1⟩] : List Nd) ([⟨1, 0, 0, 0, 1⟩, ⟨2, 0, 0, 0, 1⟩] : List Nd) = false from rfl] at hv13
    subst hv13
    have k18 := grown_of_below hq13 none
    have hz30 := hq13.size
    have hb18 := below_g0 hb17 k18
    have hz31 := hb18.size
    refine stg (s_not rfl ?_)
    refine st (s_pick rfl rfl ?_)
    refine st (s_assign rfl ?_)
    refine r_end ?_
    refine n_then ?_
    refine w_ret1 rfl rfl ?_
    exact ⟨_, rfl, hb18, rfl⟩
  · refine s_pass rfl rfl ?_
    refine s_pass rfl rfl ?_
    refine st (s_pick rfl rfl ?_)
    refine st (s_move rfl ?_)
    refine s_pass rfl rfl ?_
    refine s_pass rfl rfl ?_
    refine st (s_pick rfl rfl ?_)
    refine st (s_move rfl ?_)
    refine s_pass rfl rfl ?_
    refine s_pass rfl rfl ?_
    refine s_pass rfl rfl ?_
    refine s_pass rfl rfl ?_
    refine st (s_pick rfl rfl ?_)
    refine st (s_move rfl ?_)
    refine s_pass rfl rfl ?_
    refine s_pass rfl rfl ?_
    refine s_pass rfl rfl ?_
    refine st (s_pick rfl rfl ?_)
    refine st (s_move rfl ?_)
    refine s_pass rfl rfl ?_
    refine s_pass rfl rfl ?_
    refine s_pass rfl rfl ?_
    refine st (s_pick rfl rfl ?_)
    refine st (s_move rfl ?_)
    refine s_pass rfl rfl ?_
    refine s_pass rfl rfl ?_
    refine st (s_pick rfl rfl ?_)
    refine st (s_move rfl ?_)
    refine s_pass rfl rfl ?_
    refine s_pass rfl rfl ?_
    refine s_pass rfl rfl ?_
    refine st (s_pick rfl rfl ?_)
    refine st (s_move rfl ?_)
    refine s_pass rfl rfl ?_
    refine s_pass rfl rfl ?_
    refine s_pass rfl rfl ?_
    refine st (s_pick rfl rfl ?_)
    refine st (s_move rfl ?_)
    refine s_pass rfl rfl ?_
    refine s_pass rfl rfl ?_
    refine s_pass rfl rfl ?_
    refine s_pass rfl rfl ?_
    refine s_pass rfl rfl ?_
    refine st (s_pick rfl rfl ?_)
    refine st (s_move rfl ?_)
    refine s_pass rfl rfl ?_
    refine s_pass rfl rfl ?_
    refine s_pass rfl rfl ?_
    refine s_pass rfl rfl ?_
    refine s_pass rfl rfl ?_
    refine st (s_pick rfl rfl ?_)
    refine st (s_move rfl ?_)
    refine s_pass rfl rfl ?_
    refine s_pass rfl rfl ?_
    refine s_pass rfl rfl ?_
    refine s_pass rfl rfl ?_
    refine s_pass rfl rfl ?_
    refine s_pass rfl rfl ?_
    refine st (s_pick rfl rfl ?_)
    refine st (s_assign rfl ?_)
    refine r_end ?_
    refine n_then ?_
    refine w_ret1 rfl rfl ?_
    exact absurd rfl h1
end Go.Proofs.Ytdeiiagkbbimhaa
