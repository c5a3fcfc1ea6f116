/- Part of the proof: a library for walks, plain laws, and functions' walks. -/
import Derived.Test.YtencmmhfiepojaaM4
import Derived.Test.YtencmmhfiepojaaM5
set_option maxRecDepth 20000
set_option linter.unusedSimpArgs false
set_option linter.unusedVariables false
namespace Go.Proofs.Ytencmmhfiepojaa
open Go.RowKit Go.Gw
theorem bright_any {w : World} {ng : Bool} {a : Value} {xs : List Int} (ha : Sl Kd.u32 w (fun _ => False) a xs) :
    Calls Try.prog 52 [.agg [.bool ng, a].toArray].toArray w (Pure w fun v _ => v = .bool (bigR ng xs)) := by
  have hb0 := Below.refl w.heap.size w
  refine enter Try.func52 rfl rfl ?_
  refine w_seq ?_
  refine w_region ?_
  refine st (s_box rfl ?_)
  intro g1 w1 hg1 hB1 k1 hs1
  change Blk w1 g1 52 [.bool ng, a].toArray at hB1
  have hb1 := below_g0 hb0 k1
  refine st (s_assign rfl ?_)
  refine r_end ?_
  refine n_then ?_
  refine w_seq ?_
  refine w_region ?_
  refine st (s_faddr fld52_1 rfl ?_)
  refine st (s_load one32 rfl hB1.range (j := 1) rfl ?_)
  refine st (s_call fn38 rfl (right_any ((ha.at0 hb1)).none) ?_)
  rintro _ w2 ⟨hq1, rfl⟩
  have k2 := grown_of_below hq1 none
  have hz1 := hq1.size
  have hb2 := below_g0 hb1 k2
  have hz2 := hb2.size
  refine st (s_move rfl ?_)
  refine r_case 6 rfl (fun h1 => ?_) (fun h1 => ?_)
  · refine stg (s_faddr fld52_0 rfl ?_)
    refine stg (s_load one4 rfl (hB1.g0 k2).range (j := 0) rfl ?_)
    refine stg (s_not rfl ?_)
    refine stg (s_move rfl ?_)
    refine r_case 10 rfl (fun h2 => ?_) (fun h2 => ?_)
    · refine s_pass rfl rfl ?_
      refine s_pass rfl rfl ?_
      refine s_pass rfl rfl ?_
      refine s_pass rfl rfl ?_
      refine stg (s_pick rfl rfl ?_)
      refine st (s_pick rfl rfl ?_)
      refine st (s_assign rfl ?_)
      refine r_end ?_
      refine n_then ?_
      refine w_ret1 rfl rfl ?_
      exact ⟨_, rfl, hb2, by unfold bigR; rw [h1, h2]; first | rfl | (rw [Bool.true_and, Bool.not_true, Bool.false_or]; exact congrArg Value.bool (decide_eq_decide.2 (by omega)))⟩
    · refine stg (s_faddr fld52_1 rfl ?_)
      refine stg (s_load one32 rfl (hB1.g0 k2).range (j := 1) rfl ?_)
      refine stg (s_len sl32 rfl (ha.at0 hb2) ?_)
      refine stg (s_gt rfl rfl ?_)
      refine stg (s_pick rfl rfl ?_)
      refine st (s_pick rfl rfl ?_)
      refine st (s_assign rfl ?_)
      refine r_end ?_
      refine n_then ?_
      refine w_ret1 rfl rfl ?_
      exact ⟨_, rfl, hb2, by unfold bigR; rw [h1, h2]; first | rfl | (rw [Bool.true_and, Bool.not_true, Bool.false_or]; exact congrArg Value.bool (decide_eq_decide.2 (by omega)))⟩
  · refine s_pass rfl rfl ?_
    refine s_pass rfl rfl ?_
    refine s_pass rfl rfl ?_
    refine s_pass rfl rfl ?_
    refine s_passU rfl rfl ?_
    refine s_passU rfl rfl ?_
    refine s_passU rfl rfl ?_
    refine s_passU rfl rfl ?_
    refine s_pass rfl rfl ?_
    refine st (s_pick rfl rfl ?_)
    refine st (s_assign rfl ?_)
    refine r_end ?_
    refine n_then ?_
    refine w_ret1 rfl rfl ?_
    exact ⟨_, rfl, hb2, by unfold bigR; rw [h1]; first | rfl | (rw [Bool.true_and, Bool.not_true, Bool.false_or]; exact congrArg Value.bool (decide_eq_decide.2 (by omega)))⟩

theorem rbright_any {w : World} {ng : Bool} {a : Value} {xs : List Int} (ha : Sl Kd.u32 w (fun _ => False) a xs) :
    Calls Try.prog 53 [.agg [.bool ng, a].toArray].toArray w (Pure w fun v _ => v = .bool (bigR ng xs)) := by
  have hb0 := Below.refl w.heap.size w
  refine enter Try.func53 rfl rfl ?_
  refine w_seq ?_
  refine w_region ?_
  refine st (s_box rfl ?_)
  intro g1 w1 hg1 hB1 k1 hs1
  change Blk w1 g1 52 [.bool ng, a].toArray at hB1
  have hb1 := below_g0 hb0 k1
  refine st (s_assign rfl ?_)
  refine r_end ?_
  refine n_then ?_
  refine w_seq ?_
  refine w_region ?_
  refine st (s_faddr fld52_1 rfl ?_)
  refine st (s_load one32 rfl hB1.range (j := 1) rfl ?_)
  refine st (s_call fn39 rfl (rright_any ((ha.at0 hb1)).none) ?_)
  rintro _ w2 ⟨hq1, rfl⟩
  have k2 := grown_of_below hq1 none
  have hz1 := hq1.size
  have hb2 := below_g0 hb1 k2
  have hz2 := hb2.size
  refine st (s_move rfl ?_)
  refine r_case 6 rfl (fun h1 => ?_) (fun h1 => ?_)
  · refine stg (s_faddr fld52_0 rfl ?_)
    refine stg (s_load one4 rfl (hB1.g0 k2).range (j := 0) rfl ?_)
    refine stg (s_move rfl ?_)
    refine r_case 9 rfl (fun h2 => ?_) (fun h2 => ?_)
    · refine stg (s_faddr fld52_1 rfl ?_)
      refine stg (s_load one32 rfl (hB1.g0 k2).range (j := 1) rfl ?_)
      refine stg (s_len sl32 rfl (ha.at0 hb2) ?_)
      refine stg (s_eq rfl rfl ?_)
      refine stg (s_pick rfl rfl ?_)
      refine stg (s_notP rfl ?_)
      refine st (s_pick rfl rfl ?_)
      refine st (s_assign rfl ?_)
      refine r_end ?_
      refine n_then ?_
      refine w_ret1 rfl rfl ?_
      exact ⟨_, rfl, hb2, by unfold bigR; rw [h1, h2]; first | rfl | (rw [Bool.true_and, Bool.not_true, Bool.false_or]; exact congrArg Value.bool (decide_eq_decide.2 (by omega)))⟩
    · refine s_pass rfl rfl ?_
      refine s_pass rfl rfl ?_
      refine s_pass rfl rfl ?_
      refine s_pass rfl rfl ?_
      refine stg (s_pick rfl rfl ?_)
      refine stg (s_not rfl ?_)
      refine st (s_pick rfl rfl ?_)
      refine st (s_assign rfl ?_)
      refine r_end ?_
      refine n_then ?_
      refine w_ret1 rfl rfl ?_
      exact ⟨_, rfl, hb2, by unfold bigR; rw [h1, h2]; first | rfl | (rw [Bool.true_and, Bool.not_true, Bool.false_or]; exact congrArg Value.bool (decide_eq_decide.2 (by omega)))⟩
  · refine s_pass rfl rfl ?_
    refine s_pass rfl rfl ?_
    refine s_pass rfl rfl ?_
    refine s_passU rfl rfl ?_
    refine s_passU rfl rfl ?_
    refine s_passU rfl rfl ?_
    refine s_passU rfl rfl ?_
    refine s_pass rfl rfl ?_
    refine s_pass rfl rfl ?_
    refine st (s_pick rfl rfl ?_)
    refine st (s_assign rfl ?_)
    refine r_end ?_
    refine n_then ?_
    refine w_ret1 rfl rfl ?_
    exact ⟨_, rfl, hb2, by unfold bigR; rw [h1]; first | rfl | (rw [Bool.true_and, Bool.not_true, Bool.false_or]; exact congrArg Value.bool (decide_eq_decide.2 (by omega)))⟩

theorem signed_any {w : World} {ng : Bool} {a : Value} {m : Int} (ha : Sl Kd.u32 w (fun _ => False) a (tl m)) (hm : 0 ≤ m) :
    Calls Try.prog 83 [.bool ng, a].toArray w (Pure w fun v W => IsBig W v (sg ng m)) := by
  have hb0 := Below.refl w.heap.size w
  have hln1 := ha.lenle
  refine enter Try.func83 rfl rfl ?_
  refine w_seq ?_
  refine w_region ?_
  refine st (s_alloc zero52 ?_)
  intro g1 w1 hg1 hB1 k1 hs1
  have hb1 := below_g0 hb0 k1
  refine r_end ?_
  refine n_then ?_
  refine w_seq ?_
  refine w_region ?_
  refine st (s_move rfl ?_)
  refine st (s_move rfl ?_)
  refine r_case 6 rfl (fun h1 => ?_) (fun h1 => ?_)
  · refine stg (s_move rfl ?_)
    refine stg (s_len sl32 rfl (ha.at0 hb1) ?_)
    refine stg (s_gt rfl rfl ?_)
    refine st (s_pick rfl rfl ?_)
    refine st (s_move rfl ?_)
    refine st (s_build (ps := [(0, .tmp 10), (1, .tmp 11)]) (ccs := [#[.bool (decide (0 < ((tl m).length : Int)))], #[a]]) (cells := [.bool (decide (0 < ((tl m).length : Int))), a]) rfl (by simp only [List.map_cons, List.map_nil, ha.cells1] <;> rfl) (by kernel_rfl) ?_)
    refine st0 (s_storeN row52 rfl rfl hB1 (by simp only [List.all_cons, List.all_nil, ha.one, Bool.and_true, Bool.and_self] <;> rfl) rfl rfl ?_)
    intro w2 hB2 k2 hs2
    have hb2 := below_g hb1 k2 (by omega)
    refine r_end ?_
    refine n_then ?_
    refine w_retc1 rfl row52 rfl hB2.range rfl ?_
    exact ⟨_, rfl, hb2, _, by rw [sg_neg hm h1], by rw [← sg_ml ng hm]; exact ((ha.at0 hb2)).none⟩
  · refine s_pass rfl rfl ?_
    refine s_pass rfl rfl ?_
    refine s_pass rfl rfl ?_
    refine st (s_pick rfl rfl ?_)
    refine st (s_move rfl ?_)
    refine st (s_build (ps := [(0, .tmp 10), (1, .tmp 11)]) (ccs := [#[.bool false], #[a]]) (cells := [.bool false, a]) rfl (by simp only [List.map_cons, List.map_nil, ha.cells1] <;> rfl) (by kernel_rfl) ?_)
    refine st0 (s_storeN row52 rfl rfl hB1 (by simp only [List.all_cons, List.all_nil, ha.one, Bool.and_true, Bool.and_self] <;> rfl) rfl rfl ?_)
    intro w3 hB3 k3 hs3
    have hb3 := below_g hb1 k3 (by omega)
    refine r_end ?_
    refine n_then ?_
    refine w_retc1 rfl row52 rfl hB3.range rfl ?_
    exact ⟨_, rfl, hb3, _, by rw [sg_pos hm h1], by rw [← sg_ml ng hm]; exact ((ha.at0 hb3)).none⟩

theorem of_any {w : World} {n : Int} (hn : -9223372036854775808 ≤ n ∧ n ≤ 9223372036854775807) :
    Calls Try.prog 49 [.int .i64 n].toArray w (Pure w fun v W => IsBig W v (n)) := by
  have hb0 := Below.refl w.heap.size w
  refine enter Try.func49 rfl rfl ?_
  refine w_seq ?_
  refine w_region ?_
  refine st (s_alloc zero52 ?_)
  intro g1 w1 hg1 hB1 k1 hs1
  have hb1 := below_g0 hb0 k1
  refine r_end ?_
  refine n_then ?_
  refine w_seq ?_
  refine w_region ?_
  refine st (s_move rfl ?_)
  refine st (s_convm (M := 18446744073709551616) rfl rfl intk3 intk76 rfl ?_)
  refine st (s_assign rfl ?_)
  refine r_end ?_
  refine n_then ?_
  refine w_seq ?_
  refine w_seq ?_
  refine w_region ?_
  refine st (s_move rfl ?_)
  refine st (s_lt rfl rfl ?_)
  refine r_end ?_
  refine n_then ?_
  refine w_condP rfl (fun h1 => ?_) (fun h1 => ?_)
  · refine w_region ?_
    refine st (s_move rfl ?_)
    refine st (s_negk (M := 18446744073709551616) rfl rfl rfl ?_)
    refine st (s_assign rfl ?_)
    refine r_end ?_
    refine n_then ?_
    refine w_seq ?_
    refine w_region ?_
    refine st (s_move rfl ?_)
    refine st (s_lt rfl rfl ?_)
    refine st (s_move rfl ?_)
    refine st (s_convm (M := 4294967296) rfl rfl intk76 intk44 rfl ?_)
    refine st (s_move rfl ?_)
    refine st (s_shrk (p := 4294967296) rfl rfl (by decide) (by decide) ?_)
    refine st (s_convm (M := 4294967296) rfl rfl intk76 intk44 rfl ?_)
    refine st (s_bslice (ps := [(0, .tmp 13), (1, .tmp 16)]) (ccs := [#[.int .u32 (((-(n % 18446744073709551616)) % 18446744073709551616) % 4294967296)], #[.int .u32 ((((-(n % 18446744073709551616)) % 18446744073709551616) / 4294967296) % 4294967296)]]) (e := 44) (cells := [.int .u32 (((-(n % 18446744073709551616)) % 18446744073709551616) % 4294967296), .int .u32 ((((-(n % 18446744073709551616)) % 18446744073709551616) / 4294967296) % 4294967296)]) rfl rfl (by kernel_rfl) (by decide) nz44 ?_)
    intro g2 w2 hg2 hB2 k2 hs2
    have hb2 := below_g0 hb1 k2
    have hz1 := hb2.size
    have hS1 := lit_u32s (F := fun _ => False) ([(((-(n % 18446744073709551616)) % 18446744073709551616) % 4294967296), ((((-(n % 18446744073709551616)) % 18446744073709551616) / 4294967296) % 4294967296)] : List Int) hB2 (fun h => h) rfl (by first | decide | simp) (by intro x hx; simp at hx; omega)
    refine st (s_call fn40 rfl (norm_any (hS1).none (by first | omega | (simp; done) | (simp; omega))) ?_)
    rintro v1 w3 ⟨hq1, hS2⟩
    have k3 := grown_of_below hq1 none
    have hz2 := hq1.size
    have hb3 := below_g0 hb2 k3
    have hz3 := hb3.size
    refine st (s_call fn83 rfl (signed_any (m := nv ([(((-(n % 18446744073709551616)) % 18446744073709551616) % 4294967296), ((((-(n % 18446744073709551616)) % 18446744073709551616) / 4294967296) % 4294967296)] : List Int)) (hS2).none (nv_nonneg (by intro x hx; simp at hx; omega))) ?_)
    rintro _ w4 ⟨hq2, v2, rfl, hS3⟩
    have k4 := grown_of_below hq2 none
    have hz4 := hq2.size
    have hb4 := below_g0 hb3 k4
    have hz5 := hb4.size
    refine st0 (s_storeN row52 rfl rfl (((hB1.g0 k2).g0 k3).g0 k4) (by simp only [List.all_cons, List.all_nil, hS3.one, Bool.and_true, Bool.and_self] <;> rfl) rfl rfl ?_)
    intro w5 hB3 k5 hs3
    have hb5 := below_g hb4 k5 (by omega)
    refine r_end ?_
    refine n_then ?_
    refine w_retc1 rfl row52 rfl hB3.range rfl ?_
    exact ⟨_, rfl, hb5, big_of (of_neg hn h1) ((hS3.gB k5 (((hB1.g0 k2).g0 k3).g0 k4) rfl)).none⟩
  · refine w_skip' ?_
    refine n_then ?_
    refine w_seq ?_
    refine w_region ?_
    refine st (s_move rfl ?_)
    refine st (s_lt rfl rfl ?_)
    refine st (s_move rfl ?_)
    refine st (s_convm (M := 4294967296) rfl rfl intk76 intk44 rfl ?_)
    refine st (s_move rfl ?_)
    refine st (s_shrk (p := 4294967296) rfl rfl (by decide) (by decide) ?_)
    refine st (s_convm (M := 4294967296) rfl rfl intk76 intk44 rfl ?_)
    refine st (s_bslice (ps := [(0, .tmp 13), (1, .tmp 16)]) (ccs := [#[.int .u32 ((n % 18446744073709551616) % 4294967296)], #[.int .u32 (((n % 18446744073709551616) / 4294967296) % 4294967296)]]) (e := 44) (cells := [.int .u32 ((n % 18446744073709551616) % 4294967296), .int .u32 (((n % 18446744073709551616) / 4294967296) % 4294967296)]) rfl rfl (by kernel_rfl) (by decide) nz44 ?_)
    intro g3 w6 hg3 hB4 k6 hs4
    have hb6 := below_g0 hb1 k6
    have hz6 := hb6.size
    have hS4 := lit_u32s (F := fun _ => False) ([((n % 18446744073709551616) % 4294967296), (((n % 18446744073709551616) / 4294967296) % 4294967296)] : List Int) hB4 (fun h => h) rfl (by first | decide | simp) (by intro x hx; simp at hx; omega)
    refine st (s_call fn40 rfl (norm_any (hS4).none (by first | omega | (simp; done) | (simp; omega))) ?_)
    rintro v3 w7 ⟨hq3, hS5⟩
    have k7 := grown_of_below hq3 none
    have hz7 := hq3.size
    have hb7 := below_g0 hb6 k7
    have hz8 := hb7.size
    refine st (s_call fn83 rfl (signed_any (m := nv ([((n % 18446744073709551616) % 4294967296), (((n % 18446744073709551616) / 4294967296) % 4294967296)] : List Int)) (hS5).none (nv_nonneg (by intro x hx; simp at hx; omega))) ?_)
    rintro _ w8 ⟨hq4, v4, rfl, hS6⟩
    have k8 := grown_of_below hq4 none
    have hz9 := hq4.size
    have hb8 := below_g0 hb7 k8
    have hz10 := hb8.size
    refine st0 (s_storeN row52 rfl rfl (((hB1.g0 k6).g0 k7).g0 k8) (by simp only [List.all_cons, List.all_nil, hS6.one, Bool.and_true, Bool.and_self] <;> rfl) rfl rfl ?_)
    intro w9 hB5 k9 hs5
    have hb9 := below_g hb8 k9 (by omega)
    refine r_end ?_
    refine n_then ?_
    refine w_retc1 rfl row52 rfl hB5.range rfl ?_
    exact ⟨_, rfl, hb9, big_of (of_pos hn h1) ((hS6.gB k9 (((hB1.g0 k6).g0 k7).g0 k8) rfl)).none⟩

theorem int_any0 {w : World}  {a : Value} {n : Int} (ha : Sl Kd.u32 w (fun _ => False) a (ml n))  :
    Calls Try.prog 48 [.agg [.bool (decide (n < 0)), a].toArray].toArray w (Pure w fun v _ => v = .tuple #[.int .i64 (toI n), .bool (fit64 n)]) := by
  have hb0 := Below.refl w.heap.size w
  have hnn := nv_ml n
  refine enter Try.func48 rfl rfl ?_
  refine w_seq ?_
  refine w_region ?_
  refine st (s_box rfl ?_)
  intro g1 w1 hg1 hB1 k1 hs1
  change Blk w1 g1 52 [.bool (decide (n < 0)), a].toArray at hB1
  have hb1 := below_g0 hb0 k1
  refine st (s_assign rfl ?_)
  refine st (s_assign rfl ?_)
  refine r_end ?_
  refine n_then ?_
  refine w_seq ?_
  refine w_seq ?_
  refine w_region ?_
  refine st (s_faddr fld52_1 rfl ?_)
  refine st (s_load one32 rfl hB1.range (j := 1) rfl ?_)
  refine st (s_len sl32 rfl (ha.at0 hb1) ?_)
  refine st (s_gt rfl rfl ?_)
  refine r_end ?_
  refine n_then ?_
  refine w_condP rfl (fun h1 => ?_) (fun h1 => ?_)
  · refine w_seq ?_
    refine w_region ?_
    refine st (s_assign rfl ?_)
    refine st (s_assign rfl ?_)
    refine r_end ?_
    refine n_then ?_
    refine w_ret2 rfl rfl rfl ?_
    have hno := int_long h1
    exact ⟨_, rfl, hb1, by rw [toI_no hno, fit64_no hno]⟩
  · refine w_skip' ?_
    refine n_then ?_
    refine w_seq ?_
    refine w_region ?_
    refine st (s_assign rfl ?_)
    refine r_end ?_
    refine n_then ?_
    refine w_seq ?_
    refine w_seq ?_
    refine w_region ?_
    refine st (s_faddr fld52_1 rfl ?_)
    refine st (s_load one32 rfl hB1.range (j := 1) rfl ?_)
    refine st (s_len sl32 rfl (ha.at0 hb1) ?_)
    refine st (s_move rfl ?_)
    refine r_end ?_
    refine n_then ?_
    refine w_block ?_
    refine w_loop (α := Int × Int) (fun ((i, u) : Int × Int) => [(1, .pointer (some ⟨g1, 0, none⟩)), (2, .int .i64 0), (3, .bool false), (4, .int .u64 u), (13, a), (14, .int .i64 ((ml n).length : Int)), (15, .int .i64 i)]) (fun ((i, u) : Int × Int) W => Below w.heap.size w W ∧ (0 ≤ i ∧ i ≤ (ml n).length) ∧ (u = nv ((ml n).take i.toNat)) ∧ (Blk W g1 52 [.bool (decide (n < 0)), a].toArray)) (fun ((i, u) : Int × Int) => ((ml n).length - i).toNat) ((0), (0)) ⟨hb1, by omega, rfl, hB1⟩ (by exact ⟨rfl, rfl, rfl, rfl, rfl, rfl, rfl, trivial⟩) ?_
    rintro ⟨i, u⟩ w2 ⟨hb2, hi, hu, hBl1⟩
    dsimp only at *
    have hz1 := hb2.size
    have hub := take_bd (i := i) (lim_ml n) h1
    rw [← hu] at hub
    have hxb := (lim_ml n).ix i
    refine w_seq ?_
    refine w_region ?_
    refine st (s_lt rfl rfl ?_)
    refine r_end ?_
    refine n_then ?_
    refine w_seq ?_
    refine w_condP rfl (fun h2 => ?_) (fun h2 => ?_)
    · refine w_skip' ?_
      refine n_then ?_
      refine w_seq ?_
      refine w_block ?_
      refine w_seq ?_
      refine w_region ?_
      refine st (s_move rfl ?_)
      refine st (s_idx sl32 rfl rfl (ha.at0 hb2) (by omega) (by omega) ?_)
      rintro b1 o1 _ ⟨rfl, hr1⟩ hc1 hF1 hlt1
      have hl_1 := Loc.lt hF1
      refine st (s_load one44 rfl hc1 (j := 0) rfl ?_)
      refine st (s_assign rfl ?_)
      refine st (s_assign rfl ?_)
      refine r_end ?_
      refine n_then ?_
      refine w_region ?_
      refine st (s_move rfl ?_)
      refine st (s_move rfl ?_)
      refine st (s_convk (M := 18446744073709551616) rfl rfl intk44 intk76 rfl (by omega) ?_)
      refine st (s_move rfl ?_)
      refine st (s_mul rfl rfl (by omega) ?_)
      refine st (s_shlk (M := 18446744073709551616) (p := (2 ^ ((32 * i)).toNat)) rfl rfl rfl rfl (by omega) (by rw [Nat.min_eq_left (by show ((32 * i)).toNat ≤ 64; omega)]) ?_)
      refine st (s_or (M := 18446744073709551616) rfl rfl rfl rfl hub ⟨Int.emod_nonneg _ (by decide), Int.emod_lt_of_pos _ (by decide)⟩ ?_)
      refine st (s_assign rfl ?_)
      refine r_end ?_
      refine n_block ?_
      refine n_then ?_
      refine w_region ?_
      refine st (s_add rfl rfl (by omega) ?_)
      refine st (s_move rfl ?_)
      refine r_end ?_
      exact n_round (((i + 1)), ((ior u (((ix (ml n) i) * (2 ^ ((32 * i)).toNat)) % 18446744073709551616)))) ⟨hb2, by omega, int_step (lim_ml n) hi.1 (by omega) h1 hu, hBl1⟩ (by omega) (by exact ⟨rfl, rfl, rfl, rfl, rfl, rfl, rfl, trivial⟩)
    · refine w_exit' ?_
      refine n_then_exit ?_
      refine n_then_exit ?_
      refine n_block_exit ?_
      refine n_then ?_
      refine w_seq ?_
      refine w_region ?_
      refine st (s_assign rfl ?_)
      refine r_end ?_
      refine n_then ?_
      refine w_seq ?_
      refine w_seq ?_
      refine w_region ?_
      refine st (s_faddr fld52_0 rfl ?_)
      refine st (s_load one4 rfl hBl1.range (j := 0) rfl ?_)
      refine r_end ?_
      refine n_then ?_
      refine w_condP rfl (fun h3 => ?_) (fun h3 => ?_)
      · refine w_region ?_
        refine st (s_move rfl ?_)
        refine st (s_addk (M := 18446744073709551616) rfl rfl rfl rfl (by omega) ?_)
        refine st (s_assign rfl ?_)
        refine r_end ?_
        refine n_then ?_
        refine w_seq ?_
        refine w_seq ?_
        refine w_region ?_
        refine st (s_move rfl ?_)
        refine st (s_move rfl ?_)
        refine st (s_gt rfl rfl ?_)
        refine r_end ?_
        refine n_then ?_
        refine w_condP rfl (fun h4 => ?_) (fun h4 => ?_)
        · refine w_seq ?_
          refine w_region ?_
          refine st (s_assign rfl ?_)
          refine st (s_assign rfl ?_)
          refine r_end ?_
          refine n_then ?_
          refine w_ret2 rfl rfl rfl ?_
          have hall := int_all hu h2
          have hno : ¬ (-9223372036854775808 ≤ n ∧ n ≤ 9223372036854775807) := by omega
          exact ⟨_, rfl, hb2, by rw [toI_no hno, fit64_no hno]⟩
        · refine w_skip' ?_
          refine n_then ?_
          refine w_seq ?_
          refine w_seq ?_
          refine w_region ?_
          refine st (s_faddr fld52_0 rfl ?_)
          refine st (s_load one4 rfl hBl1.range (j := 0) rfl ?_)
          refine r_end ?_
          refine n_then ?_
          refine w_condP rfl (fun h5 => ?_) (fun h5 => ?_)
          · refine w_seq ?_
            refine w_region ?_
            refine st (s_move rfl ?_)
            refine st (s_negk (M := 18446744073709551616) rfl rfl rfl ?_)
            refine st (s_convw intk76 intk3 rfl ?_)
            refine st (s_assign rfl ?_)
            refine st (s_assign rfl ?_)
            refine r_end ?_
            refine n_then ?_
            refine w_ret2 rfl rfl rfl ?_
            have hall := int_all hu h2
            have hyes : -9223372036854775808 ≤ n ∧ n ≤ 9223372036854775807 := by omega
            exact ⟨_, rfl, hb2, by rw [toI_yes hyes, fit64_yes hyes, show (IntKind.i64.wrap ((-u) % 18446744073709551616)) = n by rw [IntKind.wrap_i64]; omega]⟩
          · refine w_skip' ?_
            refine n_then ?_
            refine w_seq ?_
            refine w_region ?_
            refine st (s_move rfl ?_)
            refine st (s_convw intk76 intk3 rfl ?_)
            refine st (s_assign rfl ?_)
            refine st (s_assign rfl ?_)
            refine r_end ?_
            refine n_then ?_
            refine w_ret2 rfl rfl rfl ?_
            have hall := int_all hu h2
            have hyes : -9223372036854775808 ≤ n ∧ n ≤ 9223372036854775807 := by omega
            exact ⟨_, rfl, hb2, by rw [toI_yes hyes, fit64_yes hyes, show (IntKind.i64.wrap u) = n by rw [IntKind.wrap_i64]; omega]⟩
      · refine w_skip' ?_
        refine n_then ?_
        refine w_seq ?_
        refine w_seq ?_
        refine w_region ?_
        refine st (s_move rfl ?_)
        refine st (s_move rfl ?_)
        refine st (s_gt rfl rfl ?_)
        refine r_end ?_
        refine n_then ?_
        refine w_condP rfl (fun h6 => ?_) (fun h6 => ?_)
        · refine w_seq ?_
          refine w_region ?_
          refine st (s_assign rfl ?_)
          refine st (s_assign rfl ?_)
          refine r_end ?_
          refine n_then ?_
          refine w_ret2 rfl rfl rfl ?_
          have hall := int_all hu h2
          have hno : ¬ (-9223372036854775808 ≤ n ∧ n ≤ 9223372036854775807) := by omega
          exact ⟨_, rfl, hb2, by rw [toI_no hno, fit64_no hno]⟩
        · refine w_skip' ?_
          refine n_then ?_
          refine w_seq ?_
          refine w_seq ?_
          refine w_region ?_
          refine st (s_faddr fld52_0 rfl ?_)
          refine st (s_load one4 rfl hBl1.range (j := 0) rfl ?_)
          refine r_end ?_
          refine n_then ?_
          refine w_condP rfl (fun h7 => ?_) (fun h7 => ?_)
          · refine w_seq ?_
            refine w_region ?_
            refine st (s_move rfl ?_)
            refine st (s_negk (M := 18446744073709551616) rfl rfl rfl ?_)
            refine st (s_convw intk76 intk3 rfl ?_)
            refine st (s_assign rfl ?_)
            refine st (s_assign rfl ?_)
            refine r_end ?_
            refine n_then ?_
            refine w_ret2 rfl rfl rfl ?_
            have hall := int_all hu h2
            have hyes : -9223372036854775808 ≤ n ∧ n ≤ 9223372036854775807 := by omega
            exact ⟨_, rfl, hb2, by rw [toI_yes hyes, fit64_yes hyes, show (IntKind.i64.wrap ((-u) % 18446744073709551616)) = n by rw [IntKind.wrap_i64]; omega]⟩
          · refine w_skip' ?_
            refine n_then ?_
            refine w_seq ?_
            refine w_region ?_
            refine st (s_move rfl ?_)
            refine st (s_convw intk76 intk3 rfl ?_)
            refine st (s_assign rfl ?_)
            refine st (s_assign rfl ?_)
            refine r_end ?_
            refine n_then ?_
            refine w_ret2 rfl rfl rfl ?_
            have hall := int_all hu h2
            have hyes : -9223372036854775808 ≤ n ∧ n ≤ 9223372036854775807 := by omega
            exact ⟨_, rfl, hb2, by rw [toI_yes hyes, fit64_yes hyes, show (IntKind.i64.wrap u) = n by rw [IntKind.wrap_i64]; omega]⟩

theorem int_any {w : World}  {vn : Value} {n : Int} (hn : IsBig w vn n)  :
    Calls Try.prog 48 [vn].toArray w (Pure w fun v _ => v = .tuple #[.int .i64 (toI n), .bool (fit64 n)]) := by
  obtain ⟨sn, rfl, kn⟩ := hn
  exact int_any0 kn

theorem minus_any0 {w : World}  {a : Value} {n : Int} (ha : Sl Kd.u32 w (fun _ => False) a (ml n))  :
    Calls Try.prog 62 [.agg [.bool (decide (n < 0)), a].toArray].toArray w (Pure w fun v W => IsBig W v (-n)) := by
  have hb0 := Below.refl w.heap.size w
  have hnn := nv_ml n
  refine enter Try.func62 rfl rfl ?_
  refine w_seq ?_
  refine w_region ?_
  refine st (s_box rfl ?_)
  intro g1 w1 hg1 hB1 k1 hs1
  change Blk w1 g1 52 [.bool (decide (n < 0)), a].toArray at hB1
  have hb1 := below_g0 hb0 k1
  refine st (s_alloc zero52 ?_)
  intro g2 w2 hg2 hB2 k2 hs2
  have hb2 := below_g0 hb1 k2
  refine r_end ?_
  refine n_then ?_
  refine w_seq ?_
  refine w_region ?_
  refine st (s_faddr fld52_0 rfl ?_)
  refine st (s_load one4 rfl (hB1.g0 k2).range (j := 0) rfl ?_)
  refine st (s_notP rfl ?_)
  refine st (s_faddr fld52_1 rfl ?_)
  refine st (s_load one32 rfl (hB1.g0 k2).range (j := 1) rfl ?_)
  refine st (s_call fn83 rfl (signed_any (m := ((n.natAbs : Nat) : Int)) (show Sl Kd.u32 _ _ _ (tl ((n.natAbs : Nat) : Int)) from ((ha.at0 hb2)).none) (by first | omega | exact shlN_nn (by omega) | exact shrN_nn (by first | omega | exact nv_nonneg (lim_tl _)) | exact nv_nonneg (lim_tl _))) ?_)
  rintro _ w3 ⟨hq1, v1, rfl, hS1⟩
  have k3 := grown_of_below hq1 none
  have hz1 := hq1.size
  have hb3 := below_g0 hb2 k3
  have hz2 := hb3.size
  refine st0 (s_storeN row52 rfl rfl (hB2.g0 k3) (by simp only [List.all_cons, List.all_nil, hS1.one, Bool.and_true, Bool.and_self] <;> rfl) rfl rfl ?_)
  intro w4 hB3 k4 hs3
  have hb4 := below_g hb3 k4 (by omega)
  refine r_end ?_
  refine n_then ?_
  refine w_retc1 rfl row52 rfl hB3.range rfl ?_
  exact ⟨_, rfl, hb4, big_of (sg_minv n) ((hS1.gB k4 (hB2.g0 k3) rfl)).none⟩

theorem minus_any {w : World}  {vn : Value} {n : Int} (hn : IsBig w vn n)  :
    Calls Try.prog 62 [vn].toArray w (Pure w fun v W => IsBig W v (-n)) := by
  obtain ⟨sn, rfl, kn⟩ := hn
  exact minus_any0 kn

theorem badd_any0 {w : World}  {a : Value} {n : Int} {b : Value} {m : Int} (ha : Sl Kd.u32 w (fun _ => False) a (ml n)) (hb : Sl Kd.u32 w (fun _ => False) b (ml m)) (hbn : Bd 90000 n) (hbm : Bd 90000 m)  :
    Calls Try.prog 58 [.agg [.bool (decide (n < 0)), a].toArray, .agg [.bool (decide (m < 0)), b].toArray].toArray w (Pure w fun v W => IsBig W v (n + m)) := by
  have hb0 := Below.refl w.heap.size w
  have hln := bd_len hbn
  have hlm := bd_len hbm
  have hnn := nv_ml n
  have hnm := nv_ml m
  refine enter Try.func58 rfl rfl ?_
  refine w_seq ?_
  refine w_region ?_
  refine st (s_box rfl ?_)
  intro g1 w1 hg1 hB1 k1 hs1
  change Blk w1 g1 52 [.bool (decide (n < 0)), a].toArray at hB1
  have hb1 := below_g0 hb0 k1
  refine st (s_box rfl ?_)
  intro g2 w2 hg2 hB2 k2 hs2
  change Blk w2 g2 52 [.bool (decide (m < 0)), b].toArray at hB2
  have hb2 := below_g0 hb1 k2
  refine st (s_alloc zero52 ?_)
  intro g3 w3 hg3 hB3 k3 hs3
  have hb3 := below_g0 hb2 k3
  refine r_end ?_
  refine n_then ?_
  refine w_seq ?_
  refine w_seq ?_
  refine w_region ?_
  refine st (s_faddr fld52_0 rfl ?_)
  refine st (s_load one4 rfl ((hB1.g0 k2).g0 k3).range (j := 0) rfl ?_)
  refine st (s_faddr fld52_0 rfl ?_)
  refine st (s_load one4 rfl (hB2.g0 k3).range (j := 0) rfl ?_)
  refine st (s_eqbool bool4 rfl rfl ?_)
  refine r_end ?_
  refine n_then ?_
  refine w_cond rfl (fun h1 => ?_) (fun h1 => ?_)
  · refine w_seq ?_
    refine w_draw 8 (fun a b => a.grownBy b none) [(some 12, fun v _ => v = .pointer (some ⟨g1, 0 + 0, none⟩)), (some 13, fun v _ => v = .bool (decide (n < 0))), (some 14, fun v _ => v = .pointer (some ⟨g1, 0 + 1, none⟩)), (some 15, fun v _ => Sl Kd.u32 w (fun _ => False) v (ml n)), (some 16, fun v _ => v = .pointer (some ⟨g2, 0 + 1, none⟩)), (some 17, fun v _ => Sl Kd.u32 w (fun _ => False) v (ml m)), (some 18, fun v W => Sl Kd.u32 W (fun _ => False) v (tl (nv (ml n) + nv (ml m)))), (some 19, fun v W => IsBig W v (sg (decide (n < 0)) (nv (ml n) + nv (ml m))))] [[], [0], [], [2], [], [4], [3, 5], [1, 6]] [(2, .pointer (some ⟨g1, 0, none⟩)), (3, .pointer (some ⟨g2, 0, none⟩)), (4, .pointer (some ⟨g3, 0, none⟩))] (by exact ⟨rfl, rfl, rfl, trivial⟩) (by kernel_rfl) (by kernel_rfl) grown_none_refl (fun _ _ _ => grown_none_trans) ⟨fun _ _ _ h _ => h, fun _ _ _ h _ => h, fun _ _ _ h _ => h, fun _ _ _ h _ => h, fun _ _ _ h _ => h, fun _ _ _ h _ => h, fun _ _ _ h k => h.g0 k, fun _ _ _ h k => h.g0 k, trivial⟩ ?_
    intro w6 k6 hs4
    have hb4 := below_g0 hb3 k6
    refine ⟨⟨?_, ?_, ?_, ?_, ?_, ?_, ?_, ?_, trivial⟩, ?_⟩
    · intro w7 k7
      have hb5 := below_g0 hb4 k7
      refine op1 (s_faddr fld52_0 rfl ?_)
      exact ⟨rfl, grown_none_refl _⟩
    · intro w8 k8
      have hb6 := below_g0 hb4 k8
      rintro _ rfl
      refine op1 (s_load one4 rfl ((((hB1.g0 k2).g0 k3).g0 k6).g0 k8).range (j := 0) rfl ?_)
      exact ⟨rfl, grown_none_refl _⟩
    · intro w9 k9
      have hb7 := below_g0 hb4 k9
      refine op1 (s_faddr fld52_1 rfl ?_)
      exact ⟨rfl, grown_none_refl _⟩
    · intro w10 k10
      have hb8 := below_g0 hb4 k10
      rintro _ rfl
      refine op1 (s_load one32 rfl ((((hB1.g0 k2).g0 k3).g0 k6).g0 k10).range (j := 1) rfl ?_)
      exact ⟨ha, grown_none_refl _⟩
    · intro w11 k11
      have hb9 := below_g0 hb4 k11
      refine op1 (s_faddr fld52_1 rfl ?_)
      exact ⟨rfl, grown_none_refl _⟩
    · intro w12 k12
      have hb10 := below_g0 hb4 k12
      rintro _ rfl
      refine op1 (s_load one32 rfl (((hB2.g0 k3).g0 k6).g0 k12).range (j := 1) rfl ?_)
      exact ⟨hb, grown_none_refl _⟩
    · intro w13 k13
      have hb11 := below_g0 hb4 k13
      intro v3 hS3
      intro v4 hS4
      refine op1 (s_call fn26 rfl (add_any ((hS3.at0 hb11)).none ((hS4.at0 hb11)).none (by first | omega | (simp; done) | (simp; omega)) (by first | omega | (simp; done) | (simp; omega))) ?_)
      rintro v5 w14 ⟨hq3, hS5⟩
      have k14 := grown_of_below hq3 none
      have hz1 := hq3.size
      have hb12 := below_g0 hb11 k14
      have hz2 := hb12.size
      exact ⟨hS5, k14⟩
    · intro w15 k15
      have hb13 := below_g0 hb4 k15
      rintro _ rfl
      intro v6 hS6
      refine op1 (s_call fn83 rfl (signed_any (m := nv (ml n) + nv (ml m)) (hS6).none (by first | omega | exact shlN_nn (by omega) | exact shrN_nn (by first | omega | exact nv_nonneg (lim_tl _)) | exact nv_nonneg (lim_tl _))) ?_)
      rintro _ w16 ⟨hq4, v7, rfl, hS7⟩
      have k16 := grown_of_below hq4 none
      have hz3 := hq4.size
      have hb14 := below_g0 hb13 k16
      have hz4 := hb14.size
      exact ⟨⟨_, rfl, hS7⟩, k16⟩
    · intro w17 k17
      have hb15 := below_g0 hb4 k17
      rintro _ rfl
      rintro _ rfl
      rintro _ rfl
      intro v8 hS8
      rintro _ rfl
      intro v9 hS9
      intro v10 hS10
      rintro _ ⟨v11, rfl, hS11⟩
      refine st0 (s_storeN row52 rfl rfl ((hB3.g0 k6).g0 k17) (by simp only [List.all_cons, List.all_nil, hS11.one, Bool.and_true, Bool.and_self] <;> rfl) rfl rfl ?_)
      intro w18 hB4 k18 hs5
      have hb16 := below_g hb15 k18 (by omega)
      refine r_end ?_
      refine n_then ?_
      refine w_retc1 rfl row52 rfl hB4.range rfl ?_
      exact ⟨_, rfl, hb16, big_of (sg_add (eq_of_beq h1)) ((hS11.gB k18 ((hB3.g0 k6).g0 k17) rfl)).none⟩
  · refine w_skip' ?_
    refine n_then ?_
    refine w_seq ?_
    refine w_seq ?_
    refine w_region ?_
    refine st (s_faddr fld52_1 rfl ?_)
    refine st (s_load one32 rfl ((hB1.g0 k2).g0 k3).range (j := 1) rfl ?_)
    refine st (s_faddr fld52_1 rfl ?_)
    refine st (s_load one32 rfl (hB2.g0 k3).range (j := 1) rfl ?_)
    refine st (s_call fn28 rfl (cmp_any ((ha.at0 hb3)).none ((hb.at0 hb3)).none) ?_)
    rintro _ w19 ⟨hq5, rfl⟩
    have k19 := grown_of_below hq5 none
    have hz5 := hq5.size
    have hb17 := below_g0 hb3 k19
    have hz6 := hb17.size
    refine st (s_lt rfl rfl ?_)
    refine r_end ?_
    refine n_then ?_
    refine w_condP rfl (fun h2 => ?_) (fun h2 => ?_)
    · have hc2 := cmpI_neg h2
      refine w_region ?_
      refine st (s_loadW row52 rfl ((hB2.g0 k3).g0 k19).range rfl ?_)
      refine st (s_loadW row52 rfl (((hB1.g0 k2).g0 k3).g0 k19).range rfl ?_)
      refine st0 (s_storeN row52 rfl rfl (((hB1.g0 k2).g0 k3).g0 k19) (by simp only [List.all_cons, List.all_nil, hb.one, Bool.and_true, Bool.and_self] <;> rfl) rfl rfl ?_)
      intro w20 hB5 k20 hs6
      have hb18 := below_g hb17 k20 (by omega)
      refine st0 (s_storeN row52 rfl rfl (((hB2.g0 k3).g0 k19).gne k20 (by omega)) (by simp only [List.all_cons, List.all_nil, ha.one, Bool.and_true, Bool.and_self] <;> rfl) rfl rfl ?_)
      intro w21 hB6 k21 hs7
      have hb19 := below_g hb18 k21 (by omega)
      refine r_end ?_
      refine n_then ?_
      refine w_seq ?_
      refine w_region ?_
      refine st (s_faddr fld52_1 rfl ?_)
      refine st (s_load one32 rfl (hB5.gne k21 (by omega)).range (j := 1) rfl ?_)
      refine st (s_faddr fld52_1 rfl ?_)
      refine st (s_load one32 rfl hB6.range (j := 1) rfl ?_)
      refine st (s_call fn23 rfl (sub_any ((hb.at0 hb19)).none ((ha.at0 hb19)).none (by first | omega | (simp; done) | (simp; omega)) (by first | omega | (simp; done) | (simp; omega))) ?_)
      rintro _ w22 ⟨hq6, v12, rfl, hS12⟩
      have k22 := grown_of_below hq6 none
      have hz7 := hq6.size
      have hb20 := below_g0 hb19 k22
      have hz8 := hb20.size
      refine st (s_move rfl ?_)
      refine st (s_extract rfl rfl ?_)
      refine st (s_extract rfl rfl ?_)
      refine st (s_assign rfl ?_)
      refine st (s_assign rfl ?_)
      refine r_end ?_
      refine n_then ?_
      refine w_seq ?_
      refine w_region ?_
      refine st (s_faddr fld52_0 rfl ?_)
      refine st (s_load one4 rfl ((hB5.gne k21 (by omega)).g0 k22).range (j := 0) rfl ?_)
      refine st (s_move rfl ?_)
      refine st (s_call fn83 rfl (signed_any (m := nv (ml m) - nv (ml n)) (hS12).none (by first | omega | exact shlN_nn (by omega) | exact shrN_nn (by first | omega | exact nv_nonneg (lim_tl _)) | exact nv_nonneg (lim_tl _))) ?_)
      rintro _ w23 ⟨hq7, v13, rfl, hS13⟩
      have k23 := grown_of_below hq7 none
      have hz9 := hq7.size
      have hb21 := below_g0 hb20 k23
      have hz10 := hb21.size
      refine st0 (s_storeN row52 rfl rfl (((((hB3.g0 k19).gne k20 (by omega)).gne k21 (by omega)).g0 k22).g0 k23) (by simp only [List.all_cons, List.all_nil, hS13.one, Bool.and_true, Bool.and_self] <;> rfl) rfl rfl ?_)
      intro w24 hB7 k24 hs8
      have hb22 := below_g hb21 k24 (by omega)
      refine r_end ?_
      refine n_then ?_
      refine w_retc1 rfl row52 rfl hB7.range rfl ?_
      exact ⟨_, rfl, hb22, big_of ((sg_sub (fun e => by rw [e, beq_self_eq_true] at h1; cases h1) (Int.le_of_lt hc2)).trans (Int.add_comm m n)) ((hS13.gB k24 (((((hB3.g0 k19).gne k20 (by omega)).gne k21 (by omega)).g0 k22).g0 k23) rfl)).none⟩
    · have hc2 := cmpI_nneg h2
      refine w_skip' ?_
      refine n_then ?_
      refine w_seq ?_
      refine w_region ?_
      refine st (s_faddr fld52_1 rfl ?_)
      refine st (s_load one32 rfl (((hB1.g0 k2).g0 k3).g0 k19).range (j := 1) rfl ?_)
      refine st (s_faddr fld52_1 rfl ?_)
      refine st (s_load one32 rfl ((hB2.g0 k3).g0 k19).range (j := 1) rfl ?_)
      refine st (s_call fn23 rfl (sub_any ((ha.at0 hb17)).none ((hb.at0 hb17)).none (by first | omega | (simp; done) | (simp; omega)) (by first | omega | (simp; done) | (simp; omega))) ?_)
      rintro _ w25 ⟨hq8, v14, rfl, hS14⟩
      have k25 := grown_of_below hq8 none
      have hz11 := hq8.size
      have hb23 := below_g0 hb17 k25
      have hz12 := hb23.size
      refine st (s_move rfl ?_)
      refine st (s_extract rfl rfl ?_)
      refine st (s_extract rfl rfl ?_)
      refine st (s_assign rfl ?_)
      refine st (s_assign rfl ?_)
      refine r_end ?_
      refine n_then ?_
      refine w_seq ?_
      refine w_region ?_
      refine st (s_faddr fld52_0 rfl ?_)
      refine st (s_load one4 rfl ((((hB1.g0 k2).g0 k3).g0 k19).g0 k25).range (j := 0) rfl ?_)
      refine st (s_move rfl ?_)
      refine st (s_call fn83 rfl (signed_any (m := nv (ml n) - nv (ml m)) (hS14).none (by first | omega | exact shlN_nn (by omega) | exact shrN_nn (by first | omega | exact nv_nonneg (lim_tl _)) | exact nv_nonneg (lim_tl _))) ?_)
      rintro _ w26 ⟨hq9, v15, rfl, hS15⟩
      have k26 := grown_of_below hq9 none
      have hz13 := hq9.size
      have hb24 := below_g0 hb23 k26
      have hz14 := hb24.size
      refine st0 (s_storeN row52 rfl rfl (((hB3.g0 k19).g0 k25).g0 k26) (by simp only [List.all_cons, List.all_nil, hS15.one, Bool.and_true, Bool.and_self] <;> rfl) rfl rfl ?_)
      intro w27 hB8 k27 hs9
      have hb25 := below_g hb24 k27 (by omega)
      refine r_end ?_
      refine n_then ?_
      refine w_retc1 rfl row52 rfl hB8.range rfl ?_
      exact ⟨_, rfl, hb25, big_of (sg_sub (fun e => by rw [e, beq_self_eq_true] at h1; cases h1) hc2) ((hS15.gB k27 (((hB3.g0 k19).g0 k25).g0 k26) rfl)).none⟩

theorem badd_any {w : World}  {vn : Value} {n : Int} {vm : Value} {m : Int} (hn : IsBig w vn n) (hm : IsBig w vm m) (hbn : Bd 90000 n) (hbm : Bd 90000 m)  :
    Calls Try.prog 58 [vn, vm].toArray w (Pure w fun v W => IsBig W v (n + m)) := by
  obtain ⟨sn, rfl, kn⟩ := hn
  obtain ⟨sm, rfl, km⟩ := hm
  exact badd_any0 kn km hbn hbm

theorem bsub_any0 {w : World}  {a : Value} {n : Int} {b : Value} {m : Int} (ha : Sl Kd.u32 w (fun _ => False) a (ml n)) (hb : Sl Kd.u32 w (fun _ => False) b (ml m)) (hbn : Bd 90000 n) (hbm : Bd 90000 m)  :
    Calls Try.prog 60 [.agg [.bool (decide (n < 0)), a].toArray, .agg [.bool (decide (m < 0)), b].toArray].toArray w (Pure w fun v W => IsBig W v (n - m)) := by
  have hb0 := Below.refl w.heap.size w
  have hln := bd_len hbn
  have hlm := bd_len hbm
  have hnn := nv_ml n
  have hnm := nv_ml m
  refine enter Try.func60 rfl rfl ?_
  refine w_seq ?_
  refine w_region ?_
  refine st (s_box rfl ?_)
  intro g1 w1 hg1 hB1 k1 hs1
  change Blk w1 g1 52 [.bool (decide (n < 0)), a].toArray at hB1
  have hb1 := below_g0 hb0 k1
  refine st (s_box rfl ?_)
  intro g2 w2 hg2 hB2 k2 hs2
  change Blk w2 g2 52 [.bool (decide (m < 0)), b].toArray at hB2
  have hb2 := below_g0 hb1 k2
  refine st (s_alloc zero52 ?_)
  intro g3 w3 hg3 hB3 k3 hs3
  have hb3 := below_g0 hb2 k3
  refine r_end ?_
  refine n_then ?_
  refine w_seq ?_
  refine w_draw 4 (fun a b => a.grownBy b none) [(some 5, fun v _ => v = .agg [.bool (decide (n < 0)), a].toArray), (some 6, fun v _ => v = .agg [.bool (decide (m < 0)), b].toArray), (some 7, fun v W => IsBig W v ((-m))), (some 8, fun v W => IsBig W v ((n + (-m))))] [[], [], [1], [0, 2]] [(2, .pointer (some ⟨g1, 0, none⟩)), (3, .pointer (some ⟨g2, 0, none⟩)), (4, .pointer (some ⟨g3, 0, none⟩))] (by exact ⟨rfl, rfl, rfl, trivial⟩) (by kernel_rfl) (by kernel_rfl) grown_none_refl (fun _ _ _ => grown_none_trans) ⟨fun _ _ _ h _ => h, fun _ _ _ h _ => h, fun _ _ _ h k => h.g0 k, fun _ _ _ h k => h.g0 k, trivial⟩ ?_
  intro w6 k6 hs4
  have hb4 := below_g0 hb3 k6
  refine ⟨⟨?_, ?_, ?_, ?_, trivial⟩, ?_⟩
  · intro w7 k7
    have hb5 := below_g0 hb4 k7
    refine op1 (s_loadW row52 rfl ((((hB1.g0 k2).g0 k3).g0 k6).g0 k7).range rfl ?_)
    exact ⟨rfl, grown_none_refl _⟩
  · intro w8 k8
    have hb6 := below_g0 hb4 k8
    refine op1 (s_loadW row52 rfl (((hB2.g0 k3).g0 k6).g0 k8).range rfl ?_)
    exact ⟨rfl, grown_none_refl _⟩
  · intro w9 k9
    have hb7 := below_g0 hb4 k9
    rintro _ rfl
    refine op1 (s_call fn62 rfl (minus_any (big_of rfl ((hb.at0 hb7)).none)) ?_)
    rintro _ w10 ⟨hq3, v3, rfl, hS3⟩
    have k10 := grown_of_below hq3 none
    have hz1 := hq3.size
    have hb8 := below_g0 hb7 k10
    have hz2 := hb8.size
    exact ⟨⟨_, rfl, hS3⟩, k10⟩
  · intro w11 k11
    have hb9 := below_g0 hb4 k11
    rintro _ rfl
    rintro _ ⟨v4, rfl, hS4⟩
    refine op1 (s_call fn58 rfl (badd_any (big_of rfl ((ha.at0 hb9)).none) (big_of rfl (hS4).none) (Bd.le hbn (show 90000 ≤ 90000 by decide)) (Bd.le (bd_neg hbm) (show 90000 ≤ 90000 by decide))) ?_)
    rintro _ w12 ⟨hq4, v5, rfl, hS5⟩
    have k12 := grown_of_below hq4 none
    have hz3 := hq4.size
    have hb10 := below_g0 hb9 k12
    have hz4 := hb10.size
    exact ⟨⟨_, rfl, hS5⟩, k12⟩
  · intro w13 k13
    have hb11 := below_g0 hb4 k13
    rintro _ rfl
    rintro _ rfl
    rintro _ ⟨v6, rfl, hS6⟩
    rintro _ ⟨v7, rfl, hS7⟩
    refine st0 (s_storeN row52 rfl rfl ((hB3.g0 k6).g0 k13) (by simp only [List.all_cons, List.all_nil, hS7.one, Bool.and_true, Bool.and_self] <;> rfl) rfl rfl ?_)
    intro w14 hB4 k14 hs5
    have hb12 := below_g hb11 k14 (by omega)
    refine r_end ?_
    refine n_then ?_
    refine w_retc1 rfl row52 rfl hB4.range rfl ?_
    exact ⟨_, rfl, hb12, big_of (by omega) ((hS7.gB k14 ((hB3.g0 k6).g0 k13) rfl)).none⟩

theorem bsub_any {w : World}  {vn : Value} {n : Int} {vm : Value} {m : Int} (hn : IsBig w vn n) (hm : IsBig w vm m) (hbn : Bd 90000 n) (hbm : Bd 90000 m)  :
    Calls Try.prog 60 [vn, vm].toArray w (Pure w fun v W => IsBig W v (n - m)) := by
  obtain ⟨sn, rfl, kn⟩ := hn
  obtain ⟨sm, rfl, km⟩ := hm
  exact bsub_any0 kn km hbn hbm

theorem bcmp_any0 {w : World}  {a : Value} {n : Int} {b : Value} {m : Int} (ha : Sl Kd.u32 w (fun _ => False) a (ml n)) (hb : Sl Kd.u32 w (fun _ => False) b (ml m))  :
    Calls Try.prog 64 [.agg [.bool (decide (n < 0)), a].toArray, .agg [.bool (decide (m < 0)), b].toArray].toArray w (Pure w fun v _ => v = .int .i64 (cmpI n m)) := by
  have hb0 := Below.refl w.heap.size w
  have hnn := nv_ml n
  have hnm := nv_ml m
  refine enter Try.func64 rfl rfl ?_
  refine w_seq ?_
  refine w_region ?_
  refine st (s_box rfl ?_)
  intro g1 w1 hg1 hB1 k1 hs1
  change Blk w1 g1 52 [.bool (decide (n < 0)), a].toArray at hB1
  have hb1 := below_g0 hb0 k1
  refine st (s_box rfl ?_)
  intro g2 w2 hg2 hB2 k2 hs2
  change Blk w2 g2 52 [.bool (decide (m < 0)), b].toArray at hB2
  have hb2 := below_g0 hb1 k2
  refine st (s_assign rfl ?_)
  refine r_end ?_
  refine n_then ?_
  refine w_seq ?_
  refine w_block ?_
  refine w_seq ?_
  refine w_region ?_
  refine st (s_faddr fld52_0 rfl ?_)
  refine st (s_load one4 rfl (hB1.g0 k2).range (j := 0) rfl ?_)
  refine st (s_move rfl ?_)
  refine r_caseP 8 rfl (fun h1 => ?_) (fun h1 => ?_)
  · refine stg (s_faddr fld52_0 rfl ?_)
    refine stg (s_load one4 rfl hB2.range (j := 0) rfl ?_)
    refine st (s_pick rfl rfl ?_)
    refine st (s_assign rfl ?_)
    refine r_end ?_
    refine n_then ?_
    refine w_condP rfl (fun h2 => ?_) (fun h2 => ?_)
    · refine w_seq ?_
      refine w_region ?_
      refine st (s_faddr fld52_1 rfl ?_)
      refine st (s_load one32 rfl hB2.range (j := 1) rfl ?_)
      refine st (s_faddr fld52_1 rfl ?_)
      refine st (s_load one32 rfl (hB1.g0 k2).range (j := 1) rfl ?_)
      refine st (s_call fn28 rfl (cmp_any ((hb.at0 hb2)).none ((ha.at0 hb2)).none) ?_)
      rintro _ w3 ⟨hq1, rfl⟩
      have k3 := grown_of_below hq1 none
      have hz1 := hq1.size
      have hb3 := below_g0 hb2 k3
      have hz2 := hb3.size
      refine st (s_assign rfl ?_)
      refine r_end ?_
      refine n_then ?_
      refine w_ret1 rfl rfl ?_
      exact ⟨_, rfl, hb3, congrArg (Value.int .i64) (cmpI_swap (by omega))⟩
    · refine w_seq ?_
      refine w_region ?_
      refine st (s_faddr fld52_0 rfl ?_)
      refine st (s_load one4 rfl (hB1.g0 k2).range (j := 0) rfl ?_)
      refine st (s_assign rfl ?_)
      refine r_end ?_
      refine n_then ?_
      refine w_condP rfl (fun h3 => ?_) (fun h3 => ?_)
      · refine w_seq ?_
        refine w_region ?_
        refine st (s_assign rfl ?_)
        refine r_end ?_
        refine n_then ?_
        refine w_ret1 rfl rfl ?_
        exact ⟨_, rfl, hb2, congrArg (Value.int .i64) ((cmpI_lt (by omega)).symm)⟩
      · refine w_seq ?_
        refine w_region ?_
        refine st (s_faddr fld52_0 rfl ?_)
        refine st (s_load one4 rfl hB2.range (j := 0) rfl ?_)
        refine st (s_assign rfl ?_)
        refine r_end ?_
        refine n_then ?_
        refine w_condP rfl (fun h4 => ?_) (fun h4 => ?_)
        · refine w_seq ?_
          refine w_region ?_
          refine st (s_assign rfl ?_)
          refine r_end ?_
          refine n_then ?_
          refine w_ret1 rfl rfl ?_
          exact ⟨_, rfl, hb2, congrArg (Value.int .i64) ((cmpI_gt (by omega)).symm)⟩
        · refine w_skip' ?_
          refine n_block ?_
          refine n_then ?_
          refine w_seq ?_
          refine w_region ?_
          refine st (s_faddr fld52_1 rfl ?_)
          refine st (s_load one32 rfl (hB1.g0 k2).range (j := 1) rfl ?_)
          refine st (s_faddr fld52_1 rfl ?_)
          refine st (s_load one32 rfl hB2.range (j := 1) rfl ?_)
          refine st (s_call fn28 rfl (cmp_any ((ha.at0 hb2)).none ((hb.at0 hb2)).none) ?_)
          rintro _ w4 ⟨hq2, rfl⟩
          have k4 := grown_of_below hq2 none
          have hz3 := hq2.size
          have hb4 := below_g0 hb2 k4
          have hz4 := hb4.size
          refine st (s_assign rfl ?_)
          refine r_end ?_
          refine n_then ?_
          refine w_ret1 rfl rfl ?_
          exact ⟨_, rfl, hb4, congrArg (Value.int .i64) (cmpI_swap (by omega))⟩
  · refine s_pass rfl rfl ?_
    refine s_pass rfl rfl ?_
    refine st (s_pick rfl rfl ?_)
    refine st (s_assign rfl ?_)
    refine r_end ?_
    refine n_then ?_
    refine w_condF rfl ?_
    refine w_seq ?_
    refine w_region ?_
    refine st (s_faddr fld52_0 rfl ?_)
    refine st (s_load one4 rfl (hB1.g0 k2).range (j := 0) rfl ?_)
    refine st (s_assign rfl ?_)
    refine r_end ?_
    refine n_then ?_
    refine w_condP rfl (fun h5 => ?_) (fun h5 => ?_)
    · refine w_seq ?_
      refine w_region ?_
      refine st (s_assign rfl ?_)
      refine r_end ?_
      refine n_then ?_
      refine w_ret1 rfl rfl ?_
      exact ⟨_, rfl, hb2, congrArg (Value.int .i64) ((cmpI_lt (by omega)).symm)⟩
    · refine w_seq ?_
      refine w_region ?_
      refine st (s_faddr fld52_0 rfl ?_)
      refine st (s_load one4 rfl hB2.range (j := 0) rfl ?_)
      refine st (s_assign rfl ?_)
      refine r_end ?_
      refine n_then ?_
      refine w_condP rfl (fun h6 => ?_) (fun h6 => ?_)
      · refine w_seq ?_
        refine w_region ?_
        refine st (s_assign rfl ?_)
        refine r_end ?_
        refine n_then ?_
        refine w_ret1 rfl rfl ?_
        exact ⟨_, rfl, hb2, congrArg (Value.int .i64) ((cmpI_gt (by omega)).symm)⟩
      · refine w_skip' ?_
        refine n_block ?_
        refine n_then ?_
        refine w_seq ?_
        refine w_region ?_
        refine st (s_faddr fld52_1 rfl ?_)
        refine st (s_load one32 rfl (hB1.g0 k2).range (j := 1) rfl ?_)
        refine st (s_faddr fld52_1 rfl ?_)
        refine st (s_load one32 rfl hB2.range (j := 1) rfl ?_)
        refine st (s_call fn28 rfl (cmp_any ((ha.at0 hb2)).none ((hb.at0 hb2)).none) ?_)
        rintro _ w5 ⟨hq3, rfl⟩
        have k5 := grown_of_below hq3 none
        have hz5 := hq3.size
        have hb5 := below_g0 hb2 k5
        have hz6 := hb5.size
        refine st (s_assign rfl ?_)
        refine r_end ?_
        refine n_then ?_
        refine w_ret1 rfl rfl ?_
        exact ⟨_, rfl, hb5, congrArg (Value.int .i64) (cmpI_swap (by omega))⟩

theorem bcmp_any {w : World}  {vn : Value} {n : Int} {vm : Value} {m : Int} (hn : IsBig w vn n) (hm : IsBig w vm m)  :
    Calls Try.prog 64 [vn, vm].toArray w (Pure w fun v _ => v = .int .i64 (cmpI n m)) := by
  obtain ⟨sn, rfl, kn⟩ := hn
  obtain ⟨sm, rfl, km⟩ := hm
  exact bcmp_any0 kn km

theorem bshl_any0 {w : World} {k : Int} {a : Value} {n : Int} (ha : Sl Kd.u32 w (fun _ => False) a (ml n)) (hbn : Bd 90000 n)  :
    Calls Try.prog 66 [.agg [.bool (decide (n < 0)), a].toArray, .int .i64 k].toArray w (Pure w fun v W => IsBig W v (shlN n k)) := by
  have hb0 := Below.refl w.heap.size w
  have hln := bd_len hbn
  have hnn := nv_ml n
  refine enter Try.func66 rfl rfl ?_
  refine w_seq ?_
  refine w_region ?_
  refine st (s_box rfl ?_)
  intro g1 w1 hg1 hB1 k1 hs1
  change Blk w1 g1 52 [.bool (decide (n < 0)), a].toArray at hB1
  have hb1 := below_g0 hb0 k1
  refine st (s_alloc zero52 ?_)
  intro g2 w2 hg2 hB2 k2 hs2
  have hb2 := below_g0 hb1 k2
  refine r_end ?_
  refine n_then ?_
  refine w_seq ?_
  refine w_draw 7 (fun a b => a.grownBy b none) [(some 5, fun v _ => v = .pointer (some ⟨g1, 0 + 0, none⟩)), (some 6, fun v _ => v = .bool (decide (n < 0))), (some 7, fun v _ => v = .pointer (some ⟨g1, 0 + 1, none⟩)), (some 8, fun v _ => Sl Kd.u32 w (fun _ => False) v (ml n)), (some 9, fun v _ => v = .int .i64 k), (some 10, fun v W => Sl Kd.u32 W (fun _ => False) v (shlL (ml n) k)), (some 11, fun v W => IsBig W v (sg (decide (n < 0)) (shlN (nv (ml n)) k)))] [[], [0], [], [2], [], [3, 4], [1, 5]] [(1, .int .i64 k), (2, .pointer (some ⟨g1, 0, none⟩)), (4, .pointer (some ⟨g2, 0, none⟩))] (by exact ⟨rfl, rfl, rfl, trivial⟩) (by kernel_rfl) (by kernel_rfl) grown_none_refl (fun _ _ _ => grown_none_trans) ⟨fun _ _ _ h _ => h, fun _ _ _ h _ => h, fun _ _ _ h _ => h, fun _ _ _ h _ => h, fun _ _ _ h _ => h, fun _ _ _ h k => h.g0 k, fun _ _ _ h k => h.g0 k, trivial⟩ ?_
  intro w5 k5 hs3
  have hb3 := below_g0 hb2 k5
  refine ⟨⟨?_, ?_, ?_, ?_, ?_, ?_, ?_, trivial⟩, ?_⟩
  · intro w6 k6
    have hb4 := below_g0 hb3 k6
    refine op1 (s_faddr fld52_0 rfl ?_)
    exact ⟨rfl, grown_none_refl _⟩
  · intro w7 k7
    have hb5 := below_g0 hb3 k7
    rintro _ rfl
    refine op1 (s_load one4 rfl (((hB1.g0 k2).g0 k5).g0 k7).range (j := 0) rfl ?_)
    exact ⟨rfl, grown_none_refl _⟩
  · intro w8 k8
    have hb6 := below_g0 hb3 k8
    refine op1 (s_faddr fld52_1 rfl ?_)
    exact ⟨rfl, grown_none_refl _⟩
  · intro w9 k9
    have hb7 := below_g0 hb3 k9
    rintro _ rfl
    refine op1 (s_load one32 rfl (((hB1.g0 k2).g0 k5).g0 k9).range (j := 1) rfl ?_)
    exact ⟨ha, grown_none_refl _⟩
  · intro w10 k10
    have hb8 := below_g0 hb3 k10
    refine op1 (s_move rfl ?_)
    exact ⟨rfl, grown_none_refl _⟩
  · intro w11 k11
    have hb9 := below_g0 hb3 k11
    intro v3 hS3
    rintro _ rfl
    refine op1 (s_call fn30 rfl (shl_any ((hS3.at0 hb9)).none (by first | omega | (simp; done) | (simp; omega))) ?_)
    rintro v4 w12 ⟨hq3, hS4⟩
    have k12 := grown_of_below hq3 none
    have hz1 := hq3.size
    have hb10 := below_g0 hb9 k12
    have hz2 := hb10.size
    exact ⟨hS4, k12⟩
  · intro w13 k13
    have hb11 := below_g0 hb3 k13
    rintro _ rfl
    intro v5 hS5
    refine op1 (s_call fn83 rfl (signed_any (m := shlN (nv (ml n)) k) (by have h9 := (hS5).none; rw [shlL_tl] at h9; exact h9) (by first | omega | exact shlN_nn (by omega) | exact shrN_nn (by first | omega | exact nv_nonneg (lim_tl _)) | exact nv_nonneg (lim_tl _))) ?_)
    rintro _ w14 ⟨hq4, v6, rfl, hS6⟩
    have k14 := grown_of_below hq4 none
    have hz3 := hq4.size
    have hb12 := below_g0 hb11 k14
    have hz4 := hb12.size
    exact ⟨⟨_, rfl, hS6⟩, k14⟩
  · intro w15 k15
    have hb13 := below_g0 hb3 k15
    rintro _ rfl
    rintro _ rfl
    rintro _ rfl
    intro v7 hS7
    rintro _ rfl
    intro v8 hS8
    rintro _ ⟨v9, rfl, hS9⟩
    refine st0 (s_storeN row52 rfl rfl ((hB2.g0 k5).g0 k15) (by simp only [List.all_cons, List.all_nil, hS9.one, Bool.and_true, Bool.and_self] <;> rfl) rfl rfl ?_)
    intro w16 hB3 k16 hs4
    have hb14 := below_g hb13 k16 (by omega)
    refine r_end ?_
    refine n_then ?_
    refine w_retc1 rfl row52 rfl hB3.range rfl ?_
    exact ⟨_, rfl, hb14, big_of (sg_shl n k) ((hS9.gB k16 ((hB2.g0 k5).g0 k15) rfl)).none⟩

theorem bshl_any {w : World} {k : Int} {vn : Value} {n : Int} (hn : IsBig w vn n) (hbn : Bd 90000 n)  :
    Calls Try.prog 66 [vn, .int .i64 k].toArray w (Pure w fun v W => IsBig W v (shlN n k)) := by
  obtain ⟨sn, rfl, kn⟩ := hn
  exact bshl_any0 kn hbn

theorem bshr_any0 {w : World} {k : Int} {a : Value} {n : Int} (ha : Sl Kd.u32 w (fun _ => False) a (ml n)) (hbn : Bd 90000 n)  :
    Calls Try.prog 68 [.agg [.bool (decide (n < 0)), a].toArray, .int .i64 k].toArray w (Pure w fun v W => IsBig W v (shrN n k)) := by
  have hb0 := Below.refl w.heap.size w
  have hln := bd_len hbn
  have hnn := nv_ml n
  refine enter Try.func68 rfl rfl ?_
  refine w_seq ?_
  refine w_region ?_
  refine st (s_box rfl ?_)
  intro g1 w1 hg1 hB1 k1 hs1
  change Blk w1 g1 52 [.bool (decide (n < 0)), a].toArray at hB1
  have hb1 := below_g0 hb0 k1
  refine st (s_alloc zero52 ?_)
  intro g2 w2 hg2 hB2 k2 hs2
  have hb2 := below_g0 hb1 k2
  refine r_end ?_
  refine n_then ?_
  refine w_seq ?_
  refine w_seq ?_
  refine w_region ?_
  refine st (s_faddr fld52_0 rfl ?_)
  refine st (s_load one4 rfl (hB1.g0 k2).range (j := 0) rfl ?_)
  refine st (s_notP rfl ?_)
  refine st (s_move rfl ?_)
  refine r_caseP 10 rfl (fun h1 => ?_) (fun h1 => ?_)
  · refine s_pass rfl rfl ?_
    refine s_pass rfl rfl ?_
    refine st (s_pick rfl rfl ?_)
    refine st (s_move rfl ?_)
    refine s_pass rfl rfl ?_
    refine s_pass rfl rfl ?_
    refine st (s_pick rfl rfl ?_)
    refine r_end ?_
    refine n_then ?_
    refine w_condT rfl ?_
    refine w_seq ?_
    refine w_draw 7 (fun a b => a.grownBy b none) [(some 18, fun v _ => v = .pointer (some ⟨g1, 0 + 0, none⟩)), (some 19, fun v _ => v = .bool (decide (n < 0))), (some 20, fun v _ => v = .pointer (some ⟨g1, 0 + 1, none⟩)), (some 21, fun v _ => Sl Kd.u32 w (fun _ => False) v (ml n)), (some 22, fun v _ => v = .int .i64 k), (some 23, fun v W => Sl Kd.u32 W (fun _ => False) v (shrL (ml n) k)), (some 24, fun v W => IsBig W v (sg (decide (n < 0)) (shrN (nv (ml n)) k)))] [[], [0], [], [2], [], [3, 4], [1, 5]] [(1, .int .i64 k), (2, .pointer (some ⟨g1, 0, none⟩)), (4, .pointer (some ⟨g2, 0, none⟩))] (by exact ⟨rfl, rfl, rfl, trivial⟩) (by kernel_rfl) (by kernel_rfl) grown_none_refl (fun _ _ _ => grown_none_trans) ⟨fun _ _ _ h _ => h, fun _ _ _ h _ => h, fun _ _ _ h _ => h, fun _ _ _ h _ => h, fun _ _ _ h _ => h, fun _ _ _ h k => h.g0 k, fun _ _ _ h k => h.g0 k, trivial⟩ ?_
    intro w5 k5 hs3
    have hb3 := below_g0 hb2 k5
    refine ⟨⟨?_, ?_, ?_, ?_, ?_, ?_, ?_, trivial⟩, ?_⟩
    · intro w6 k6
      have hb4 := below_g0 hb3 k6
      refine op1 (s_faddr fld52_0 rfl ?_)
      exact ⟨rfl, grown_none_refl _⟩
    · intro w7 k7
      have hb5 := below_g0 hb3 k7
      rintro _ rfl
      refine op1 (s_load one4 rfl (((hB1.g0 k2).g0 k5).g0 k7).range (j := 0) rfl ?_)
      exact ⟨rfl, grown_none_refl _⟩
    · intro w8 k8
      have hb6 := below_g0 hb3 k8
      refine op1 (s_faddr fld52_1 rfl ?_)
      exact ⟨rfl, grown_none_refl _⟩
    · intro w9 k9
      have hb7 := below_g0 hb3 k9
      rintro _ rfl
      refine op1 (s_load one32 rfl (((hB1.g0 k2).g0 k5).g0 k9).range (j := 1) rfl ?_)
      exact ⟨ha, grown_none_refl _⟩
    · intro w10 k10
      have hb8 := below_g0 hb3 k10
      refine op1 (s_move rfl ?_)
      exact ⟨rfl, grown_none_refl _⟩
    · intro w11 k11
      have hb9 := below_g0 hb3 k11
      intro v3 hS3
      rintro _ rfl
      refine op1 (s_call fn32 rfl (shr_any ((hS3.at0 hb9)).none (by first | omega | (simp; done) | (simp; omega))) ?_)
      rintro v4 w12 ⟨hq3, hS4⟩
      have k12 := grown_of_below hq3 none
      have hz1 := hq3.size
      have hb10 := below_g0 hb9 k12
      have hz2 := hb10.size
      exact ⟨hS4, k12⟩
    · intro w13 k13
      have hb11 := below_g0 hb3 k13
      rintro _ rfl
      intro v5 hS5
      refine op1 (s_call fn83 rfl (signed_any (m := shrN (nv (ml n)) k) (by have h9 := (hS5).none; rw [shrL_tl] at h9; exact h9) (by first | omega | exact shlN_nn (by omega) | exact shrN_nn (by first | omega | exact nv_nonneg (lim_tl _)) | exact nv_nonneg (lim_tl _))) ?_)
      rintro _ w14 ⟨hq4, v6, rfl, hS6⟩
      have k14 := grown_of_below hq4 none
      have hz3 := hq4.size
      have hb12 := below_g0 hb11 k14
      have hz4 := hb12.size
      exact ⟨⟨_, rfl, hS6⟩, k14⟩
    · intro w15 k15
      have hb13 := below_g0 hb3 k15
      rintro _ rfl
      rintro _ rfl
      rintro _ rfl
      intro v7 hS7
      rintro _ rfl
      intro v8 hS8
      rintro _ ⟨v9, rfl, hS9⟩
      refine st0 (s_storeN row52 rfl rfl ((hB2.g0 k5).g0 k15) (by simp only [List.all_cons, List.all_nil, hS9.one, Bool.and_true, Bool.and_self] <;> rfl) rfl rfl ?_)
      intro w16 hB3 k16 hs4
      have hb14 := below_g hb13 k16 (by omega)
      refine r_end ?_
      refine n_then ?_
      refine w_retc1 rfl row52 rfl hB3.range rfl ?_
      exact ⟨_, rfl, hb14, big_of (sg_shr h1) ((hS9.gB k16 ((hB2.g0 k5).g0 k15) rfl)).none⟩
  · refine stg (s_move rfl ?_)
    refine stg (s_lt rfl rfl ?_)
    refine st (s_pick rfl rfl ?_)
    refine st (s_move rfl ?_)
    refine r_caseP 14 rfl (fun h2 => ?_) (fun h2 => ?_)
    · refine s_pass rfl rfl ?_
      refine s_pass rfl rfl ?_
      refine st (s_pick rfl rfl ?_)
      refine r_end ?_
      refine n_then ?_
      refine w_condT rfl ?_
      refine w_seq ?_
      refine w_draw 7 (fun a b => a.grownBy b none) [(some 18, fun v _ => v = .pointer (some ⟨g1, 0 + 0, none⟩)), (some 19, fun v _ => v = .bool (decide (n < 0))), (some 20, fun v _ => v = .pointer (some ⟨g1, 0 + 1, none⟩)), (some 21, fun v _ => Sl Kd.u32 w (fun _ => False) v (ml n)), (some 22, fun v _ => v = .int .i64 k), (some 23, fun v W => Sl Kd.u32 W (fun _ => False) v (shrL (ml n) k)), (some 24, fun v W => IsBig W v (sg (decide (n < 0)) (shrN (nv (ml n)) k)))] [[], [0], [], [2], [], [3, 4], [1, 5]] [(1, .int .i64 k), (2, .pointer (some ⟨g1, 0, none⟩)), (4, .pointer (some ⟨g2, 0, none⟩))] (by exact ⟨rfl, rfl, rfl, trivial⟩) (by kernel_rfl) (by kernel_rfl) grown_none_refl (fun _ _ _ => grown_none_trans) ⟨fun _ _ _ h _ => h, fun _ _ _ h _ => h, fun _ _ _ h _ => h, fun _ _ _ h _ => h, fun _ _ _ h _ => h, fun _ _ _ h k => h.g0 k, fun _ _ _ h k => h.g0 k, trivial⟩ ?_
      intro w19 k19 hs5
      have hb15 := below_g0 hb2 k19
      refine ⟨⟨?_, ?_, ?_, ?_, ?_, ?_, ?_, trivial⟩, ?_⟩
      · intro w20 k20
        have hb16 := below_g0 hb15 k20
        refine op1 (s_faddr fld52_0 rfl ?_)
        exact ⟨rfl, grown_none_refl _⟩
      · intro w21 k21
        have hb17 := below_g0 hb15 k21
        rintro _ rfl
        refine op1 (s_load one4 rfl (((hB1.g0 k2).g0 k19).g0 k21).range (j := 0) rfl ?_)
        exact ⟨rfl, grown_none_refl _⟩
      · intro w22 k22
        have hb18 := below_g0 hb15 k22
        refine op1 (s_faddr fld52_1 rfl ?_)
        exact ⟨rfl, grown_none_refl _⟩
      · intro w23 k23
        have hb19 := below_g0 hb15 k23
        rintro _ rfl
        refine op1 (s_load one32 rfl (((hB1.g0 k2).g0 k19).g0 k23).range (j := 1) rfl ?_)
        exact ⟨ha, grown_none_refl _⟩
      · intro w24 k24
        have hb20 := below_g0 hb15 k24
        refine op1 (s_move rfl ?_)
        exact ⟨rfl, grown_none_refl _⟩
      · intro w25 k25
        have hb21 := below_g0 hb15 k25
        intro v12 hS12
        rintro _ rfl
        refine op1 (s_call fn32 rfl (shr_any ((hS12.at0 hb21)).none (by first | omega | (simp; done) | (simp; omega))) ?_)
        rintro v13 w26 ⟨hq7, hS13⟩
        have k26 := grown_of_below hq7 none
        have hz5 := hq7.size
        have hb22 := below_g0 hb21 k26
        have hz6 := hb22.size
        exact ⟨hS13, k26⟩
      · intro w27 k27
        have hb23 := below_g0 hb15 k27
        rintro _ rfl
        intro v14 hS14
        refine op1 (s_call fn83 rfl (signed_any (m := shrN (nv (ml n)) k) (by have h9 := (hS14).none; rw [shrL_tl] at h9; exact h9) (by first | omega | exact shlN_nn (by omega) | exact shrN_nn (by first | omega | exact nv_nonneg (lim_tl _)) | exact nv_nonneg (lim_tl _))) ?_)
        rintro _ w28 ⟨hq8, v15, rfl, hS15⟩
        have k28 := grown_of_below hq8 none
        have hz7 := hq8.size
        have hb24 := below_g0 hb23 k28
        have hz8 := hb24.size
        exact ⟨⟨_, rfl, hS15⟩, k28⟩
      · intro w29 k29
        have hb25 := below_g0 hb15 k29
        rintro _ rfl
        rintro _ rfl
        rintro _ rfl
        intro v16 hS16
        rintro _ rfl
        intro v17 hS17
        rintro _ ⟨v18, rfl, hS18⟩
        refine st0 (s_storeN row52 rfl rfl ((hB2.g0 k19).g0 k29) (by simp only [List.all_cons, List.all_nil, hS18.one, Bool.and_true, Bool.and_self] <;> rfl) rfl rfl ?_)
        intro w30 hB4 k30 hs6
        have hb26 := below_g hb25 k30 (by omega)
        refine r_end ?_
        refine n_then ?_
        refine w_retc1 rfl row52 rfl hB4.range rfl ?_
        exact ⟨_, rfl, hb26, big_of (shr_unfit (by omega)) ((hS18.gB k30 ((hB2.g0 k19).g0 k29) rfl)).none⟩
    · refine stg (s_move rfl ?_)
      refine stg (s_gt rfl rfl ?_)
      refine st (s_pick rfl rfl ?_)
      refine r_end ?_
      refine n_then ?_
      refine w_condP rfl (fun h3 => ?_) (fun h3 => ?_)
      · refine w_seq ?_
        refine w_draw 7 (fun a b => a.grownBy b none) [(some 18, fun v _ => v = .pointer (some ⟨g1, 0 + 0, none⟩)), (some 19, fun v _ => v = .bool (decide (n < 0))), (some 20, fun v _ => v = .pointer (some ⟨g1, 0 + 1, none⟩)), (some 21, fun v _ => Sl Kd.u32 w (fun _ => False) v (ml n)), (some 22, fun v _ => v = .int .i64 k), (some 23, fun v W => Sl Kd.u32 W (fun _ => False) v (shrL (ml n) k)), (some 24, fun v W => IsBig W v (sg (decide (n < 0)) (shrN (nv (ml n)) k)))] [[], [0], [], [2], [], [3, 4], [1, 5]] [(1, .int .i64 k), (2, .pointer (some ⟨g1, 0, none⟩)), (4, .pointer (some ⟨g2, 0, none⟩))] (by exact ⟨rfl, rfl, rfl, trivial⟩) (by kernel_rfl) (by kernel_rfl) grown_none_refl (fun _ _ _ => grown_none_trans) ⟨fun _ _ _ h _ => h, fun _ _ _ h _ => h, fun _ _ _ h _ => h, fun _ _ _ h _ => h, fun _ _ _ h _ => h, fun _ _ _ h k => h.g0 k, fun _ _ _ h k => h.g0 k, trivial⟩ ?_
        intro w33 k33 hs7
        have hb27 := below_g0 hb2 k33
        refine ⟨⟨?_, ?_, ?_, ?_, ?_, ?_, ?_, trivial⟩, ?_⟩
        · intro w34 k34
          have hb28 := below_g0 hb27 k34
          refine op1 (s_faddr fld52_0 rfl ?_)
          exact ⟨rfl, grown_none_refl _⟩
        · intro w35 k35
          have hb29 := below_g0 hb27 k35
          rintro _ rfl
          refine op1 (s_load one4 rfl (((hB1.g0 k2).g0 k33).g0 k35).range (j := 0) rfl ?_)
          exact ⟨rfl, grown_none_refl _⟩
        · intro w36 k36
          have hb30 := below_g0 hb27 k36
          refine op1 (s_faddr fld52_1 rfl ?_)
          exact ⟨rfl, grown_none_refl _⟩
        · intro w37 k37
          have hb31 := below_g0 hb27 k37
          rintro _ rfl
          refine op1 (s_load one32 rfl (((hB1.g0 k2).g0 k33).g0 k37).range (j := 1) rfl ?_)
          exact ⟨ha, grown_none_refl _⟩
        · intro w38 k38
          have hb32 := below_g0 hb27 k38
          refine op1 (s_move rfl ?_)
          exact ⟨rfl, grown_none_refl _⟩
        · intro w39 k39
          have hb33 := below_g0 hb27 k39
          intro v21 hS21
          rintro _ rfl
          refine op1 (s_call fn32 rfl (shr_any ((hS21.at0 hb33)).none (by first | omega | (simp; done) | (simp; omega))) ?_)
          rintro v22 w40 ⟨hq11, hS22⟩
          have k40 := grown_of_below hq11 none
          have hz9 := hq11.size
          have hb34 := below_g0 hb33 k40
          have hz10 := hb34.size
          exact ⟨hS22, k40⟩
        · intro w41 k41
          have hb35 := below_g0 hb27 k41
          rintro _ rfl
          intro v23 hS23
          refine op1 (s_call fn83 rfl (signed_any (m := shrN (nv (ml n)) k) (by have h9 := (hS23).none; rw [shrL_tl] at h9; exact h9) (by first | omega | exact shlN_nn (by omega) | exact shrN_nn (by first | omega | exact nv_nonneg (lim_tl _)) | exact nv_nonneg (lim_tl _))) ?_)
          rintro _ w42 ⟨hq12, v24, rfl, hS24⟩
          have k42 := grown_of_below hq12 none
          have hz11 := hq12.size
          have hb36 := below_g0 hb35 k42
          have hz12 := hb36.size
          exact ⟨⟨_, rfl, hS24⟩, k42⟩
        · intro w43 k43
          have hb37 := below_g0 hb27 k43
          rintro _ rfl
          rintro _ rfl
          rintro _ rfl
          intro v25 hS25
          rintro _ rfl
          intro v26 hS26
          rintro _ ⟨v27, rfl, hS27⟩
          refine st0 (s_storeN row52 rfl rfl ((hB2.g0 k33).g0 k43) (by simp only [List.all_cons, List.all_nil, hS27.one, Bool.and_true, Bool.and_self] <;> rfl) rfl rfl ?_)
          intro w44 hB5 k44 hs8
          have hb38 := below_g hb37 k44 (by omega)
          refine r_end ?_
          refine n_then ?_
          refine w_retc1 rfl row52 rfl hB5.range rfl ?_
          exact ⟨_, rfl, hb38, big_of (shr_unfit (by omega)) ((hS27.gB k44 ((hB2.g0 k33).g0 k43) rfl)).none⟩
      · refine w_skip' ?_
        refine n_then ?_
        refine w_seq ?_
        refine w_region ?_
        obtain ⟨hu1, hu2⟩ := up_len (n := k) (by omega) (by omega)
        have hu3 := add_len2 (k := 90316) (lim_ml n) (lim_tl (nv (shlL [1] k) - nv [1])) (by omega)
        refine st (s_bslice (ps := [(0, .const (.int .u32 1))]) (ccs := [#[.int .u32 1]]) (e := 44) (cells := [.int .u32 1]) rfl rfl (by kernel_rfl) (by decide) nz44 ?_)
        intro g3 w45 hg3 hB6 k45 hs9
        have hb39 := below_g0 hb2 k45
        have hz13 := hb39.size
        have hS28 := lit_u32s (F := fun _ => False) ([1] : List Int) hB6 (fun h => h) rfl (by first | decide | simp)
        refine st (s_move rfl ?_)
        refine st (s_call fn30 rfl (shl_any (hS28).none (by first | omega | (simp; done) | (simp; omega))) ?_)
        rintro v28 w46 ⟨hq13, hS29⟩
        have k46 := grown_of_below hq13 none
        have hz14 := hq13.size
        have hb40 := below_g0 hb39 k46
        have hz15 := hb40.size
        refine st (s_bslice (ps := [(0, .const (.int .u32 1))]) (ccs := [#[.int .u32 1]]) (e := 44) (cells := [.int .u32 1]) rfl rfl (by kernel_rfl) (by decide) nz44 ?_)
        intro g4 w47 hg4 hB7 k47 hs10
        have hb41 := below_g0 hb40 k47
        have hz16 := hb41.size
        have hS30 := lit_u32s (F := fun _ => False) ([1] : List Int) hB7 (fun h => h) rfl (by first | decide | simp)
        refine st (s_call fn23 rfl (sub_any ((hS29.g0 k47)).none (hS30).none (by first | omega | (simp; done) | (simp; omega)) (by first | omega | (simp; done) | (simp; omega))) ?_)
        rintro _ w48 ⟨hq14, v29, rfl, hS31⟩
        have k48 := grown_of_below hq14 none
        have hz17 := hq14.size
        have hb42 := below_g0 hb41 k48
        have hz18 := hb42.size
        refine st (s_move rfl ?_)
        refine st (s_extract rfl rfl ?_)
        refine st (s_extract rfl rfl ?_)
        refine st (s_assign rfl ?_)
        refine st (s_assign rfl ?_)
        refine r_end ?_
        refine n_then ?_
        refine w_seq ?_
        refine w_region ?_
        refine st (s_faddr fld52_1 rfl ?_)
        refine st (s_load one32 rfl (((((hB1.g0 k2).g0 k45).g0 k46).g0 k47).g0 k48).range (j := 1) rfl ?_)
        refine st (s_move rfl ?_)
        refine st (s_call fn26 rfl (add_any ((ha.at0 hb42)).none (hS31).none (by first | omega | (simp; done) | (simp; omega)) (by first | omega | (simp; done) | (simp; omega))) ?_)
        rintro v30 w49 ⟨hq15, hS32⟩
        have k49 := grown_of_below hq15 none
        have hz19 := hq15.size
        have hb43 := below_g0 hb42 k49
        have hz20 := hb43.size
        refine st (s_move rfl ?_)
        refine st (s_call fn32 rfl (shr_any (hS32).none (by first | omega | (simp; done) | (simp; omega))) ?_)
        rintro v31 w50 ⟨hq16, hS33⟩
        have k50 := grown_of_below hq16 none
        have hz21 := hq16.size
        have hb44 := below_g0 hb43 k50
        have hz22 := hb44.size
        refine st (s_call fn83 rfl (signed_any (m := shrN (nv (tl (nv (ml n) + nv (tl (nv (shlL ([1] : List Int) k) - nv ([1] : List Int)))))) k) (by have h9 := (hS33).none; rw [shrL_tl] at h9; exact h9) (by first | omega | exact shlN_nn (by omega) | exact shrN_nn (by first | omega | exact nv_nonneg (lim_tl _)) | exact nv_nonneg (lim_tl _))) ?_)
        rintro _ w51 ⟨hq17, v32, rfl, hS34⟩
        have k51 := grown_of_below hq17 none
        have hz23 := hq17.size
        have hb45 := below_g0 hb44 k51
        have hz24 := hb45.size
        refine st0 (s_storeN row52 rfl rfl (((((((hB2.g0 k45).g0 k46).g0 k47).g0 k48).g0 k49).g0 k50).g0 k51) (by simp only [List.all_cons, List.all_nil, hS34.one, Bool.and_true, Bool.and_self] <;> rfl) rfl rfl ?_)
        intro w52 hB8 k52 hs11
        have hb46 := below_g hb45 k52 (by omega)
        refine r_end ?_
        refine n_then ?_
        refine w_retc1 rfl row52 rfl hB8.range rfl ?_
        exact ⟨_, rfl, hb46, big_of (shr_negv (by omega) (by omega) (by omega)) ((hS34.gB k52 (((((((hB2.g0 k45).g0 k46).g0 k47).g0 k48).g0 k49).g0 k50).g0 k51) rfl)).none⟩

theorem bshr_any {w : World} {k : Int} {vn : Value} {n : Int} (hn : IsBig w vn n) (hbn : Bd 90000 n)  :
    Calls Try.prog 68 [vn, .int .i64 k].toArray w (Pure w fun v W => IsBig W v (shrN n k)) := by
  obtain ⟨sn, rfl, kn⟩ := hn
  exact bshr_any0 kn hbn

theorem bpow_any {w : World} {k : Int} :
    Calls Try.prog 55 [.int .i64 k].toArray w (Pure w fun v W => IsBig W v (shlN 1 k)) := by
  have hb0 := Below.refl w.heap.size w
  refine enter Try.func55 rfl rfl ?_
  refine w_seq ?_
  refine w_region ?_
  refine st (s_alloc zero52 ?_)
  intro g1 w1 hg1 hB1 k1 hs1
  have hb1 := below_g0 hb0 k1
  refine r_end ?_
  refine n_then ?_
  refine w_seq ?_
  refine w_region ?_
  refine st (s_bslice (ps := [(0, .const (.int .u32 1))]) (ccs := [#[.int .u32 1]]) (e := 44) (cells := [.int .u32 1]) rfl rfl (by kernel_rfl) (by decide) nz44 ?_)
  intro g2 w2 hg2 hB2 k2 hs2
  have hb2 := below_g0 hb1 k2
  have hz1 := hb2.size
  have hS1 := lit_u32s (F := fun _ => False) ([1] : List Int) hB2 (fun h => h) rfl (by first | decide | simp)
  refine st (s_move rfl ?_)
  refine st (s_call fn30 rfl (shl_any (hS1).none (by first | omega | (simp; done) | (simp; omega))) ?_)
  rintro v1 w3 ⟨hq1, hS2⟩
  have k3 := grown_of_below hq1 none
  have hz2 := hq1.size
  have hb3 := below_g0 hb2 k3
  have hz3 := hb3.size
  refine st (s_call fn83 rfl (signed_any (m := shlN (nv ([1] : List Int)) k) (by have h9 := (hS2).none; rw [shlL_tl] at h9; exact h9) (shlN_nn (by decide))) ?_)
  rintro _ w4 ⟨hq2, v2, rfl, hS3⟩
  have k4 := grown_of_below hq2 none
  have hz4 := hq2.size
  have hb4 := below_g0 hb3 k4
  have hz5 := hb4.size
  refine st0 (s_storeN row52 rfl rfl (((hB1.g0 k2).g0 k3).g0 k4) (by simp only [List.all_cons, List.all_nil, hS3.one, Bool.and_true, Bool.and_self] <;> rfl) rfl rfl ?_)
  intro w5 hB3 k5 hs3
  have hb5 := below_g hb4 k5 (by omega)
  refine r_end ?_
  refine n_then ?_
  refine w_retc1 rfl row52 rfl hB3.range rfl ?_
  exact ⟨_, rfl, hb5, big_of (pow_val k) ((hS3.gB k5 (((hB1.g0 k2).g0 k3).g0 k4) rfl)).none⟩

theorem eq32_any {w : World} {a b : Value} {xs ys : List Int} (ha : Sl Kd.u32 w (fun _ => False) a xs) (hb : Sl Kd.u32 w (fun _ => False) b ys) :
    Calls Try.prog 85 [a, b].toArray w (Pure w fun v _ => v = .bool (decide (xs = ys))) := by
  have hb0 := Below.refl w.heap.size w
  have hln1 := ha.lenle
  have hln2 := hb.lenle
  refine enter Try.func85 rfl rfl ?_
  refine w_seq ?_
  refine w_region ?_
  refine st (s_assign rfl ?_)
  refine r_end ?_
  refine n_then ?_
  refine w_seq ?_
  refine w_seq ?_
  refine w_region ?_
  refine st (s_move rfl ?_)
  refine st (s_len sl32 rfl (ha.at0 hb0) ?_)
  refine st (s_move rfl ?_)
  refine st (s_len sl32 rfl (hb.at0 hb0) ?_)
  refine st (s_ne rfl rfl ?_)
  refine r_end ?_
  refine n_then ?_
  refine w_condP rfl (fun h1 => ?_) (fun h1 => ?_)
  · refine w_seq ?_
    refine w_region ?_
    refine st (s_assign rfl ?_)
    refine r_end ?_
    refine n_then ?_
    refine w_ret1 rfl rfl ?_
    exact ⟨_, rfl, hb0, by rw [decide_eq_false fun e => h1 (by rw [e])]⟩
  · refine w_skip' ?_
    refine n_then ?_
    refine w_seq ?_
    refine w_seq ?_
    refine w_region ?_
    refine st (s_move rfl ?_)
    refine st (s_len sl32 rfl (ha.at0 hb0) ?_)
    refine st (s_move rfl ?_)
    refine r_end ?_
    refine n_then ?_
    refine w_block ?_
    refine w_loop (α := Int) (fun (i : Int) => [(0, a), (1, b), (12, .int .i64 (xs.length : Int)), (13, .int .i64 i)]) (fun (i : Int) W => Below w.heap.size w W ∧ (0 ≤ i ∧ i ≤ xs.length) ∧ (∀ j : Int, 0 ≤ j → j < i → ix xs j = ix ys j)) (fun (i : Int) => (xs.length - i).toNat) (0) ⟨hb0, by omega, fun j _ _ => by omega⟩ (by exact ⟨rfl, rfl, rfl, rfl, trivial⟩) ?_
    rintro i w1 ⟨hb1, hi, hs⟩
    have hz1 := hb1.size
    refine w_seq ?_
    refine w_region ?_
    refine st (s_lt rfl rfl ?_)
    refine r_end ?_
    refine n_then ?_
    refine w_seq ?_
    refine w_condP rfl (fun h2 => ?_) (fun h2 => ?_)
    · refine w_skip' ?_
      refine n_then ?_
      refine w_seq ?_
      refine w_block ?_
      refine w_seq ?_
      refine w_region ?_
      refine st (s_move rfl ?_)
      refine st (s_assign rfl ?_)
      refine r_end ?_
      refine n_then ?_
      refine w_seq ?_
      obtain ⟨b1, o1, _, hat1, ⟨rfl, hr1⟩, hc1, hF1, hlt1⟩ := (ha.at0 hb1).elem i (by omega) (by omega)
      have hl_1 := Loc.lt hF1
      obtain ⟨b2, o2, _, hat2, ⟨rfl, hr2⟩, hc2, hF2, hlt2⟩ := (hb.at0 hb1).elem i (by omega) (by omega)
      have hl_2 := Loc.lt hF2
      refine w_draw 9 (fun a b => a.grownBy b none) [(some 16, fun v _ => v = a), (some 17, fun v _ => v = .int .i64 i), (some 18, fun v _ => v = .pointer (some ⟨b1, o1, none⟩)), (some 19, fun v _ => v = .int .u32 (ix xs i)), (some 20, fun v _ => v = b), (some 21, fun v _ => v = .int .i64 i), (some 22, fun v _ => v = .pointer (some ⟨b2, o2, none⟩)), (some 23, fun v _ => v = .int .u32 (ix ys i)), (some 24, fun v _ => v = .bool (decide ((ix xs i) ≠ (ix ys i))))] [[], [], [0, 1], [2], [], [], [4, 5], [6], [3, 7]] [(0, a), (1, b), (5, .int .i64 i), (12, .int .i64 (xs.length : Int)), (13, .int .i64 i)] (by exact ⟨rfl, rfl, rfl, rfl, rfl, trivial⟩) (by kernel_rfl) (by kernel_rfl) grown_none_refl (fun _ _ _ => grown_none_trans) ⟨fun _ _ _ h _ => h, fun _ _ _ h _ => h, fun _ _ _ h _ => h, fun _ _ _ h _ => h, fun _ _ _ h _ => h, fun _ _ _ h _ => h, fun _ _ _ h _ => h, fun _ _ _ h _ => h, fun _ _ _ h _ => h, trivial⟩ ?_
      intro w2 k1 hs1
      have hb2 := below_g0 hb1 k1
      refine ⟨⟨?_, ?_, ?_, ?_, ?_, ?_, ?_, ?_, ?_, trivial⟩, ?_⟩
      · intro w3 k2
        have hb3 := below_g0 hb2 k2
        refine op1 (s_move rfl ?_)
        exact ⟨rfl, grown_none_refl _⟩
      · intro w4 k3
        have hb4 := below_g0 hb2 k3
        refine op1 (s_move rfl ?_)
        exact ⟨rfl, grown_none_refl _⟩
      · intro w5 k4
        have hb5 := below_g0 hb2 k4
        intro v_ hv_; subst v_
        rintro _ rfl
        refine op1 (s_idxat sl32 rfl rfl hat1 ?_)
        exact ⟨rfl, grown_none_refl _⟩
      · intro w6 k5
        have hb6 := below_g0 hb2 k5
        rintro _ rfl
        refine op1 (s_load one44 rfl (range_g0 (range_g0 hc1 k1) k5) (j := 0) rfl ?_)
        exact ⟨rfl, grown_none_refl _⟩
      · intro w7 k6
        have hb7 := below_g0 hb2 k6
        refine op1 (s_move rfl ?_)
        exact ⟨rfl, grown_none_refl _⟩
      · intro w8 k7
        have hb8 := below_g0 hb2 k7
        refine op1 (s_move rfl ?_)
        exact ⟨rfl, grown_none_refl _⟩
      · intro w9 k8
        have hb9 := below_g0 hb2 k8
        intro v_ hv_; subst v_
        rintro _ rfl
        refine op1 (s_idxat sl32 rfl rfl hat2 ?_)
        exact ⟨rfl, grown_none_refl _⟩
      · intro w10 k9
        have hb10 := below_g0 hb2 k9
        rintro _ rfl
        refine op1 (s_load one44 rfl (range_g0 (range_g0 hc2 k1) k9) (j := 0) rfl ?_)
        exact ⟨rfl, grown_none_refl _⟩
      · intro w11 k10
        have hb11 := below_g0 hb2 k10
        rintro _ rfl
        rintro _ rfl
        refine op1 (s_ne rfl rfl ?_)
        exact ⟨rfl, grown_none_refl _⟩
      · intro w12 k11
        have hb12 := below_g0 hb2 k11
        intro v_ hv_; subst v_
        rintro _ rfl
        rintro _ rfl
        rintro _ rfl
        intro v_ hv_; subst v_
        rintro _ rfl
        rintro _ rfl
        rintro _ rfl
        rintro _ rfl
        refine r_end ?_
        refine n_then ?_
        refine w_condP rfl (fun h3 => ?_) (fun h3 => ?_)
        · refine w_seq ?_
          refine w_region ?_
          refine st (s_assign rfl ?_)
          refine r_end ?_
          refine n_then ?_
          refine w_ret1 rfl rfl ?_
          exact ⟨_, rfl, hb12, by rw [decide_eq_false fun e => h3 (by rw [e])]⟩
        · refine w_skip' ?_
          refine n_block ?_
          refine n_then ?_
          refine w_region ?_
          refine st (s_add rfl rfl (by omega) ?_)
          refine st (s_move rfl ?_)
          refine r_end ?_
          exact n_round ((i + 1)) ⟨hb12, by omega, fun j j0 j1 => if q : j = i then by rw [q]; simpa using h3 else hs j j0 (by omega)⟩ (by omega) (by exact ⟨rfl, rfl, rfl, rfl, trivial⟩)
    · refine w_exit' ?_
      refine n_then_exit ?_
      refine n_then_exit ?_
      refine n_block_exit ?_
      refine n_then ?_
      refine w_seq ?_
      refine w_region ?_
      refine st (s_assign rfl ?_)
      refine r_end ?_
      refine n_then ?_
      refine w_ret1 rfl rfl ?_
      exact ⟨_, rfl, hb1, by rw [decide_eq_true (same_all (by omega) fun j j0 j1 => hs j j0 (by omega))]⟩

theorem bsame_any {w : World} {ng mg : Bool} {a b : Value} {xs ys : List Int} (ha : Sl Kd.u32 w (fun _ => False) a xs) (hb : Sl Kd.u32 w (fun _ => False) b ys) :
    Calls Try.prog 54 [.agg [.bool ng, a].toArray, .agg [.bool mg, b].toArray].toArray w (Pure w fun v _ => v = .bool (decide (ng = mg ∧ xs = ys))) := by
  have hb0 := Below.refl w.heap.size w
  refine enter Try.func54 rfl rfl ?_
  refine w_seq ?_
  refine w_region ?_
  refine st (s_box rfl ?_)
  intro g1 w1 hg1 hB1 k1 hs1
  change Blk w1 g1 52 [.bool ng, a].toArray at hB1
  have hb1 := below_g0 hb0 k1
  refine st (s_box rfl ?_)
  intro g2 w2 hg2 hB2 k2 hs2
  change Blk w2 g2 52 [.bool mg, b].toArray at hB2
  have hb2 := below_g0 hb1 k2
  refine st (s_assign rfl ?_)
  refine r_end ?_
  refine n_then ?_
  refine w_seq ?_
  refine w_region ?_
  refine st (s_faddr fld52_0 rfl ?_)
  refine st (s_load one4 rfl (hB1.g0 k2).range (j := 0) rfl ?_)
  refine st (s_faddr fld52_0 rfl ?_)
  refine st (s_load one4 rfl hB2.range (j := 0) rfl ?_)
  refine st (s_eqbool bool4 rfl rfl ?_)
  refine st (s_move rfl ?_)
  refine r_case 10 rfl (fun h1 => ?_) (fun h1 => ?_)
  · refine stg (s_faddr fld52_1 rfl ?_)
    refine stg (s_load one32 rfl (hB1.g0 k2).range (j := 1) rfl ?_)
    refine stg (s_faddr fld52_1 rfl ?_)
    refine stg (s_load one32 rfl hB2.range (j := 1) rfl ?_)
    refine stg (s_call fn85 rfl (eq32_any ((ha.at0 hb2)).none ((hb.at0 hb2)).none) ?_)
    rintro _ w3 ⟨hq1, rfl⟩
    have k3 := grown_of_below hq1 none
    have hz1 := hq1.size
    have hb3 := below_g0 hb2 k3
    have hz2 := hb3.size
    refine st (s_pick rfl rfl ?_)
    refine st (s_assign rfl ?_)
    refine r_end ?_
    refine n_then ?_
    refine w_ret1 rfl rfl ?_
    exact ⟨_, rfl, hb3, congrArg Value.bool (decide_eq_decide.2 ⟨fun e => ⟨eq_of_beq h1, e⟩, fun e => e.2⟩)⟩
  · refine s_pass rfl rfl ?_
    refine s_pass rfl rfl ?_
    refine s_pass rfl rfl ?_
    refine s_pass rfl rfl ?_
    refine s_pass rfl rfl ?_
    refine st (s_pick rfl rfl ?_)
    refine st (s_assign rfl ?_)
    refine r_end ?_
    refine n_then ?_
    refine w_ret1 rfl rfl ?_
    exact ⟨_, rfl, hb2, by rw [decide_eq_false (fun e => by rw [e.1, beq_self_eq_true] at h1; cases h1)]⟩

theorem rbsame_any {w : World} {ng mg : Bool} {a b : Value} {xs ys : List Int} (ha : Sl Kd.u32 w (fun _ => False) a xs) (hb : Sl Kd.u32 w (fun _ => False) b ys) :
    Calls Try.prog 50 [.agg [.bool ng, a].toArray, .agg [.bool mg, b].toArray].toArray w (Pure w fun v _ => v = .bool (decide (ng = mg ∧ xs = ys))) := by
  have hb0 := Below.refl w.heap.size w
  refine enter Try.func50 rfl rfl ?_
  refine w_seq ?_
  refine w_region ?_
  refine st (s_box rfl ?_)
  intro g1 w1 hg1 hB1 k1 hs1
  change Blk w1 g1 52 [.bool ng, a].toArray at hB1
  have hb1 := below_g0 hb0 k1
  refine st (s_box rfl ?_)
  intro g2 w2 hg2 hB2 k2 hs2
  change Blk w2 g2 52 [.bool mg, b].toArray at hB2
  have hb2 := below_g0 hb1 k2
  refine st (s_assign rfl ?_)
  refine r_end ?_
  refine n_then ?_
  refine w_seq ?_
  refine w_region ?_
  refine st (s_faddr fld52_0 rfl ?_)
  refine st (s_load one4 rfl (hB1.g0 k2).range (j := 0) rfl ?_)
  refine st (s_faddr fld52_0 rfl ?_)
  refine st (s_load one4 rfl hB2.range (j := 0) rfl ?_)
  refine st (s_eqbool bool4 rfl rfl ?_)
  refine st (s_move rfl ?_)
  refine r_case 10 rfl (fun h1 => ?_) (fun h1 => ?_)
  · refine stg (s_faddr fld52_1 rfl ?_)
    refine stg (s_load one32 rfl (hB1.g0 k2).range (j := 1) rfl ?_)
    refine stg (s_faddr fld52_1 rfl ?_)
    refine stg (s_load one32 rfl hB2.range (j := 1) rfl ?_)
    refine stg (s_call fn25 rfl (same_any ((ha.at0 hb2)).none ((hb.at0 hb2)).none) ?_)
    rintro _ w3 ⟨hq1, rfl⟩
    have k3 := grown_of_below hq1 none
    have hz1 := hq1.size
    have hb3 := below_g0 hb2 k3
    have hz2 := hb3.size
    refine st (s_pick rfl rfl ?_)
    refine st (s_assign rfl ?_)
    refine r_end ?_
    refine n_then ?_
    refine w_ret1 rfl rfl ?_
    exact ⟨_, rfl, hb3, congrArg Value.bool (decide_eq_decide.2 ⟨fun e => ⟨eq_of_beq h1, e⟩, fun e => e.2⟩)⟩
  · refine s_pass rfl rfl ?_
    refine s_pass rfl rfl ?_
    refine s_pass rfl rfl ?_
    refine s_pass rfl rfl ?_
    refine s_pass rfl rfl ?_
    refine st (s_pick rfl rfl ?_)
    refine st (s_assign rfl ?_)
    refine r_end ?_
    refine n_then ?_
    refine w_ret1 rfl rfl ?_
    exact ⟨_, rfl, hb2, by rw [decide_eq_false (fun e => by rw [e.1, beq_self_eq_true] at h1; cases h1)]⟩
end Go.Proofs.Ytencmmhfiepojaa

set_option maxRecDepth 20000
set_option linter.unusedSimpArgs false
set_option linter.unusedVariables false
namespace Go.Proofs.Ytencmmhfiepojaa
open Go.RowKit Go.Gw
theorem sign_any {w : World} {ng : Bool} {a : Value} {xs : List Int} (ha : Sl Kd.u32 w (fun _ => False) a xs) (hla : xs.length ≤ 100000) :
    Calls Try.prog 84 [.bool ng, a].toArray w (Pure w fun v W => IsBig W v (sg ng (nv xs))) := by
  have hb0 := Below.refl w.heap.size w
  have hln1 := ha.lenle
  refine enter Try.func84 rfl rfl ?_
  refine w_seq ?_
  refine w_region ?_
  refine st (s_alloc zero52 ?_)
  intro g1 w1 hg1 hB1 k1 hs1
  have hb1 := below_g0 hb0 k1
  refine r_end ?_
  refine n_then ?_
  refine w_seq ?_
  refine w_region ?_
  refine st (s_move rfl ?_)
  refine st (s_call fn41 rfl (rnorm_any ((ha.at0 hb1)).none (by first | omega | (simp; done) | (simp; omega))) ?_)
  rintro v1 w2 ⟨hq1, hS1⟩
  have k2 := grown_of_below hq1 none
  have hz1 := hq1.size
  have hb2 := below_g0 hb1 k2
  have hz2 := hb2.size
  refine st (s_assign rfl ?_)
  refine r_end ?_
  refine n_then ?_
  refine w_seq ?_
  refine w_region ?_
  refine st (s_move rfl ?_)
  refine st (s_move rfl ?_)
  refine r_case 8 rfl (fun h1 => ?_) (fun h1 => ?_)
  · refine stg (s_move rfl ?_)
    refine stg (s_len sl32 rfl hS1 ?_)
    refine stg (s_gt rfl rfl ?_)
    refine st (s_pick rfl rfl ?_)
    refine st (s_move rfl ?_)
    refine st (s_build (ps := [(0, .tmp 12), (1, .tmp 13)]) (ccs := [#[.bool (decide (0 < ((tl (nv xs)).length : Int)))], #[v1]]) (cells := [.bool (decide (0 < ((tl (nv xs)).length : Int))), v1]) rfl (by simp only [List.map_cons, List.map_nil, hS1.cells1] <;> rfl) (by kernel_rfl) ?_)
    refine st0 (s_storeN row52 rfl rfl (hB1.g0 k2) (by simp only [List.all_cons, List.all_nil, hS1.one, Bool.and_true, Bool.and_self] <;> rfl) rfl rfl ?_)
    intro w3 hB2 k3 hs2
    have hb3 := below_g hb2 k3 (by omega)
    refine r_end ?_
    refine n_then ?_
    refine w_retc1 rfl row52 rfl hB2.range rfl ?_
    have hm := nv_nonneg (lim_sl ha)
    exact ⟨_, rfl, hb3, _, by rw [sg_neg hm h1], by rw [← sg_ml ng hm]; exact ((hS1.gB k3 (hB1.g0 k2) rfl)).none⟩
  · refine s_pass rfl rfl ?_
    refine s_pass rfl rfl ?_
    refine s_pass rfl rfl ?_
    refine st (s_pick rfl rfl ?_)
    refine st (s_move rfl ?_)
    refine st (s_build (ps := [(0, .tmp 12), (1, .tmp 13)]) (ccs := [#[.bool false], #[v1]]) (cells := [.bool false, v1]) rfl (by simp only [List.map_cons, List.map_nil, hS1.cells1] <;> rfl) (by kernel_rfl) ?_)
    refine st0 (s_storeN row52 rfl rfl (hB1.g0 k2) (by simp only [List.all_cons, List.all_nil, hS1.one, Bool.and_true, Bool.and_self] <;> rfl) rfl rfl ?_)
    intro w4 hB3 k4 hs3
    have hb4 := below_g hb2 k4 (by omega)
    refine r_end ?_
    refine n_then ?_
    refine w_retc1 rfl row52 rfl hB3.range rfl ?_
    have hm := nv_nonneg (lim_sl ha)
    exact ⟨_, rfl, hb4, _, by rw [sg_pos hm h1], by rw [← sg_ml ng hm]; exact ((hS1.gB k4 (hB1.g0 k2) rfl)).none⟩

theorem rof2_any {w : World} {n : Int} (hn : -9223372036854775808 ≤ n ∧ n ≤ 9223372036854775807) :
    Calls Try.prog 51 [.int .i64 n].toArray w (Pure w fun v W => IsBig W v (n)) := by
  have hb0 := Below.refl w.heap.size w
  refine enter Try.func51 rfl rfl ?_
  refine w_seq ?_
  refine w_region ?_
  refine st (s_alloc zero52 ?_)
  intro g1 w1 hg1 hB1 k1 hs1
  have hb1 := below_g0 hb0 k1
  refine r_end ?_
  refine n_then ?_
  refine w_seq ?_
  refine w_region ?_
  refine st (s_move rfl ?_)
  refine st (s_convm (M := 18446744073709551616) rfl rfl intk3 intk76 rfl ?_)
  refine st (s_assign rfl ?_)
  refine r_end ?_
  refine n_then ?_
  refine w_seq ?_
  refine w_seq ?_
  refine w_region ?_
  refine st (s_move rfl ?_)
  refine st (s_lt rfl rfl ?_)
  refine r_end ?_
  refine n_then ?_
  refine w_condP rfl (fun h1 => ?_) (fun h1 => ?_)
  · refine w_region ?_
    refine st (s_move rfl ?_)
    refine st (s_negk (M := 18446744073709551616) rfl rfl rfl ?_)
    refine st (s_assign rfl ?_)
    refine r_end ?_
    refine n_then ?_
    refine w_seq ?_
    refine w_region ?_
    refine st (s_move rfl ?_)
    refine st (s_lt rfl rfl ?_)
    refine st (s_move rfl ?_)
    refine st (s_remk rfl rfl (by omega) (by omega) ?_)
    refine st (s_convm (M := 4294967296) rfl rfl intk76 intk44 rfl ?_)
    refine st (s_move rfl ?_)
    refine st (s_quok (M := 18446744073709551616) rfl rfl rfl rfl (by omega) (by omega) ?_)
    refine st (s_convm (M := 4294967296) rfl rfl intk76 intk44 rfl ?_)
    refine st (s_bslice (ps := [(0, .tmp 14), (1, .tmp 17)]) (ccs := [#[.int .u32 ((((-(n % 18446744073709551616)) % 18446744073709551616) % 4294967296) % 4294967296)], #[.int .u32 ((((-(n % 18446744073709551616)) % 18446744073709551616) / 4294967296) % 4294967296)]]) (e := 44) (cells := [.int .u32 ((((-(n % 18446744073709551616)) % 18446744073709551616) % 4294967296) % 4294967296), .int .u32 ((((-(n % 18446744073709551616)) % 18446744073709551616) / 4294967296) % 4294967296)]) rfl rfl (by kernel_rfl) (by decide) nz44 ?_)
    intro g2 w2 hg2 hB2 k2 hs2
    have hb2 := below_g0 hb1 k2
    have hz1 := hb2.size
    have hS1 := lit_u32s (F := fun _ => False) ([((((-(n % 18446744073709551616)) % 18446744073709551616) % 4294967296) % 4294967296), ((((-(n % 18446744073709551616)) % 18446744073709551616) / 4294967296) % 4294967296)] : List Int) hB2 (fun h => h) rfl (by first | decide | simp) (by intro x hx; simp at hx; omega)
    refine st (s_call fn84 rfl (sign_any (hS1).none (by first | omega | (simp; done) | (simp; omega))) ?_)
    rintro _ w3 ⟨hq1, v1, rfl, hS2⟩
    have k3 := grown_of_below hq1 none
    have hz2 := hq1.size
    have hb3 := below_g0 hb2 k3
    have hz3 := hb3.size
    refine st0 (s_storeN row52 rfl rfl ((hB1.g0 k2).g0 k3) (by simp only [List.all_cons, List.all_nil, hS2.one, Bool.and_true, Bool.and_self] <;> rfl) rfl rfl ?_)
    intro w4 hB3 k4 hs3
    have hb4 := below_g hb3 k4 (by omega)
    refine r_end ?_
    refine n_then ?_
    refine w_retc1 rfl row52 rfl hB3.range rfl ?_
    exact ⟨_, rfl, hb4, big_of (rof_neg hn h1) ((hS2.gB k4 ((hB1.g0 k2).g0 k3) rfl)).none⟩
  · refine w_skip' ?_
    refine n_then ?_
    refine w_seq ?_
    refine w_region ?_
    refine st (s_move rfl ?_)
    refine st (s_lt rfl rfl ?_)
    refine st (s_move rfl ?_)
    refine st (s_remk rfl rfl (by omega) (by omega) ?_)
    refine st (s_convm (M := 4294967296) rfl rfl intk76 intk44 rfl ?_)
    refine st (s_move rfl ?_)
    refine st (s_quok (M := 18446744073709551616) rfl rfl rfl rfl (by omega) (by omega) ?_)
    refine st (s_convm (M := 4294967296) rfl rfl intk76 intk44 rfl ?_)
    refine st (s_bslice (ps := [(0, .tmp 14), (1, .tmp 17)]) (ccs := [#[.int .u32 (((n % 18446744073709551616) % 4294967296) % 4294967296)], #[.int .u32 (((n % 18446744073709551616) / 4294967296) % 4294967296)]]) (e := 44) (cells := [.int .u32 (((n % 18446744073709551616) % 4294967296) % 4294967296), .int .u32 (((n % 18446744073709551616) / 4294967296) % 4294967296)]) rfl rfl (by kernel_rfl) (by decide) nz44 ?_)
    intro g3 w5 hg3 hB4 k5 hs4
    have hb5 := below_g0 hb1 k5
    have hz4 := hb5.size
    have hS3 := lit_u32s (F := fun _ => False) ([(((n % 18446744073709551616) % 4294967296) % 4294967296), (((n % 18446744073709551616) / 4294967296) % 4294967296)] : List Int) hB4 (fun h => h) rfl (by first | decide | simp) (by intro x hx; simp at hx; omega)
    refine st (s_call fn84 rfl (sign_any (hS3).none (by first | omega | (simp; done) | (simp; omega))) ?_)
    rintro _ w6 ⟨hq2, v2, rfl, hS4⟩
    have k6 := grown_of_below hq2 none
    have hz5 := hq2.size
    have hb6 := below_g0 hb5 k6
    have hz6 := hb6.size
    refine st0 (s_storeN row52 rfl rfl ((hB1.g0 k5).g0 k6) (by simp only [List.all_cons, List.all_nil, hS4.one, Bool.and_true, Bool.and_self] <;> rfl) rfl rfl ?_)
    intro w7 hB5 k7 hs5
    have hb7 := below_g hb6 k7 (by omega)
    refine r_end ?_
    refine n_then ?_
    refine w_retc1 rfl row52 rfl hB5.range rfl ?_
    exact ⟨_, rfl, hb7, big_of (rof_pos hn h1) ((hS4.gB k7 ((hB1.g0 k5).g0 k6) rfl)).none⟩

theorem rint_any0 {w : World}  {a : Value} {n : Int} (ha : Sl Kd.u32 w (fun _ => False) a (ml n))  :
    Calls Try.prog 57 [.agg [.bool (decide (n < 0)), a].toArray].toArray w (Pure w fun v _ => v = .tuple #[.int .i64 (toI n), .bool (fit64 n)]) := by
  have hb0 := Below.refl w.heap.size w
  have hllc := ha.lenle
  have hnn := nv_ml n
  refine enter Try.func57 rfl rfl ?_
  refine w_seq ?_
  refine w_region ?_
  refine st (s_box rfl ?_)
  intro g1 w1 hg1 hB1 k1 hs1
  change Blk w1 g1 52 [.bool (decide (n < 0)), a].toArray at hB1
  have hb1 := below_g0 hb0 k1
  refine st (s_assign rfl ?_)
  refine st (s_assign rfl ?_)
  refine r_end ?_
  refine n_then ?_
  refine w_seq ?_
  refine w_region ?_
  refine st (s_assign rfl ?_)
  refine r_end ?_
  refine n_then ?_
  refine w_seq ?_
  refine w_seq ?_
  refine w_region ?_
  refine st (s_faddr fld52_1 rfl ?_)
  refine st (s_load one32 rfl hB1.range (j := 1) rfl ?_)
  refine st (s_len sl32 rfl (ha.at0 hb1) ?_)
  refine st (s_sub rfl rfl (by omega) ?_)
  refine st (s_assign rfl ?_)
  refine r_end ?_
  refine n_then ?_
  refine w_block ?_
  refine w_loop (α := Int × Int) (fun ((i, u) : Int × Int) => [(1, .pointer (some ⟨g1, 0, none⟩)), (4, .int .u64 u), (5, .int .i64 i)]) (fun ((i, u) : Int × Int) W => Below w.heap.size w W ∧ (-1 ≤ i ∧ i < (ml n).length) ∧ (u = nv ((ml n).drop (i + 1).toNat)) ∧ (0 ≤ u ∧ u ≤ 18446744073709551615) ∧ (Blk W g1 52 [.bool (decide (n < 0)), a].toArray)) (fun ((i, u) : Int × Int) => (i + 1).toNat) ((((ml n).length : Int) - 1), (0)) ⟨hb1, by omega, by rw [List.drop_of_length_le (by omega)]; rfl, by omega, hB1⟩ (by exact ⟨rfl, rfl, rfl, trivial⟩) ?_
  rintro ⟨i, u⟩ w2 ⟨hb2, hi, hu, hu0, hBl1⟩
  dsimp only at *
  have hz1 := hb2.size
  have hxb := (lim_ml n).ix i
  have hst := fun h => rint_step (n := n) (u := u) (i := i) h hi.2 hu
  refine w_seq ?_
  refine w_seq ?_
  refine w_region ?_
  refine st (s_move rfl ?_)
  refine st (s_ge rfl rfl ?_)
  refine r_end ?_
  refine n_then ?_
  refine w_condP rfl (fun h1 => ?_) (fun h1 => ?_)
  · refine w_skip' ?_
    refine n_then ?_
    refine w_seq ?_
    refine w_block ?_
    refine w_seq ?_
    refine w_seq ?_
    refine w_region ?_
    refine st (s_move rfl ?_)
    refine st (s_gt rfl rfl ?_)
    refine r_end ?_
    refine n_then ?_
    refine w_condP rfl (fun h2 => ?_) (fun h2 => ?_)
    · refine w_seq ?_
      refine w_region ?_
      refine st (s_assign rfl ?_)
      refine st (s_assign rfl ?_)
      refine r_end ?_
      refine n_then ?_
      refine w_ret2 rfl rfl rfl ?_
      have hno := rint_over (by omega) hi.2 hu (by omega)
      exact ⟨_, rfl, hb2, by rw [toI_no hno, fit64_no hno]⟩
    · refine w_skip' ?_
      refine n_then ?_
      refine w_region ?_
      refine st (s_move rfl ?_)
      refine st (s_mulk (M := 18446744073709551616) rfl rfl rfl rfl (by omega) ?_)
      refine st (s_faddr fld52_1 rfl ?_)
      refine st (s_load one32 rfl hBl1.range (j := 1) rfl ?_)
      refine st (s_move rfl ?_)
      refine st (s_idx sl32 rfl rfl (ha.at0 hb2) (by omega) (by omega) ?_)
      rintro b1 o1 _ ⟨rfl, hr1⟩ hc1 hF1 hlt1
      have hl_1 := Loc.lt hF1
      refine st (s_load one44 rfl hc1 (j := 0) rfl ?_)
      refine st (s_convk (M := 18446744073709551616) rfl rfl intk44 intk76 rfl (by omega) ?_)
      refine st (s_addk (M := 18446744073709551616) rfl rfl rfl rfl (by omega) ?_)
      refine st (s_assign rfl ?_)
      refine r_end ?_
      refine n_block ?_
      refine n_then ?_
      refine w_region ?_
      refine st (s_move rfl ?_)
      refine st (s_sub rfl rfl (by omega) ?_)
      refine st (s_assign rfl ?_)
      refine r_end ?_
      exact n_round (((i - 1)), (((u * 4294967296) + (ix (ml n) i)))) ⟨hb2, by omega, by rw [show i - 1 + 1 = i by omega]; exact hst (by omega), by dsimp only; omega, hBl1⟩ (by omega) (by exact ⟨rfl, rfl, rfl, trivial⟩)
  · refine w_exit' ?_
    refine n_then_exit ?_
    refine n_then_exit ?_
    refine n_block_exit ?_
    refine n_then ?_
    refine w_seq ?_
    refine w_seq ?_
    refine w_region ?_
    refine st (s_faddr fld52_0 rfl ?_)
    refine st (s_load one4 rfl hBl1.range (j := 0) rfl ?_)
    refine st (s_move rfl ?_)
    refine r_caseP 27 rfl (fun h3 => ?_) (fun h3 => ?_)
    · refine stg (s_move rfl ?_)
      refine stg (s_le rfl rfl ?_)
      refine st (s_pick rfl rfl ?_)
      refine r_end ?_
      refine n_then ?_
      refine w_condP rfl (fun h4 => ?_) (fun h4 => ?_)
      · refine w_seq ?_
        refine w_region ?_
        refine st (s_move rfl ?_)
        refine st (s_negk (M := 18446744073709551616) rfl rfl rfl ?_)
        refine st (s_convw intk76 intk3 rfl ?_)
        refine st (s_assign rfl ?_)
        refine st (s_assign rfl ?_)
        refine r_end ?_
        refine n_then ?_
        refine w_ret2 rfl rfl rfl ?_
        have hall := rint_all (by omega) hu
        have hyes : -9223372036854775808 ≤ n ∧ n ≤ 9223372036854775807 := by omega
        exact ⟨_, rfl, hb2, by rw [toI_yes hyes, fit64_yes hyes, show (IntKind.i64.wrap ((-u) % 18446744073709551616)) = n by rw [IntKind.wrap_i64]; omega]⟩
      · refine w_skip' ?_
        refine n_then ?_
        refine w_seq ?_
        refine w_seq ?_
        refine w_region ?_
        refine st (s_faddr fld52_0 rfl ?_)
        refine st (s_load one4 rfl hBl1.range (j := 0) rfl ?_)
        refine st (s_move rfl ?_)
        refine r_caseP 36 rfl (fun h5 => ?_) (fun h5 => ?_)
        · refine s_pass rfl rfl ?_
          refine s_pass rfl rfl ?_
          refine st (s_pick rfl rfl ?_)
          refine r_end ?_
          refine n_then ?_
          refine w_condT rfl ?_
          refine w_seq ?_
          refine w_region ?_
          refine st (s_assign rfl ?_)
          refine st (s_assign rfl ?_)
          refine r_end ?_
          refine n_then ?_
          refine w_ret2 rfl rfl rfl ?_
          have hall := rint_all (by omega) hu
          have hno : ¬ (-9223372036854775808 ≤ n ∧ n ≤ 9223372036854775807) := by omega
          exact ⟨_, rfl, hb2, by rw [toI_no hno, fit64_no hno]⟩
        · refine stg (s_move rfl ?_)
          refine stg (s_gt rfl rfl ?_)
          refine st (s_pick rfl rfl ?_)
          refine r_end ?_
          refine n_then ?_
          refine w_condP rfl (fun h6 => ?_) (fun h6 => ?_)
          · refine w_seq ?_
            refine w_region ?_
            refine st (s_assign rfl ?_)
            refine st (s_assign rfl ?_)
            refine r_end ?_
            refine n_then ?_
            refine w_ret2 rfl rfl rfl ?_
            have hall := rint_all (by omega) hu
            have hno : ¬ (-9223372036854775808 ≤ n ∧ n ≤ 9223372036854775807) := by omega
            exact ⟨_, rfl, hb2, by rw [toI_no hno, fit64_no hno]⟩
          · refine w_skip' ?_
            refine n_then ?_
            refine w_seq ?_
            refine w_region ?_
            refine st (s_move rfl ?_)
            refine st (s_convw intk76 intk3 rfl ?_)
            refine st (s_assign rfl ?_)
            refine st (s_assign rfl ?_)
            refine r_end ?_
            refine n_then ?_
            refine w_ret2 rfl rfl rfl ?_
            have hall := rint_all (by omega) hu
            have hyes : -9223372036854775808 ≤ n ∧ n ≤ 9223372036854775807 := by omega
            exact ⟨_, rfl, hb2, by rw [toI_yes hyes, fit64_yes hyes, show (IntKind.i64.wrap u) = n by rw [IntKind.wrap_i64]; omega]⟩
    · refine s_pass rfl rfl ?_
      refine s_pass rfl rfl ?_
      refine st (s_pick rfl rfl ?_)
      refine r_end ?_
      refine n_then ?_
      refine w_condF rfl ?_
      refine w_skip' ?_
      refine n_then ?_
      refine w_seq ?_
      refine w_seq ?_
      refine w_region ?_
      refine st (s_faddr fld52_0 rfl ?_)
      refine st (s_load one4 rfl hBl1.range (j := 0) rfl ?_)
      refine st (s_move rfl ?_)
      refine r_caseP 36 rfl (fun h7 => ?_) (fun h7 => ?_)
      · refine s_pass rfl rfl ?_
        refine s_pass rfl rfl ?_
        refine st (s_pick rfl rfl ?_)
        refine r_end ?_
        refine n_then ?_
        refine w_condT rfl ?_
        refine w_seq ?_
        refine w_region ?_
        refine st (s_assign rfl ?_)
        refine st (s_assign rfl ?_)
        refine r_end ?_
        refine n_then ?_
        refine w_ret2 rfl rfl rfl ?_
        have hall := rint_all (by omega) hu
        have hno : ¬ (-9223372036854775808 ≤ n ∧ n ≤ 9223372036854775807) := by omega
        exact ⟨_, rfl, hb2, by rw [toI_no hno, fit64_no hno]⟩
      · refine stg (s_move rfl ?_)
        refine stg (s_gt rfl rfl ?_)
        refine st (s_pick rfl rfl ?_)
        refine r_end ?_
        refine n_then ?_
        refine w_condP rfl (fun h8 => ?_) (fun h8 => ?_)
        · refine w_seq ?_
          refine w_region ?_
          refine st (s_assign rfl ?_)
          refine st (s_assign rfl ?_)
          refine r_end ?_
          refine n_then ?_
          refine w_ret2 rfl rfl rfl ?_
          have hall := rint_all (by omega) hu
          have hno : ¬ (-9223372036854775808 ≤ n ∧ n ≤ 9223372036854775807) := by omega
          exact ⟨_, rfl, hb2, by rw [toI_no hno, fit64_no hno]⟩
        · refine w_skip' ?_
          refine n_then ?_
          refine w_seq ?_
          refine w_region ?_
          refine st (s_move rfl ?_)
          refine st (s_convw intk76 intk3 rfl ?_)
          refine st (s_assign rfl ?_)
          refine st (s_assign rfl ?_)
          refine r_end ?_
          refine n_then ?_
          refine w_ret2 rfl rfl rfl ?_
          have hall := rint_all (by omega) hu
          have hyes : -9223372036854775808 ≤ n ∧ n ≤ 9223372036854775807 := by omega
          exact ⟨_, rfl, hb2, by rw [toI_yes hyes, fit64_yes hyes, show (IntKind.i64.wrap u) = n by rw [IntKind.wrap_i64]; omega]⟩

theorem rint_any {w : World}  {vn : Value} {n : Int} (hn : IsBig w vn n)  :
    Calls Try.prog 57 [vn].toArray w (Pure w fun v _ => v = .tuple #[.int .i64 (toI n), .bool (fit64 n)]) := by
  obtain ⟨sn, rfl, kn⟩ := hn
  exact rint_any0 kn

theorem rminus_any0 {w : World}  {a : Value} {n : Int} (ha : Sl Kd.u32 w (fun _ => False) a (ml n)) (hbn : Bd 90000 n)  :
    Calls Try.prog 63 [.agg [.bool (decide (n < 0)), a].toArray].toArray w (Pure w fun v W => IsBig W v (-n)) := by
  have hb0 := Below.refl w.heap.size w
  have hln := bd_len hbn
  have hnn := nv_ml n
  refine enter Try.func63 rfl rfl ?_
  refine w_seq ?_
  refine w_region ?_
  refine st (s_box rfl ?_)
  intro g1 w1 hg1 hB1 k1 hs1
  change Blk w1 g1 52 [.bool (decide (n < 0)), a].toArray at hB1
  have hb1 := below_g0 hb0 k1
  refine st (s_alloc zero52 ?_)
  intro g2 w2 hg2 hB2 k2 hs2
  have hb2 := below_g0 hb1 k2
  refine r_end ?_
  refine n_then ?_
  refine w_seq ?_
  refine w_region ?_
  refine st (s_faddr fld52_0 rfl ?_)
  refine st (s_load one4 rfl (hB1.g0 k2).range (j := 0) rfl ?_)
  refine st (s_notP rfl ?_)
  refine st (s_faddr fld52_1 rfl ?_)
  refine st (s_load one32 rfl (hB1.g0 k2).range (j := 1) rfl ?_)
  refine st (s_call fn84 rfl (sign_any ((ha.at0 hb2)).none (by first | omega | (simp; done) | (simp; omega))) ?_)
  rintro _ w3 ⟨hq1, v1, rfl, hS1⟩
  have k3 := grown_of_below hq1 none
  have hz1 := hq1.size
  have hb3 := below_g0 hb2 k3
  have hz2 := hb3.size
  refine st0 (s_storeN row52 rfl rfl (hB2.g0 k3) (by simp only [List.all_cons, List.all_nil, hS1.one, Bool.and_true, Bool.and_self] <;> rfl) rfl rfl ?_)
  intro w4 hB3 k4 hs3
  have hb4 := below_g hb3 k4 (by omega)
  refine r_end ?_
  refine n_then ?_
  refine w_retc1 rfl row52 rfl hB3.range rfl ?_
  exact ⟨_, rfl, hb4, big_of (by rw [nv_ml]; exact sg_minv n) ((hS1.gB k4 (hB2.g0 k3) rfl)).none⟩

theorem rminus_any {w : World}  {vn : Value} {n : Int} (hn : IsBig w vn n) (hbn : Bd 90000 n)  :
    Calls Try.prog 63 [vn].toArray w (Pure w fun v W => IsBig W v (-n)) := by
  obtain ⟨sn, rfl, kn⟩ := hn
  exact rminus_any0 kn hbn

theorem rbadd_any0 {w : World}  {a : Value} {n : Int} {b : Value} {m : Int} (ha : Sl Kd.u32 w (fun _ => False) a (ml n)) (hb : Sl Kd.u32 w (fun _ => False) b (ml m)) (hbn : Bd 90000 n) (hbm : Bd 90000 m)  :
    Calls Try.prog 59 [.agg [.bool (decide (n < 0)), a].toArray, .agg [.bool (decide (m < 0)), b].toArray].toArray w (Pure w fun v W => IsBig W v (n + m)) := by
  have hb0 := Below.refl w.heap.size w
  have hal : (tl (nv (ml n) + nv (ml m))).length ≤ 90001 := by rw [nv_ml, nv_ml]; exact tl_len (by omega) (by have h1 := (bd_add (i := 90001) hbn hbm (by decide) (by decide)); have h2 := (bd_sub (i := 90001) hbn hbm (by decide) (by decide)); unfold Bd at *; omega)
  have hsl : (tl (nv (ml n) - nv (ml m))).length ≤ 90001 := by rw [nv_ml, nv_ml]; by_cases h0 : ((n.natAbs : Nat) : Int) - m.natAbs ≤ 0; (rw [tl_zero h0]; exact Nat.zero_le _); exact tl_len (by omega) (by have h1 := (bd_add (i := 90001) hbn hbm (by decide) (by decide)); have h2 := (bd_sub (i := 90001) hbn hbm (by decide) (by decide)); unfold Bd at *; omega)
  have hsl2 : (tl (nv (ml m) - nv (ml n))).length ≤ 90001 := by rw [nv_ml, nv_ml]; by_cases h0 : ((m.natAbs : Nat) : Int) - n.natAbs ≤ 0; (rw [tl_zero h0]; exact Nat.zero_le _); exact tl_len (by omega) (by have h1 := (bd_add (i := 90001) hbn hbm (by decide) (by decide)); have h2 := (bd_sub (i := 90001) hbn hbm (by decide) (by decide)); unfold Bd at *; omega)
  have hln := bd_len hbn
  have hlm := bd_len hbm
  have hnn := nv_ml n
  have hnm := nv_ml m
  refine enter Try.func59 rfl rfl ?_
  refine w_seq ?_
  refine w_region ?_
  refine st (s_box rfl ?_)
  intro g1 w1 hg1 hB1 k1 hs1
  change Blk w1 g1 52 [.bool (decide (n < 0)), a].toArray at hB1
  have hb1 := below_g0 hb0 k1
  refine st (s_box rfl ?_)
  intro g2 w2 hg2 hB2 k2 hs2
  change Blk w2 g2 52 [.bool (decide (m < 0)), b].toArray at hB2
  have hb2 := below_g0 hb1 k2
  refine st (s_alloc zero52 ?_)
  intro g3 w3 hg3 hB3 k3 hs3
  have hb3 := below_g0 hb2 k3
  refine r_end ?_
  refine n_then ?_
  refine w_seq ?_
  refine w_seq ?_
  refine w_region ?_
  refine st (s_faddr fld52_0 rfl ?_)
  refine st (s_load one4 rfl ((hB1.g0 k2).g0 k3).range (j := 0) rfl ?_)
  refine st (s_faddr fld52_0 rfl ?_)
  refine st (s_load one4 rfl (hB2.g0 k3).range (j := 0) rfl ?_)
  refine st (s_eqbool bool4 rfl rfl ?_)
  refine r_end ?_
  refine n_then ?_
  refine w_cond rfl (fun h1 => ?_) (fun h1 => ?_)
  · refine w_seq ?_
    refine w_draw 8 (fun a b => a.grownBy b none) [(some 12, fun v _ => v = .pointer (some ⟨g1, 0 + 0, none⟩)), (some 13, fun v _ => v = .bool (decide (n < 0))), (some 14, fun v _ => v = .pointer (some ⟨g1, 0 + 1, none⟩)), (some 15, fun v _ => Sl Kd.u32 w (fun _ => False) v (ml n)), (some 16, fun v _ => v = .pointer (some ⟨g2, 0 + 1, none⟩)), (some 17, fun v _ => Sl Kd.u32 w (fun _ => False) v (ml m)), (some 18, fun v W => Sl Kd.u32 W (fun _ => False) v (tl (nv (ml n) + nv (ml m)))), (some 19, fun v W => IsBig W v (sg (decide (n < 0)) (nv (tl (nv (ml n) + nv (ml m))))))] [[], [0], [], [2], [], [4], [3, 5], [1, 6]] [(2, .pointer (some ⟨g1, 0, none⟩)), (3, .pointer (some ⟨g2, 0, none⟩)), (4, .pointer (some ⟨g3, 0, none⟩))] (by exact ⟨rfl, rfl, rfl, trivial⟩) (by kernel_rfl) (by kernel_rfl) grown_none_refl (fun _ _ _ => grown_none_trans) ⟨fun _ _ _ h _ => h, fun _ _ _ h _ => h, fun _ _ _ h _ => h, fun _ _ _ h _ => h, fun _ _ _ h _ => h, fun _ _ _ h _ => h, fun _ _ _ h k => h.g0 k, fun _ _ _ h k => h.g0 k, trivial⟩ ?_
    intro w6 k6 hs4
    have hb4 := below_g0 hb3 k6
    refine ⟨⟨?_, ?_, ?_, ?_, ?_, ?_, ?_, ?_, trivial⟩, ?_⟩
    · intro w7 k7
      have hb5 := below_g0 hb4 k7
      refine op1 (s_faddr fld52_0 rfl ?_)
      exact ⟨rfl, grown_none_refl _⟩
    · intro w8 k8
      have hb6 := below_g0 hb4 k8
      rintro _ rfl
      refine op1 (s_load one4 rfl ((((hB1.g0 k2).g0 k3).g0 k6).g0 k8).range (j := 0) rfl ?_)
      exact ⟨rfl, grown_none_refl _⟩
    · intro w9 k9
      have hb7 := below_g0 hb4 k9
      refine op1 (s_faddr fld52_1 rfl ?_)
      exact ⟨rfl, grown_none_refl _⟩
    · intro w10 k10
      have hb8 := below_g0 hb4 k10
      rintro _ rfl
      refine op1 (s_load one32 rfl ((((hB1.g0 k2).g0 k3).g0 k6).g0 k10).range (j := 1) rfl ?_)
      exact ⟨ha, grown_none_refl _⟩
    · intro w11 k11
      have hb9 := below_g0 hb4 k11
      refine op1 (s_faddr fld52_1 rfl ?_)
      exact ⟨rfl, grown_none_refl _⟩
    · intro w12 k12
      have hb10 := below_g0 hb4 k12
      rintro _ rfl
      refine op1 (s_load one32 rfl (((hB2.g0 k3).g0 k6).g0 k12).range (j := 1) rfl ?_)
      exact ⟨hb, grown_none_refl _⟩
    · intro w13 k13
      have hb11 := below_g0 hb4 k13
      intro v3 hS3
      intro v4 hS4
      refine op1 (s_call fn27 rfl (radd_any ((hS3.at0 hb11)).none ((hS4.at0 hb11)).none (by first | omega | (simp; done) | (simp; omega)) (by first | omega | (simp; done) | (simp; omega))) ?_)
      rintro v5 w14 ⟨hq3, hS5⟩
      have k14 := grown_of_below hq3 none
      have hz1 := hq3.size
      have hb12 := below_g0 hb11 k14
      have hz2 := hb12.size
      exact ⟨hS5, k14⟩
    · intro w15 k15
      have hb13 := below_g0 hb4 k15
      rintro _ rfl
      intro v6 hS6
      refine op1 (s_call fn84 rfl (sign_any (hS6).none (by first | omega | (simp; done) | (simp; omega))) ?_)
      rintro _ w16 ⟨hq4, v7, rfl, hS7⟩
      have k16 := grown_of_below hq4 none
      have hz3 := hq4.size
      have hb14 := below_g0 hb13 k16
      have hz4 := hb14.size
      exact ⟨⟨_, rfl, hS7⟩, k16⟩
    · intro w17 k17
      have hb15 := below_g0 hb4 k17
      rintro _ rfl
      rintro _ rfl
      rintro _ rfl
      intro v8 hS8
      rintro _ rfl
      intro v9 hS9
      intro v10 hS10
      rintro _ ⟨v11, rfl, hS11⟩
      refine st0 (s_storeN row52 rfl rfl ((hB3.g0 k6).g0 k17) (by simp only [List.all_cons, List.all_nil, hS11.one, Bool.and_true, Bool.and_self] <;> rfl) rfl rfl ?_)
      intro w18 hB4 k18 hs5
      have hb16 := below_g hb15 k18 (by omega)
      refine r_end ?_
      refine n_then ?_
      refine w_retc1 rfl row52 rfl hB4.range rfl ?_
      have he : sg (decide (n < 0)) (nv (tl (nv (ml n) + nv (ml m)))) = n + m := (by rw [nv_tl (by omega)]; exact sg_add (eq_of_beq h1))
      exact ⟨_, rfl, hb16, big_of he ((hS11.gB k18 ((hB3.g0 k6).g0 k17) rfl)).none⟩
  · refine w_skip' ?_
    refine n_then ?_
    refine w_seq ?_
    refine w_region ?_
    refine st (s_faddr fld52_1 rfl ?_)
    refine st (s_load one32 rfl ((hB1.g0 k2).g0 k3).range (j := 1) rfl ?_)
    refine st (s_faddr fld52_1 rfl ?_)
    refine st (s_load one32 rfl (hB2.g0 k3).range (j := 1) rfl ?_)
    refine st (s_call fn24 rfl (rsub_any ((ha.at0 hb3)).none ((hb.at0 hb3)).none (by first | omega | (simp; done) | (simp; omega)) (by first | omega | (simp; done) | (simp; omega))) ?_)
    rintro _ w19 ⟨hq5, v12, rfl, hS12⟩
    have k19 := grown_of_below hq5 none
    have hz5 := hq5.size
    have hb17 := below_g0 hb3 k19
    have hz6 := hb17.size
    refine st (s_move rfl ?_)
    refine st (s_extract rfl rfl ?_)
    refine st (s_extract rfl rfl ?_)
    refine st (s_assign rfl ?_)
    refine st (s_assign rfl ?_)
    refine r_end ?_
    refine n_then ?_
    refine w_seq ?_
    refine w_seq ?_
    refine w_region ?_
    refine st (s_move rfl ?_)
    refine r_end ?_
    refine n_then ?_
    refine w_cond rfl (fun h2 => ?_) (fun h2 => ?_)
    · refine w_seq ?_
      refine w_region ?_
      refine st (s_faddr fld52_0 rfl ?_)
      refine st (s_load one4 rfl (((hB1.g0 k2).g0 k3).g0 k19).range (j := 0) rfl ?_)
      refine st (s_move rfl ?_)
      refine st (s_call fn84 rfl (sign_any (hS12).none (by first | omega | (simp; done) | (simp; omega))) ?_)
      rintro _ w20 ⟨hq6, v13, rfl, hS13⟩
      have k20 := grown_of_below hq6 none
      have hz7 := hq6.size
      have hb18 := below_g0 hb17 k20
      have hz8 := hb18.size
      refine st0 (s_storeN row52 rfl rfl ((hB3.g0 k19).g0 k20) (by simp only [List.all_cons, List.all_nil, hS13.one, Bool.and_true, Bool.and_self] <;> rfl) rfl rfl ?_)
      intro w21 hB5 k21 hs6
      have hb19 := below_g hb18 k21 (by omega)
      refine r_end ?_
      refine n_then ?_
      refine w_retc1 rfl row52 rfl hB5.range rfl ?_
      have he : sg (decide (n < 0)) (nv (tl (nv (ml n) - nv (ml m)))) = n + m := (by have hle : nv (ml m) ≤ nv (ml n) := (by simpa using h2); rw [nv_tl (by omega)]; exact sg_sub (fun e => by rw [e, beq_self_eq_true] at h1; cases h1) hle)
      exact ⟨_, rfl, hb19, big_of he ((hS13.gB k21 ((hB3.g0 k19).g0 k20) rfl)).none⟩
    · refine w_skip' ?_
      refine n_then ?_
      refine w_seq ?_
      refine w_region ?_
      refine st (s_faddr fld52_1 rfl ?_)
      refine st (s_load one32 rfl ((hB2.g0 k3).g0 k19).range (j := 1) rfl ?_)
      refine st (s_faddr fld52_1 rfl ?_)
      refine st (s_load one32 rfl (((hB1.g0 k2).g0 k3).g0 k19).range (j := 1) rfl ?_)
      refine st (s_call fn24 rfl (rsub_any ((hb.at0 hb17)).none ((ha.at0 hb17)).none (by first | omega | (simp; done) | (simp; omega)) (by first | omega | (simp; done) | (simp; omega))) ?_)
      rintro _ w22 ⟨hq7, v14, rfl, hS14⟩
      have k22 := grown_of_below hq7 none
      have hz9 := hq7.size
      have hb20 := below_g0 hb17 k22
      have hz10 := hb20.size
      refine st (s_move rfl ?_)
      refine st (s_extract rfl rfl ?_)
      refine st (s_extract rfl rfl ?_)
      refine st (s_assign rfl ?_)
      refine r_end ?_
      refine n_then ?_
      refine w_seq ?_
      refine w_region ?_
      refine st (s_faddr fld52_0 rfl ?_)
      refine st (s_load one4 rfl (((hB2.g0 k3).g0 k19).g0 k22).range (j := 0) rfl ?_)
      refine st (s_move rfl ?_)
      refine st (s_call fn84 rfl (sign_any (hS14).none (by first | omega | (simp; done) | (simp; omega))) ?_)
      rintro _ w23 ⟨hq8, v15, rfl, hS15⟩
      have k23 := grown_of_below hq8 none
      have hz11 := hq8.size
      have hb21 := below_g0 hb20 k23
      have hz12 := hb21.size
      refine st0 (s_storeN row52 rfl rfl (((hB3.g0 k19).g0 k22).g0 k23) (by simp only [List.all_cons, List.all_nil, hS15.one, Bool.and_true, Bool.and_self] <;> rfl) rfl rfl ?_)
      intro w24 hB6 k24 hs7
      have hb22 := below_g hb21 k24 (by omega)
      refine r_end ?_
      refine n_then ?_
      refine w_retc1 rfl row52 rfl hB6.range rfl ?_
      have he : sg (decide (m < 0)) (nv (tl (nv (ml m) - nv (ml n)))) = n + m := (by have hle : ¬ nv (ml m) ≤ nv (ml n) := (by simpa using h2); rw [nv_tl (by omega)]; exact (sg_sub (fun e => by rw [e, beq_self_eq_true] at h1; cases h1) (by omega)).trans (Int.add_comm m n))
      exact ⟨_, rfl, hb22, big_of he ((hS15.gB k24 (((hB3.g0 k19).g0 k22).g0 k23) rfl)).none⟩

theorem rbadd_any {w : World}  {vn : Value} {n : Int} {vm : Value} {m : Int} (hn : IsBig w vn n) (hm : IsBig w vm m) (hbn : Bd 90000 n) (hbm : Bd 90000 m)  :
    Calls Try.prog 59 [vn, vm].toArray w (Pure w fun v W => IsBig W v (n + m)) := by
  obtain ⟨sn, rfl, kn⟩ := hn
  obtain ⟨sm, rfl, km⟩ := hm
  exact rbadd_any0 kn km hbn hbm

theorem rbsub_any0 {w : World}  {a : Value} {n : Int} {b : Value} {m : Int} (ha : Sl Kd.u32 w (fun _ => False) a (ml n)) (hb : Sl Kd.u32 w (fun _ => False) b (ml m)) (hbn : Bd 90000 n) (hbm : Bd 90000 m)  :
    Calls Try.prog 61 [.agg [.bool (decide (n < 0)), a].toArray, .agg [.bool (decide (m < 0)), b].toArray].toArray w (Pure w fun v W => IsBig W v (n - m)) := by
  have hb0 := Below.refl w.heap.size w
  have hln := bd_len hbn
  have hlm := bd_len hbm
  have hnn := nv_ml n
  have hnm := nv_ml m
  refine enter Try.func61 rfl rfl ?_
  refine w_seq ?_
  refine w_region ?_
  refine st (s_box rfl ?_)
  intro g1 w1 hg1 hB1 k1 hs1
  change Blk w1 g1 52 [.bool (decide (n < 0)), a].toArray at hB1
  have hb1 := below_g0 hb0 k1
  refine st (s_box rfl ?_)
  intro g2 w2 hg2 hB2 k2 hs2
  change Blk w2 g2 52 [.bool (decide (m < 0)), b].toArray at hB2
  have hb2 := below_g0 hb1 k2
  refine st (s_alloc zero52 ?_)
  intro g3 w3 hg3 hB3 k3 hs3
  have hb3 := below_g0 hb2 k3
  refine r_end ?_
  refine n_then ?_
  refine w_seq ?_
  refine w_draw 4 (fun a b => a.grownBy b none) [(some 5, fun v _ => v = .agg [.bool (decide (n < 0)), a].toArray), (some 6, fun v _ => v = .agg [.bool (decide (m < 0)), b].toArray), (some 7, fun v W => IsBig W v ((-m))), (some 8, fun v W => IsBig W v ((n + (-m))))] [[], [], [1], [0, 2]] [(2, .pointer (some ⟨g1, 0, none⟩)), (3, .pointer (some ⟨g2, 0, none⟩)), (4, .pointer (some ⟨g3, 0, none⟩))] (by exact ⟨rfl, rfl, rfl, trivial⟩) (by kernel_rfl) (by kernel_rfl) grown_none_refl (fun _ _ _ => grown_none_trans) ⟨fun _ _ _ h _ => h, fun _ _ _ h _ => h, fun _ _ _ h k => h.g0 k, fun _ _ _ h k => h.g0 k, trivial⟩ ?_
  intro w6 k6 hs4
  have hb4 := below_g0 hb3 k6
  refine ⟨⟨?_, ?_, ?_, ?_, trivial⟩, ?_⟩
  · intro w7 k7
    have hb5 := below_g0 hb4 k7
    refine op1 (s_loadW row52 rfl ((((hB1.g0 k2).g0 k3).g0 k6).g0 k7).range rfl ?_)
    exact ⟨rfl, grown_none_refl _⟩
  · intro w8 k8
    have hb6 := below_g0 hb4 k8
    refine op1 (s_loadW row52 rfl (((hB2.g0 k3).g0 k6).g0 k8).range rfl ?_)
    exact ⟨rfl, grown_none_refl _⟩
  · intro w9 k9
    have hb7 := below_g0 hb4 k9
    rintro _ rfl
    refine op1 (s_call fn63 rfl (rminus_any (big_of rfl ((hb.at0 hb7)).none) (Bd.le hbm (show 90000 ≤ 90000 by decide))) ?_)
    rintro _ w10 ⟨hq3, v3, rfl, hS3⟩
    have k10 := grown_of_below hq3 none
    have hz1 := hq3.size
    have hb8 := below_g0 hb7 k10
    have hz2 := hb8.size
    exact ⟨⟨_, rfl, hS3⟩, k10⟩
  · intro w11 k11
    have hb9 := below_g0 hb4 k11
    rintro _ rfl
    rintro _ ⟨v4, rfl, hS4⟩
    refine op1 (s_call fn59 rfl (rbadd_any (big_of rfl ((ha.at0 hb9)).none) (big_of rfl (hS4).none) (Bd.le hbn (show 90000 ≤ 90000 by decide)) (Bd.le (bd_neg hbm) (show 90000 ≤ 90000 by decide))) ?_)
    rintro _ w12 ⟨hq4, v5, rfl, hS5⟩
    have k12 := grown_of_below hq4 none
    have hz3 := hq4.size
    have hb10 := below_g0 hb9 k12
    have hz4 := hb10.size
    exact ⟨⟨_, rfl, hS5⟩, k12⟩
  · intro w13 k13
    have hb11 := below_g0 hb4 k13
    rintro _ rfl
    rintro _ rfl
    rintro _ ⟨v6, rfl, hS6⟩
    rintro _ ⟨v7, rfl, hS7⟩
    refine st0 (s_storeN row52 rfl rfl ((hB3.g0 k6).g0 k13) (by simp only [List.all_cons, List.all_nil, hS7.one, Bool.and_true, Bool.and_self] <;> rfl) rfl rfl ?_)
    intro w14 hB4 k14 hs5
    have hb12 := below_g hb11 k14 (by omega)
    refine r_end ?_
    refine n_then ?_
    refine w_retc1 rfl row52 rfl hB4.range rfl ?_
    exact ⟨_, rfl, hb12, big_of (by omega) ((hS7.gB k14 ((hB3.g0 k6).g0 k13) rfl)).none⟩

theorem rbsub_any {w : World}  {vn : Value} {n : Int} {vm : Value} {m : Int} (hn : IsBig w vn n) (hm : IsBig w vm m) (hbn : Bd 90000 n) (hbm : Bd 90000 m)  :
    Calls Try.prog 61 [vn, vm].toArray w (Pure w fun v W => IsBig W v (n - m)) := by
  obtain ⟨sn, rfl, kn⟩ := hn
  obtain ⟨sm, rfl, km⟩ := hm
  exact rbsub_any0 kn km hbn hbm

theorem rbcmp_any0 {w : World}  {a : Value} {n : Int} {b : Value} {m : Int} (ha : Sl Kd.u32 w (fun _ => False) a (ml n)) (hb : Sl Kd.u32 w (fun _ => False) b (ml m)) (hbn : Bd 90000 n) (hbm : Bd 90000 m)  :
    Calls Try.prog 65 [.agg [.bool (decide (n < 0)), a].toArray, .agg [.bool (decide (m < 0)), b].toArray].toArray w (Pure w fun v _ => v = .int .i64 (cmpI n m)) := by
  have hb0 := Below.refl w.heap.size w
  have hln := bd_len hbn
  have hlm := bd_len hbm
  have hnn := nv_ml n
  have hnm := nv_ml m
  refine enter Try.func65 rfl rfl ?_
  refine w_seq ?_
  refine w_region ?_
  refine st (s_box rfl ?_)
  intro g1 w1 hg1 hB1 k1 hs1
  change Blk w1 g1 52 [.bool (decide (n < 0)), a].toArray at hB1
  have hb1 := below_g0 hb0 k1
  refine st (s_box rfl ?_)
  intro g2 w2 hg2 hB2 k2 hs2
  change Blk w2 g2 52 [.bool (decide (m < 0)), b].toArray at hB2
  have hb2 := below_g0 hb1 k2
  refine st (s_assign rfl ?_)
  refine r_end ?_
  refine n_then ?_
  refine w_seq ?_
  refine w_region ?_
  refine st (s_loadW row52 rfl (hB1.g0 k2).range rfl ?_)
  refine st (s_loadW row52 rfl hB2.range rfl ?_)
  refine st (s_call fn61 rfl (rbsub_any (big_of rfl ((ha.at0 hb2)).none) (big_of rfl ((hb.at0 hb2)).none) (Bd.le hbn (show 90000 ≤ 90000 by decide)) (Bd.le hbm (show 90000 ≤ 90000 by decide))) ?_)
  rintro _ w3 ⟨hq1, v1, rfl, hS1⟩
  have k3 := grown_of_below hq1 none
  have hz1 := hq1.size
  have hb3 := below_g0 hb2 k3
  have hz2 := hb3.size
  refine st (s_alloc zero52 ?_)
  intro g3 w4 hg3 hB3 k4 hs3
  have hb4 := below_g0 hb3 k4
  refine st0 (s_storeN row52 rfl rfl hB3 (by simp only [List.all_cons, List.all_nil, hS1.one, Bool.and_true, Bool.and_self] <;> rfl) rfl rfl ?_)
  intro w5 hB4 k5 hs4
  have hb5 := below_g hb4 k5 (by omega)
  refine r_end ?_
  refine n_then ?_
  refine w_seq ?_
  refine w_block ?_
  refine w_seq ?_
  refine w_region ?_
  refine st (s_faddr fld52_1 rfl ?_)
  refine st (s_load one32 rfl hB4.range (j := 1) rfl ?_)
  refine st (s_len sl32 rfl ((hS1.g0 k4).gB k5 hB3 rfl) ?_)
  refine st (s_eq rfl rfl ?_)
  refine st (s_assign rfl ?_)
  refine r_end ?_
  refine n_then ?_
  refine w_condP rfl (fun h1 => ?_) (fun h1 => ?_)
  · refine w_seq ?_
    refine w_region ?_
    refine st (s_assign rfl ?_)
    refine r_end ?_
    refine n_then ?_
    refine w_ret1 rfl rfl ?_
    exact ⟨_, rfl, hb5, congrArg (Value.int .i64) (rcmp_big.2.2 (ml_nil.1 h1)).symm⟩
  · refine w_seq ?_
    refine w_region ?_
    refine st (s_faddr fld52_0 rfl ?_)
    refine st (s_load one4 rfl hB4.range (j := 0) rfl ?_)
    refine st (s_assign rfl ?_)
    refine r_end ?_
    refine n_then ?_
    refine w_condP rfl (fun h2 => ?_) (fun h2 => ?_)
    · refine w_seq ?_
      refine w_region ?_
      refine st (s_assign rfl ?_)
      refine r_end ?_
      refine n_then ?_
      refine w_ret1 rfl rfl ?_
      exact ⟨_, rfl, hb5, congrArg (Value.int .i64) (rcmp_big.2.1 h2).symm⟩
    · refine w_skip' ?_
      refine n_block ?_
      refine n_then ?_
      refine w_seq ?_
      refine w_region ?_
      refine st (s_assign rfl ?_)
      refine r_end ?_
      refine n_then ?_
      refine w_ret1 rfl rfl ?_
      exact ⟨_, rfl, hb5, congrArg (Value.int .i64) (rcmp_big.1 (by have h9 : n - m ≠ 0 := fun e => h1 (ml_nil.2 e); omega)).symm⟩

theorem rbcmp_any {w : World}  {vn : Value} {n : Int} {vm : Value} {m : Int} (hn : IsBig w vn n) (hm : IsBig w vm m) (hbn : Bd 90000 n) (hbm : Bd 90000 m)  :
    Calls Try.prog 65 [vn, vm].toArray w (Pure w fun v _ => v = .int .i64 (cmpI n m)) := by
  obtain ⟨sn, rfl, kn⟩ := hn
  obtain ⟨sm, rfl, km⟩ := hm
  exact rbcmp_any0 kn km hbn hbm

theorem rbshl_any0 {w : World} {k : Int} {a : Value} {n : Int} (ha : Sl Kd.u32 w (fun _ => False) a (ml n)) (hbn : Bd 90000 n)  :
    Calls Try.prog 67 [.agg [.bool (decide (n < 0)), a].toArray, .int .i64 k].toArray w (Pure w fun v W => IsBig W v (shlN n k)) := by
  have hb0 := Below.refl w.heap.size w
  have hsl := shlL_len (k := k) hbn
  have hln := bd_len hbn
  have hnn := nv_ml n
  refine enter Try.func67 rfl rfl ?_
  refine w_seq ?_
  refine w_region ?_
  refine st (s_box rfl ?_)
  intro g1 w1 hg1 hB1 k1 hs1
  change Blk w1 g1 52 [.bool (decide (n < 0)), a].toArray at hB1
  have hb1 := below_g0 hb0 k1
  refine st (s_alloc zero52 ?_)
  intro g2 w2 hg2 hB2 k2 hs2
  have hb2 := below_g0 hb1 k2
  refine r_end ?_
  refine n_then ?_
  refine w_seq ?_
  refine w_draw 7 (fun a b => a.grownBy b none) [(some 5, fun v _ => v = .pointer (some ⟨g1, 0 + 0, none⟩)), (some 6, fun v _ => v = .bool (decide (n < 0))), (some 7, fun v _ => v = .pointer (some ⟨g1, 0 + 1, none⟩)), (some 8, fun v _ => Sl Kd.u32 w (fun _ => False) v (ml n)), (some 9, fun v _ => v = .int .i64 k), (some 10, fun v W => Sl Kd.u32 W (fun _ => False) v (shlL (ml n) k)), (some 11, fun v W => IsBig W v (sg (decide (n < 0)) (nv (shlL (ml n) k))))] [[], [0], [], [2], [], [3, 4], [1, 5]] [(1, .int .i64 k), (2, .pointer (some ⟨g1, 0, none⟩)), (4, .pointer (some ⟨g2, 0, none⟩))] (by exact ⟨rfl, rfl, rfl, trivial⟩) (by kernel_rfl) (by kernel_rfl) grown_none_refl (fun _ _ _ => grown_none_trans) ⟨fun _ _ _ h _ => h, fun _ _ _ h _ => h, fun _ _ _ h _ => h, fun _ _ _ h _ => h, fun _ _ _ h _ => h, fun _ _ _ h k => h.g0 k, fun _ _ _ h k => h.g0 k, trivial⟩ ?_
  intro w5 k5 hs3
  have hb3 := below_g0 hb2 k5
  refine ⟨⟨?_, ?_, ?_, ?_, ?_, ?_, ?_, trivial⟩, ?_⟩
  · intro w6 k6
    have hb4 := below_g0 hb3 k6
    refine op1 (s_faddr fld52_0 rfl ?_)
    exact ⟨rfl, grown_none_refl _⟩
  · intro w7 k7
    have hb5 := below_g0 hb3 k7
    rintro _ rfl
    refine op1 (s_load one4 rfl (((hB1.g0 k2).g0 k5).g0 k7).range (j := 0) rfl ?_)
    exact ⟨rfl, grown_none_refl _⟩
  · intro w8 k8
    have hb6 := below_g0 hb3 k8
    refine op1 (s_faddr fld52_1 rfl ?_)
    exact ⟨rfl, grown_none_refl _⟩
  · intro w9 k9
    have hb7 := below_g0 hb3 k9
    rintro _ rfl
    refine op1 (s_load one32 rfl (((hB1.g0 k2).g0 k5).g0 k9).range (j := 1) rfl ?_)
    exact ⟨ha, grown_none_refl _⟩
  · intro w10 k10
    have hb8 := below_g0 hb3 k10
    refine op1 (s_move rfl ?_)
    exact ⟨rfl, grown_none_refl _⟩
  · intro w11 k11
    have hb9 := below_g0 hb3 k11
    intro v3 hS3
    rintro _ rfl
    refine op1 (s_call fn31 rfl (rshl_any ((hS3.at0 hb9)).none (by first | omega | (simp; done) | (simp; omega))) ?_)
    rintro v4 w12 ⟨hq3, hS4⟩
    have k12 := grown_of_below hq3 none
    have hz1 := hq3.size
    have hb10 := below_g0 hb9 k12
    have hz2 := hb10.size
    exact ⟨hS4, k12⟩
  · intro w13 k13
    have hb11 := below_g0 hb3 k13
    rintro _ rfl
    intro v5 hS5
    refine op1 (s_call fn84 rfl (sign_any (hS5).none (by first | omega | (simp; done) | (simp; omega))) ?_)
    rintro _ w14 ⟨hq4, v6, rfl, hS6⟩
    have k14 := grown_of_below hq4 none
    have hz3 := hq4.size
    have hb12 := below_g0 hb11 k14
    have hz4 := hb12.size
    exact ⟨⟨_, rfl, hS6⟩, k14⟩
  · intro w15 k15
    have hb13 := below_g0 hb3 k15
    rintro _ rfl
    rintro _ rfl
    rintro _ rfl
    intro v7 hS7
    rintro _ rfl
    intro v8 hS8
    rintro _ ⟨v9, rfl, hS9⟩
    refine st0 (s_storeN row52 rfl rfl ((hB2.g0 k5).g0 k15) (by simp only [List.all_cons, List.all_nil, hS9.one, Bool.and_true, Bool.and_self] <;> rfl) rfl rfl ?_)
    intro w16 hB3 k16 hs4
    have hb14 := below_g hb13 k16 (by omega)
    refine r_end ?_
    refine n_then ?_
    refine w_retc1 rfl row52 rfl hB3.range rfl ?_
    exact ⟨_, rfl, hb14, big_of (by rw [nv_shlL _ _ (by omega)]; exact sg_shl n k) ((hS9.gB k16 ((hB2.g0 k5).g0 k15) rfl)).none⟩

theorem rbshl_any {w : World} {k : Int} {vn : Value} {n : Int} (hn : IsBig w vn n) (hbn : Bd 90000 n)  :
    Calls Try.prog 67 [vn, .int .i64 k].toArray w (Pure w fun v W => IsBig W v (shlN n k)) := by
  obtain ⟨sn, rfl, kn⟩ := hn
  exact rbshl_any0 kn hbn

theorem rbshr_any0 {w : World} {k : Int} {a : Value} {n : Int} (ha : Sl Kd.u32 w (fun _ => False) a (ml n)) (hbn : Bd 80000 n)  :
    Calls Try.prog 69 [.agg [.bool (decide (n < 0)), a].toArray, .int .i64 k].toArray w (Pure w fun v W => IsBig W v (shrN n k)) := by
  have hb0 := Below.refl w.heap.size w
  have hsl := shrL_len (k := k) (hbn.le (by decide))
  have hbq := trN_bd (n := k) hbn
  have hln := bd_len hbn
  have hnn := nv_ml n
  refine enter Try.func69 rfl rfl ?_
  refine w_seq ?_
  refine w_region ?_
  refine st (s_box rfl ?_)
  intro g1 w1 hg1 hB1 k1 hs1
  change Blk w1 g1 52 [.bool (decide (n < 0)), a].toArray at hB1
  have hb1 := below_g0 hb0 k1
  refine st (s_alloc zero52 ?_)
  intro g2 w2 hg2 hB2 k2 hs2
  have hb2 := below_g0 hb1 k2
  refine r_end ?_
  refine n_then ?_
  refine w_seq ?_
  refine w_seq ?_
  refine w_region ?_
  refine st (s_move rfl ?_)
  refine st (s_lt rfl rfl ?_)
  refine st (s_move rfl ?_)
  refine r_caseP 8 rfl (fun h1 => ?_) (fun h1 => ?_)
  · refine s_pass rfl rfl ?_
    refine s_pass rfl rfl ?_
    refine st (s_pick rfl rfl ?_)
    refine r_end ?_
    refine n_then ?_
    refine w_condT rfl ?_
    refine w_seq ?_
    refine w_region ?_
    refine st (s_build (ps := []) (ccs := []) (cells := [.bool false, .slice none 0 0]) rfl rfl (by kernel_rfl) ?_)
    refine st0 (s_storeN row52 rfl rfl hB2 rfl rfl rfl ?_)
    intro w3 hB3 k3 hs3
    have hb3 := below_g hb2 k3 (by omega)
    refine r_end ?_
    refine n_then ?_
    refine w_retc1 rfl row52 rfl hB3.range rfl ?_
    exact ⟨_, rfl, hb3, _, by rw [← rshr_unfit (x := n) (n := k) (by omega)]; rfl, by rw [← rshr_unfit (x := n) (n := k) (by omega), show ml 0 = [] from tl_zero (Int.le_refl _)]; exact (Own.nil Kd.u32 44 w.heap.size _ (fun _ => False)).sl⟩
  · refine stg (s_move rfl ?_)
    refine stg (s_gt rfl rfl ?_)
    refine st (s_pick rfl rfl ?_)
    refine r_end ?_
    refine n_then ?_
    refine w_condP rfl (fun h2 => ?_) (fun h2 => ?_)
    · refine w_seq ?_
      refine w_region ?_
      refine st (s_build (ps := []) (ccs := []) (cells := [.bool false, .slice none 0 0]) rfl rfl (by kernel_rfl) ?_)
      refine st0 (s_storeN row52 rfl rfl hB2 rfl rfl rfl ?_)
      intro w4 hB4 k4 hs4
      have hb4 := below_g hb2 k4 (by omega)
      refine r_end ?_
      refine n_then ?_
      refine w_retc1 rfl row52 rfl hB4.range rfl ?_
      exact ⟨_, rfl, hb4, _, by rw [← rshr_unfit (x := n) (n := k) (by omega)]; rfl, by rw [← rshr_unfit (x := n) (n := k) (by omega), show ml 0 = [] from tl_zero (Int.le_refl _)]; exact (Own.nil Kd.u32 44 w.heap.size _ (fun _ => False)).sl⟩
    · refine w_skip' ?_
      refine n_then ?_
      refine w_seq ?_
      have hlt_1 := ((hB1.g0 k2)).lt
      have hlt_2 := (hB2).lt
      refine w_draw 8 (fun a b => a.grownBy b none) [(some 13, fun v _ => v = .pointer (some ⟨g1, 0 + 0, none⟩)), (some 14, fun v _ => v = .bool (decide (n < 0))), (some 15, fun v _ => v = .pointer (some ⟨g1, 0 + 1, none⟩)), (some 16, fun v _ => Sl Kd.u32 w (fun _ => False) v (ml n)), (some 17, fun v _ => v = .int .i64 k), (some 18, fun v W => Sl Kd.u32 W (fun _ => False) v (shrL (ml n) k)), (some 19, fun v W => IsBig W v (sg (decide (n < 0)) (nv (shrL (ml n) k)))), (some 5, fun v W => ∃ g, v = .pointer (some ⟨g, 0, none⟩) ∧ Blk W g 52 #[.bool false, .slice none 0 0] ∧ w2.heap.size ≤ g)] [[], [0], [], [2], [], [3, 4], [1, 5], []] [(1, .int .i64 k), (2, .pointer (some ⟨g1, 0, none⟩)), (4, .pointer (some ⟨g2, 0, none⟩))] (by exact ⟨rfl, rfl, rfl, trivial⟩) (by kernel_rfl) (by kernel_rfl) grown_none_refl (fun _ _ _ => grown_none_trans) ⟨fun _ _ _ h _ => h, fun _ _ _ h _ => h, fun _ _ _ h _ => h, fun _ _ _ h _ => h, fun _ _ _ h _ => h, fun _ _ _ h k => h.g0 k, fun _ _ _ h k => h.g0 k, fun _ _ _ h k => by obtain ⟨g, e, hB, hg⟩ := h; exact ⟨g, e, hB.g0 k, hg⟩, trivial⟩ ?_
      intro w8 k8 hs6
      have hb5 := below_g0 hb2 k8
      refine ⟨⟨?_, ?_, ?_, ?_, ?_, ?_, ?_, ?_, trivial⟩, ?_⟩
      · intro w9 k9
        have hb6 := below_g0 hb5 k9
        refine op1 (s_faddr fld52_0 rfl ?_)
        exact ⟨rfl, grown_none_refl _⟩
      · intro w10 k10
        have hb7 := below_g0 hb5 k10
        rintro _ rfl
        refine op1 (s_load one4 rfl (((hB1.g0 k2).g0 k8).g0 k10).range (j := 0) rfl ?_)
        exact ⟨rfl, grown_none_refl _⟩
      · intro w11 k11
        have hb8 := below_g0 hb5 k11
        refine op1 (s_faddr fld52_1 rfl ?_)
        exact ⟨rfl, grown_none_refl _⟩
      · intro w12 k12
        have hb9 := below_g0 hb5 k12
        rintro _ rfl
        refine op1 (s_load one32 rfl (((hB1.g0 k2).g0 k8).g0 k12).range (j := 1) rfl ?_)
        exact ⟨ha, grown_none_refl _⟩
      · intro w13 k13
        have hb10 := below_g0 hb5 k13
        refine op1 (s_move rfl ?_)
        exact ⟨rfl, grown_none_refl _⟩
      · intro w14 k14
        have hb11 := below_g0 hb5 k14
        intro v3 hS3
        rintro _ rfl
        refine op1 (s_call fn33 rfl (rshr_any ((hS3.at0 hb11)).none (by first | omega | (simp; done) | (simp; omega))) ?_)
        rintro v4 w15 ⟨hq3, hS4⟩
        have k15 := grown_of_below hq3 none
        have hz1 := hq3.size
        have hb12 := below_g0 hb11 k15
        have hz2 := hb12.size
        exact ⟨hS4, k15⟩
      · intro w16 k16
        have hb13 := below_g0 hb5 k16
        rintro _ rfl
        intro v5 hS5
        refine op1 (s_call fn84 rfl (sign_any (hS5).none (by first | omega | (simp; done) | (simp; omega))) ?_)
        rintro _ w17 ⟨hq4, v6, rfl, hS6⟩
        have k17 := grown_of_below hq4 none
        have hz3 := hq4.size
        have hb14 := below_g0 hb13 k17
        have hz4 := hb14.size
        exact ⟨⟨_, rfl, hS6⟩, k17⟩
      · intro w18 k18
        have hb15 := below_g0 hb5 k18
        refine op1 (s_alloc zero52 ?_)
        intro g4 w19 hg4 hB6 k19 hs7
        have hb16 := below_g0 hb15 k19
        exact ⟨⟨_, rfl, hB6, by have h0_ := k8.size; have h1_ := k18.size; have h2_ := k19.size; omega⟩, k19⟩
      · intro w20 k20
        have hb17 := below_g0 hb5 k20
        rintro _ rfl
        rintro _ rfl
        rintro _ rfl
        intro v7 hS7
        rintro _ rfl
        intro v8 hS8
        rintro _ ⟨v9, rfl, hS9⟩
        rintro _ ⟨g5, rfl, hB7, hg5⟩
        refine st0 (s_storeN row52 rfl rfl hB7 (by simp only [List.all_cons, List.all_nil, hS9.one, Bool.and_true, Bool.and_self] <;> rfl) rfl rfl ?_)
        intro w21 hB8 k21 hs8
        have hb18 := below_g hb17 k21 (by omega)
        refine r_end ?_
        refine n_then ?_
        refine w_seq ?_
        refine w_seq ?_
        refine w_draw 6 (fun a b => a.grownBy b none) [(some 20, fun v _ => v = .agg [.bool (decide (sg (decide (n < 0)) (nv (shrL (ml n) k)) < 0)), v9].toArray), (some 21, fun v _ => v = .int .i64 k), (some 22, fun v W => IsBig W v ((shlN (sg (decide (n < 0)) (nv (shrL (ml n) k))) k))), (some 23, fun v _ => v = .agg [.bool (decide (n < 0)), a].toArray), (some 24, fun v _ => v = .int .i64 (cmpI (shlN (sg (decide (n < 0)) (nv (shrL (ml n) k))) k) n)), (some 25, fun v _ => v = .bool (decide (0 < (cmpI (shlN (sg (decide (n < 0)) (nv (shrL (ml n) k))) k) n))))] [[], [], [0, 1], [], [2, 3], [4]] [(1, .int .i64 k), (2, .pointer (some ⟨g1, 0, none⟩)), (4, .pointer (some ⟨g2, 0, none⟩)), (5, .pointer (some ⟨g5, 0, none⟩))] (by exact ⟨rfl, rfl, rfl, rfl, trivial⟩) (by kernel_rfl) (by kernel_rfl) grown_none_refl (fun _ _ _ => grown_none_trans) ⟨fun _ _ _ h _ => h, fun _ _ _ h _ => h, fun _ _ _ h k => h.g0 k, fun _ _ _ h _ => h, fun _ _ _ h _ => h, fun _ _ _ h _ => h, trivial⟩ ?_
        intro w24 k24 hs9
        have hb19 := below_g0 hb18 k24
        refine ⟨⟨?_, ?_, ?_, ?_, ?_, ?_, trivial⟩, ?_⟩
        · intro w25 k25
          have hb20 := below_g0 hb19 k25
          refine op1 (s_loadW row52 rfl ((hB8.g0 k24).g0 k25).range rfl ?_)
          exact ⟨rfl, grown_none_refl _⟩
        · intro w26 k26
          have hb21 := below_g0 hb19 k26
          refine op1 (s_move rfl ?_)
          exact ⟨rfl, grown_none_refl _⟩
        · intro w27 k27
          have hb22 := below_g0 hb19 k27
          rintro _ rfl
          rintro _ rfl
          refine op1 (s_call fn67 rfl (rbshl_any (big_of rfl ((((hS9.gB k21 hB7 rfl).g0 k24).g0 k27)).none) (Bd.le hbq (show 80000 ≤ 90000 by decide))) ?_)
          rintro _ w28 ⟨hq7, v11, rfl, hS11⟩
          have k28 := grown_of_below hq7 none
          have hz5 := hq7.size
          have hb23 := below_g0 hb22 k28
          have hz6 := hb23.size
          exact ⟨⟨_, rfl, hS11⟩, k28⟩
        · intro w29 k29
          have hb24 := below_g0 hb19 k29
          refine op1 (s_loadW row52 rfl ((((((hB1.g0 k2).g0 k8).g0 k20).gne k21 (by omega)).g0 k24).g0 k29).range rfl ?_)
          exact ⟨rfl, grown_none_refl _⟩
        · intro w30 k30
          have hb25 := below_g0 hb19 k30
          rintro _ ⟨v12, rfl, hS12⟩
          rintro _ rfl
          refine op1 (s_call fn65 rfl (rbcmp_any (big_of rfl (hS12).none) (big_of rfl ((ha.at0 hb25)).none) (Bd.le (bd_shl hbq (show 80000 + 313 ≤ 80313 by decide)) (show 80313 ≤ 90000 by decide)) (Bd.le hbn (show 80000 ≤ 90000 by decide))) ?_)
          rintro _ w31 ⟨hq8, rfl⟩
          have k31 := grown_of_below hq8 none
          have hz7 := hq8.size
          have hb26 := below_g0 hb25 k31
          have hz8 := hb26.size
          exact ⟨rfl, k31⟩
        · intro w32 k32
          have hb27 := below_g0 hb19 k32
          rintro _ rfl
          refine op1 (s_gt rfl rfl ?_)
          exact ⟨rfl, grown_none_refl _⟩
        · intro w33 k33
          have hb28 := below_g0 hb19 k33
          rintro _ rfl
          rintro _ rfl
          rintro _ ⟨v13, rfl, hS13⟩
          rintro _ rfl
          rintro _ rfl
          rintro _ rfl
          refine r_end ?_
          refine n_then ?_
          refine w_condP rfl (fun h3 => ?_) (fun h3 => ?_)
          · refine w_seq ?_
            refine w_draw 2 (fun a b => a.grownBy b none) [(some 26, fun v _ => v = .agg [.bool (decide (sg (decide (n < 0)) (nv (shrL (ml n) k)) < 0)), v9].toArray), (some 27, fun v W => IsBig W v ((1 : Int)))] [[], []] [(4, .pointer (some ⟨g2, 0, none⟩)), (5, .pointer (some ⟨g5, 0, none⟩))] (by exact ⟨rfl, rfl, trivial⟩) (by kernel_rfl) (by kernel_rfl) grown_none_refl (fun _ _ _ => grown_none_trans) ⟨fun _ _ _ h _ => h, fun _ _ _ h k => h.g0 k, trivial⟩ ?_
            intro w35 k35 hs10
            have hb29 := below_g0 hb28 k35
            refine ⟨⟨?_, ?_, trivial⟩, ?_⟩
            · intro w36 k36
              have hb30 := below_g0 hb29 k36
              refine op1 (s_loadW row52 rfl ((((hB8.g0 k24).g0 k33).g0 k35).g0 k36).range rfl ?_)
              exact ⟨rfl, grown_none_refl _⟩
            · intro w37 k37
              have hb31 := below_g0 hb29 k37
              refine op1 (s_call fn51 rfl (rof2_any (by omega)) ?_)
              rintro _ w38 ⟨hq10, v15, rfl, hS15⟩
              have k38 := grown_of_below hq10 none
              have hz9 := hq10.size
              have hb32 := below_g0 hb31 k38
              have hz10 := hb32.size
              exact ⟨⟨_, rfl, hS15⟩, k38⟩
            · intro w39 k39
              have hb33 := below_g0 hb29 k39
              rintro _ rfl
              rintro _ ⟨v16, rfl, hS16⟩
              refine st (s_call fn61 rfl (rbsub_any (big_of rfl ((((((hS9.gB k21 hB7 rfl).g0 k24).g0 k33).g0 k35).g0 k39)).none) (big_of rfl (hS16).none) (Bd.le hbq (show 80000 ≤ 90000 by decide)) (Bd.le (bd_small (by omega)) (show 2 ≤ 90000 by decide))) ?_)
              rintro _ w40 ⟨hq11, v17, rfl, hS17⟩
              have k40 := grown_of_below hq11 none
              have hz11 := hq11.size
              have hb34 := below_g0 hb33 k40
              have hz12 := hb34.size
              refine st0 (s_storeN row52 rfl rfl ((((((((hB2.g0 k8).g0 k20).gne k21 (by omega)).g0 k24).g0 k33).g0 k35).g0 k39).g0 k40) (by simp only [List.all_cons, List.all_nil, hS17.one, Bool.and_true, Bool.and_self] <;> rfl) rfl rfl ?_)
              intro w41 hB9 k41 hs11
              have hb35 := below_g hb34 k41 (by omega)
              refine r_end ?_
              refine n_then ?_
              refine w_retc1 rfl row52 rfl hB9.range rfl ?_
              exact ⟨_, rfl, hb35, big_of (rshr_up (by omega) (by omega) h3) ((hS17.gB k41 ((((((((hB2.g0 k8).g0 k20).gne k21 (by omega)).g0 k24).g0 k33).g0 k35).g0 k39).g0 k40) rfl)).none⟩
          · refine w_skip' ?_
            refine n_then ?_
            refine w_seq ?_
            refine w_region ?_
            refine st (s_loadW row52 rfl ((hB8.g0 k24).g0 k33).range rfl ?_)
            refine st0 (s_storeN row52 rfl rfl (((((hB2.g0 k8).g0 k20).gne k21 (by omega)).g0 k24).g0 k33) (by simp only [List.all_cons, List.all_nil, hS9.one, Bool.and_true, Bool.and_self] <;> rfl) rfl rfl ?_)
            intro w42 hB10 k42 hs12
            have hb36 := below_g hb28 k42 (by omega)
            refine r_end ?_
            refine n_then ?_
            refine w_retc1 rfl row52 rfl hB10.range rfl ?_
            exact ⟨_, rfl, hb36, big_of (rshr_is (by omega) (by omega) h3) (((((hS9.gB k21 hB7 rfl).g0 k24).g0 k33).gB k42 (((((hB2.g0 k8).g0 k20).gne k21 (by omega)).g0 k24).g0 k33) rfl)).none⟩

theorem rbshr_any {w : World} {k : Int} {vn : Value} {n : Int} (hn : IsBig w vn n) (hbn : Bd 80000 n)  :
    Calls Try.prog 69 [vn, .int .i64 k].toArray w (Pure w fun v W => IsBig W v (shrN n k)) := by
  obtain ⟨sn, rfl, kn⟩ := hn
  exact rbshr_any0 kn hbn

theorem rbpow_any {w : World} {k : Int} :
    Calls Try.prog 56 [.int .i64 k].toArray w (Pure w fun v W => IsBig W v (shlN 1 k)) := by
  have hb0 := Below.refl w.heap.size w
  refine enter Try.func56 rfl rfl ?_
  refine w_seq ?_
  refine w_region ?_
  refine st (s_alloc zero52 ?_)
  intro g1 w1 hg1 hB1 k1 hs1
  have hb1 := below_g0 hb0 k1
  refine r_end ?_
  refine n_then ?_
  refine w_seq ?_
  refine w_region ?_
  refine st (s_call fn51 rfl (rof2_any (by omega)) ?_)
  rintro _ w2 ⟨hq1, v1, rfl, hS1⟩
  have k2 := grown_of_below hq1 none
  have hz1 := hq1.size
  have hb2 := below_g0 hb1 k2
  have hz2 := hb2.size
  refine st (s_move rfl ?_)
  refine st (s_call fn67 rfl (rbshl_any (big_of rfl (hS1).none) (Bd.le (bd_small (by omega)) (show 2 ≤ 90000 by decide))) ?_)
  rintro _ w3 ⟨hq2, v2, rfl, hS2⟩
  have k3 := grown_of_below hq2 none
  have hz3 := hq2.size
  have hb3 := below_g0 hb2 k3
  have hz4 := hb3.size
  refine st0 (s_storeN row52 rfl rfl ((hB1.g0 k2).g0 k3) (by simp only [List.all_cons, List.all_nil, hS2.one, Bool.and_true, Bool.and_self] <;> rfl) rfl rfl ?_)
  intro w4 hB2 k4 hs2
  have hb4 := below_g hb3 k4 (by omega)
  refine r_end ?_
  refine n_then ?_
  refine w_retc1 rfl row52 rfl hB2.range rfl ?_
  exact ⟨_, rfl, hb4, big_of (rfl) ((hS2.gB k4 ((hB1.g0 k2).g0 k3) rfl)).none⟩

theorem great_any {w : World} {ng : Bool} {a : Value} {xs : List Int} (ha : Sl Kd.u32 w (fun _ => False) a xs) :
    Calls Try.prog 47 [.agg [.bool ng, a].toArray].toArray w (Pure w fun v _ => v = .bool (decide ((60 : Int) < xs.length))) := by
  have hb0 := Below.refl w.heap.size w
  refine enter Try.func47 rfl rfl ?_
  refine w_seq ?_
  refine w_region ?_
  refine st (s_box rfl ?_)
  intro g1 w1 hg1 hB1 k1 hs1
  change Blk w1 g1 52 [.bool ng, a].toArray at hB1
  have hb1 := below_g0 hb0 k1
  refine st (s_assign rfl ?_)
  refine r_end ?_
  refine n_then ?_
  refine w_seq ?_
  refine w_region ?_
  refine st (s_faddr fld52_1 rfl ?_)
  refine st (s_load one32 rfl hB1.range (j := 1) rfl ?_)
  refine st (s_len sl32 rfl (ha.at0 hb1) ?_)
  refine st (s_gt rfl rfl ?_)
  refine st (s_assign rfl ?_)
  refine r_end ?_
  refine n_then ?_
  refine w_ret1 rfl rfl ?_
  exact ⟨_, rfl, hb1, rfl⟩
end Go.Proofs.Ytencmmhfiepojaa
