/- Part of the proof: a library for walks, plain laws, and functions' walks. -/
import Derived.Test.YtfljelnfjbbknaaM6
set_option maxRecDepth 20000
set_option linter.unusedSimpArgs false
set_option linter.unusedVariables false
namespace Go.Proofs.Ytfljelnfjbbknaa.Lm
open Go.RowKit Go.Gw
set_option maxHeartbeats 1000000 in
theorem rbright_any {w : World} {ng : Bool} {a : Value} {xs : List Int} (ha : Sl Kd.u32 w (fun _ => False) a xs) :
    Calls Try.prog 27 [.agg [.bool ng, a].toArray].toArray w (Pure w fun v _ => v = .bool (bigR ng xs)) := by
  have hb0 := Below.refl w.heap.size w
  refine enter Try.func27 rfl rfl (w_seq (w_region (st (s_box rfl ?_))))
  intro g1 w1 hg1 hB1 k1 hs1
  change Blk w1 g1 31 [.bool ng, a].toArray at hB1
  have hb1 := below_g0 hb0 k1
  refine st (s_assign rfl (r_end (n_then (w_seq (w_region (st (s_faddr fld31_1 rfl (st (s_load one29 rfl hB1.range (j := 1) rfl ?_)))))))))
  refine st (s_call fn57 rfl (rright_any ((ha.at0 hb1)).none) ?_)
  rintro _ w2 ⟨hq1, rfl⟩
  have k2 := grown_of_below hq1 none
  have hz1 := hq1.size
  have hb2 := below_g0 hb1 k2
  have hz2 := hb2.size
  refine st (s_move rfl ?_)
  refine r_case 6 rfl (fun h1 => ?_) (fun h1 => ?_)
  rotate_left
  · refine s_pass rfl rfl (s_pass rfl rfl (s_pass rfl rfl (s_passU rfl rfl (s_passU rfl rfl (s_passU rfl rfl (s_passU rfl rfl ?_))))))
    refine s_pass rfl rfl (s_pass rfl rfl (st (s_pick rfl rfl (st (s_assign rfl (r_end (n_then (w_ret1 rfl rfl ?_))))))))
    exact ⟨_, rfl, hb2, by unfold bigR; rw [h1]; first | rfl | (rw [Bool.true_and, Bool.not_true, Bool.false_or]; exact congrArg Value.bool (decide_eq_decide.2 (by omega)))⟩
  refine stg (s_faddr fld31_0 rfl (stg (s_load one4 rfl (hB1.g0 k2).range (j := 0) rfl (stg (s_move rfl ?_)))))
  refine r_case 9 rfl (fun h2 => ?_) (fun h2 => ?_)
  rotate_left
  · refine s_pass rfl rfl (s_pass rfl rfl (s_pass rfl rfl (s_pass rfl rfl (stg (s_pick rfl rfl (stg (s_not rfl (st (s_pick rfl rfl ?_)))))))))
    refine st (s_assign rfl (r_end (n_then (w_ret1 rfl rfl ?_))))
    exact ⟨_, rfl, hb2, by unfold bigR; rw [h1, h2]; first | rfl | (rw [Bool.true_and, Bool.not_true, Bool.false_or]; exact congrArg Value.bool (decide_eq_decide.2 (by omega)))⟩
  refine stg (s_faddr fld31_1 rfl (stg (s_load one29 rfl (hB1.g0 k2).range (j := 1) rfl (stg (s_len sl29 rfl (ha.at0 hb2) (stg (s_eq rfl rfl (stg (s_pick rfl rfl (stg (s_notP rfl (st (s_pick rfl rfl ?_)))))))))))))
  refine st (s_assign rfl (r_end (n_then (w_ret1 rfl rfl ?_))))
  exact ⟨_, rfl, hb2, by unfold bigR; rw [h1, h2]; first | rfl | (rw [Bool.true_and, Bool.not_true, Bool.false_or]; exact congrArg Value.bool (decide_eq_decide.2 (by omega)))⟩

set_option maxHeartbeats 1000000 in
theorem signed_any {w : World} {n0 : Nat} (hn0 : n0 ≤ w.heap.size) {ng : Bool} {a : Value} {m : Int} (ha : Sl Kd.u32 w (G 83 n0 w) a (tl m)) (hm : 0 ≤ m) :
    Calls Try.prog 76 [.bool ng, a].toArray w (Pure w fun v W => IsBig 83 n0 W v (sg ng m)) := by
  have hb0 := Below.refl w.heap.size w
  have hln1 := ha.lenle
  refine enter Try.func76 rfl rfl (w_seq (w_region (st (s_alloc zero31 ?_))))
  intro g1 w1 hg1 hB1 k1 hs1
  have hz1 := hb0.size
  have hb1 := below_g0 hb0 k1
  refine r_end (n_then (w_seq (w_region (st (s_move rfl (st (s_move rfl ?_)))))))
  refine r_case 6 rfl (fun h1 => ?_) (fun h1 => ?_)
  rotate_left
  · refine s_pass rfl rfl (s_pass rfl rfl (s_pass rfl rfl (st (s_pick rfl rfl (st (s_move rfl (st (s_build (ps := [(0, .tmp 10), (1, .tmp 11)]) (ccs := [#[.bool false], #[a]]) (cells := [.bool false, a]) rfl (by simp only [List.map_cons, List.map_nil, ha.cells1] <;> rfl) (by kernel_rfl) (st0 (s_storeN row31 rfl rfl hB1 (by simp only [List.all_cons, List.all_nil, ha.one, Bool.and_true, Bool.and_self] <;> rfl) rfl rfl ?_))))))))))
    intro w3 hB3 k3 hs3
    have hb3 := below_g hb1 k3 (by first | omega | (have h9 := (hb1).size; omega))
    refine r_end (n_then (w_retc1 rfl row31 rfl hB3.range rfl ?_))
    exact ⟨_, rfl, hb3, _, by rw [sg_pos hm h1], by rw [← sg_ml ng hm]; exact (((ha.at0 hb3)).unlocG hb3)⟩
  refine stg (s_move rfl (stg (s_len sl29 rfl (ha.at0 hb1) (stg (s_gt rfl rfl (st (s_pick rfl rfl (st (s_move rfl (st (s_build (ps := [(0, .tmp 10), (1, .tmp 11)]) (ccs := [#[.bool (decide (0 < ((tl m).length : Int)))], #[a]]) (cells := [.bool (decide (0 < ((tl m).length : Int))), a]) rfl (by simp only [List.map_cons, List.map_nil, ha.cells1] <;> rfl) (by kernel_rfl) (st0 (s_storeN row31 rfl rfl hB1 (by simp only [List.all_cons, List.all_nil, ha.one, Bool.and_true, Bool.and_self] <;> rfl) rfl rfl ?_)))))))))))))
  intro w2 hB2 k2 hs2
  have hb2 := below_g hb1 k2 (by first | omega | (have h9 := (hb1).size; omega))
  refine r_end (n_then (w_retc1 rfl row31 rfl hB2.range rfl ?_))
  exact ⟨_, rfl, hb2, _, by rw [sg_neg hm h1], by rw [← sg_ml ng hm]; exact (((ha.at0 hb2)).unlocG hb2)⟩

set_option maxHeartbeats 1000000 in
theorem of_any {w : World} {n0 : Nat} (hn0 : n0 ≤ w.heap.size) {n : Int} (hn : -9223372036854775808 ≤ n ∧ n ≤ 9223372036854775807) :
    Calls Try.prog 49 [.int .i64 n].toArray w (Pure w fun v W => IsBig 83 n0 W v (n)) := by
  have hb0 := Below.refl w.heap.size w
  refine enter Try.func49 rfl rfl (w_seq (w_region (st (s_alloc zero31 ?_))))
  intro g1 w1 hg1 hB1 k1 hs1
  have hz1 := hb0.size
  have hb1 := below_g0 hb0 k1
  refine r_end (n_then (w_seq (w_region (st (s_move rfl (st (s_convm (M := 18446744073709551616) rfl rfl intk3 intk81 rfl (st (s_assign rfl ?_)))))))))
  refine r_end (n_then (w_seq (w_seq (w_region (st (s_move rfl (st (s_lt rfl rfl ?_))))))))
  refine r_end (n_then ?_)
  refine w_condP rfl (fun h1 => ?_) (fun h1 => ?_)
  rotate_left
  · refine w_skip' (n_then (w_seq (w_region (st (s_move rfl (st (s_lt rfl rfl (st (s_move rfl ?_)))))))))
    refine st (s_convm (M := 4294967296) rfl rfl intk81 intk83 rfl (st (s_move rfl (st (s_shrk (p := 4294967296) rfl rfl (by decide) (by decide) (st (s_convm (M := 4294967296) rfl rfl intk81 intk83 rfl (st (s_bslice (ps := [(0, .tmp 13), (1, .tmp 16)]) (ccs := [#[.int .u32 ((n % 18446744073709551616) % 4294967296)], #[.int .u32 (((n % 18446744073709551616) / 4294967296) % 4294967296)]]) (e := 83) (cells := [.int .u32 ((n % 18446744073709551616) % 4294967296), .int .u32 (((n % 18446744073709551616) / 4294967296) % 4294967296)]) rfl rfl (by kernel_rfl) (by decide) nz83 ?_)))))))))
    intro g3 w6 hg3 hB4 k6 hs4
    have hb6 := below_g0 hb1 k6
    have hz7 := hb6.size
    have hS4 := lit_u32s (F := fun _ => False) ([((n % 18446744073709551616) % 4294967296), (((n % 18446744073709551616) / 4294967296) % 4294967296)] : List Int) hB4 (fun h => h) rfl (by first | decide | simp) (by intro x hx; simp at hx; omega)
    refine st (s_call fn81 rfl (norm_any (n0 := n0) (below_n0 hn0 hb6) (Sl.litG hB4 hS4) (by first | omega | (simp; done) | (simp; omega))) ?_)
    rintro v3 w7 ⟨hq3, hS5⟩
    have k7 := grown_of_below hq3 none
    have hz8 := hq3.size
    have hb7 := below_g0 hb6 k7
    have hz9 := hb7.size
    refine st (s_call fn76 rfl (signed_any (m := nv ([((n % 18446744073709551616) % 4294967296), (((n % 18446744073709551616) / 4294967296) % 4294967296)] : List Int)) (n0 := n0) (below_n0 hn0 hb7) hS5 (nv_nonneg (by intro x hx; simp at hx; omega))) ?_)
    rintro _ w8 ⟨hq4, v4, rfl, hS6⟩
    have k8 := grown_of_below hq4 none
    have hz10 := hq4.size
    have hb8 := below_g0 hb7 k8
    have hz11 := hb8.size
    refine st0 (s_storeN row31 rfl rfl (((hB1.g0 k6).g0 k7).g0 k8) (by simp only [List.all_cons, List.all_nil, hS6.one, Bool.and_true, Bool.and_self] <;> rfl) rfl rfl ?_)
    intro w9 hB5 k9 hs5
    have hb9 := below_g hb8 k9 (by first | omega | (have h9 := (hb8).size; omega))
    refine r_end (n_then (w_retc1 rfl row31 rfl hB5.range rfl ?_))
    exact ⟨_, rfl, hb9, big_of (of_pos hn h1) (hS6.ggB k9 (((hB1.g0 k6).g0 k7).g0 k8) (by decide) (by omega))⟩
  refine w_region (st (s_move rfl (st (s_negk (M := 18446744073709551616) rfl rfl rfl (st (s_assign rfl (r_end (n_then (w_seq ?_)))))))))
  refine w_region (st (s_move rfl (st (s_lt rfl rfl (st (s_move rfl (st (s_convm (M := 4294967296) rfl rfl intk81 intk83 rfl (st (s_move rfl (st (s_shrk (p := 4294967296) rfl rfl (by decide) (by decide) ?_))))))))))))
  refine st (s_convm (M := 4294967296) rfl rfl intk81 intk83 rfl (st (s_bslice (ps := [(0, .tmp 13), (1, .tmp 16)]) (ccs := [#[.int .u32 (((-(n % 18446744073709551616)) % 18446744073709551616) % 4294967296)], #[.int .u32 ((((-(n % 18446744073709551616)) % 18446744073709551616) / 4294967296) % 4294967296)]]) (e := 83) (cells := [.int .u32 (((-(n % 18446744073709551616)) % 18446744073709551616) % 4294967296), .int .u32 ((((-(n % 18446744073709551616)) % 18446744073709551616) / 4294967296) % 4294967296)]) rfl rfl (by kernel_rfl) (by decide) nz83 ?_)))
  intro g2 w2 hg2 hB2 k2 hs2
  have hb2 := below_g0 hb1 k2
  have hz2 := hb2.size
  have hS1 := lit_u32s (F := fun _ => False) ([(((-(n % 18446744073709551616)) % 18446744073709551616) % 4294967296), ((((-(n % 18446744073709551616)) % 18446744073709551616) / 4294967296) % 4294967296)] : List Int) hB2 (fun h => h) rfl (by first | decide | simp) (by intro x hx; simp at hx; omega)
  refine st (s_call fn81 rfl (norm_any (n0 := n0) (below_n0 hn0 hb2) (Sl.litG hB2 hS1) (by first | omega | (simp; done) | (simp; omega))) ?_)
  rintro v1 w3 ⟨hq1, hS2⟩
  have k3 := grown_of_below hq1 none
  have hz3 := hq1.size
  have hb3 := below_g0 hb2 k3
  have hz4 := hb3.size
  refine st (s_call fn76 rfl (signed_any (m := nv ([(((-(n % 18446744073709551616)) % 18446744073709551616) % 4294967296), ((((-(n % 18446744073709551616)) % 18446744073709551616) / 4294967296) % 4294967296)] : List Int)) (n0 := n0) (below_n0 hn0 hb3) hS2 (nv_nonneg (by intro x hx; simp at hx; omega))) ?_)
  rintro _ w4 ⟨hq2, v2, rfl, hS3⟩
  have k4 := grown_of_below hq2 none
  have hz5 := hq2.size
  have hb4 := below_g0 hb3 k4
  have hz6 := hb4.size
  refine st0 (s_storeN row31 rfl rfl (((hB1.g0 k2).g0 k3).g0 k4) (by simp only [List.all_cons, List.all_nil, hS3.one, Bool.and_true, Bool.and_self] <;> rfl) rfl rfl ?_)
  intro w5 hB3 k5 hs3
  have hb5 := below_g hb4 k5 (by first | omega | (have h9 := (hb4).size; omega))
  refine r_end (n_then (w_retc1 rfl row31 rfl hB3.range rfl ?_))
  exact ⟨_, rfl, hb5, big_of (of_neg hn h1) (hS3.ggB k5 (((hB1.g0 k2).g0 k3).g0 k4) (by decide) (by omega))⟩

set_option maxHeartbeats 1000000 in
theorem minus_any0 {w : World} {n0 : Nat} (hn0 : n0 ≤ w.heap.size)  {a : Value} {n : Int} (ha : Sl Kd.u32 w (G 83 n0 w) a (ml n))  :
    Calls Try.prog 79 [.agg [.bool (decide (n < 0)), a].toArray].toArray w (Pure w fun v W => IsBig 83 n0 W v (-n)) := by
  have hb0 := Below.refl w.heap.size w
  have hnn := nv_ml n
  refine enter Try.func79 rfl rfl (w_seq (w_region (st (s_box rfl ?_))))
  intro g1 w1 hg1 hB1 k1 hs1
  change Blk w1 g1 31 [.bool (decide (n < 0)), a].toArray at hB1
  have hb1 := below_g0 hb0 k1
  have hlt_1 := (hB1).lt
  refine st (s_alloc zero31 ?_)
  intro g2 w2 hg2 hB2 k2 hs2
  have hz1 := hb1.size
  have hb2 := below_g0 hb1 k2
  refine r_end (n_then (w_seq (w_region (st (s_faddr fld31_0 rfl (st (s_load one4 rfl (hB1.g0 k2).range (j := 0) rfl (st (s_notP rfl ?_)))))))))
  refine st (s_faddr fld31_1 rfl (st (s_load one29 rfl (hB1.g0 k2).range (j := 1) rfl (st (s_call fn76 rfl (signed_any (m := ((n.natAbs : Nat) : Int)) (n0 := n0) (below_n0 hn0 hb2) (show Sl Kd.u32 _ _ _ (tl ((n.natAbs : Nat) : Int)) from (((ha.at0 hb2)).unlocG hb2)) (by first | omega | exact shlN_nn (by omega) | exact shrN_nn (by first | omega | exact nv_nonneg (lim_tl _)) | exact nv_nonneg (lim_tl _))) ?_)))))
  rintro _ w3 ⟨hq1, v1, rfl, hS1⟩
  have k3 := grown_of_below hq1 none
  have hz2 := hq1.size
  have hb3 := below_g0 hb2 k3
  have hz3 := hb3.size
  refine st0 (s_storeN row31 rfl rfl (hB2.g0 k3) (by simp only [List.all_cons, List.all_nil, hS1.one, Bool.and_true, Bool.and_self] <;> rfl) rfl rfl ?_)
  intro w4 hB3 k4 hs3
  have hb4 := below_g hb3 k4 (by first | omega | (have h9 := (hb3).size; omega))
  refine r_end (n_then (w_retc1 rfl row31 rfl hB3.range rfl ?_))
  exact ⟨_, rfl, hb4, big_of (sg_minv n) (hS1.ggB k4 (hB2.g0 k3) (by decide) (by omega))⟩

theorem minus_any {w : World} {n0 : Nat} (hn0 : n0 ≤ w.heap.size)  {vn : Value} {n : Int} (hn : IsBig 83 n0 w vn n)  :
    Calls Try.prog 79 [vn].toArray w (Pure w fun v W => IsBig 83 n0 W v (-n)) := by
  obtain ⟨sn, rfl, kn⟩ := hn
  exact minus_any0 hn0 kn

set_option maxHeartbeats 1000000 in
theorem badd_any0 {w : World} {n0 : Nat} (hn0 : n0 ≤ w.heap.size)  {a : Value} {n : Int} {b : Value} {m : Int} (ha : Sl Kd.u32 w (G 83 n0 w) a (ml n)) (hb : Sl Kd.u32 w (G 83 n0 w) b (ml m)) (hbn : Bd 90000 n) (hbm : Bd 90000 m)  :
    Calls Try.prog 78 [.agg [.bool (decide (n < 0)), a].toArray, .agg [.bool (decide (m < 0)), b].toArray].toArray w (Pure w fun v W => IsBig 83 n0 W v (n + m)) := by
  have hb0 := Below.refl w.heap.size w
  have hln := bd_len hbn
  have hlm := bd_len hbm
  have hnn := nv_ml n
  have hnm := nv_ml m
  refine enter Try.func78 rfl rfl (w_seq (w_region (st (s_box rfl ?_))))
  intro g1 w1 hg1 hB1 k1 hs1
  change Blk w1 g1 31 [.bool (decide (n < 0)), a].toArray at hB1
  have hb1 := below_g0 hb0 k1
  refine st (s_box rfl ?_)
  intro g2 w2 hg2 hB2 k2 hs2
  change Blk w2 g2 31 [.bool (decide (m < 0)), b].toArray at hB2
  have hb2 := below_g0 hb1 k2
  have hlt_1 := ((hB1.g0 k2)).lt
  have hlt_2 := (hB2).lt
  refine st (s_alloc zero31 ?_)
  intro g3 w3 hg3 hB3 k3 hs3
  have hz1 := hb2.size
  have hb3 := below_g0 hb2 k3
  refine r_end (n_then (w_seq (w_seq (w_region (st (s_faddr fld31_0 rfl (st (s_load one4 rfl ((hB1.g0 k2).g0 k3).range (j := 0) rfl ?_))))))))
  refine st (s_faddr fld31_0 rfl (st (s_load one4 rfl (hB2.g0 k3).range (j := 0) rfl (st (s_eqbool bool4 rfl rfl (r_end (n_then ?_)))))))
  refine w_cond rfl (fun h1 => ?_) (fun h1 => ?_)
  · refine w_seq ?_
    refine w_draw 8 (fun a b => a.grownBy b none) [(some 12, Is <| .pointer (some ⟨g1, 0 + 0, none⟩)), (some 13, Is <| .bool (decide (n < 0))), (some 14, Is <| .pointer (some ⟨g1, 0 + 1, none⟩)), (some 15, fun v _ => Sl Kd.u32 w (G 83 n0 w) v (ml n)), (some 16, Is <| .pointer (some ⟨g2, 0 + 1, none⟩)), (some 17, fun v _ => Sl Kd.u32 w (G 83 n0 w) v (ml m)), (some 18, fun v W => Sl Kd.u32 W (G 83 n0 W) v (tl (nv (ml n) + nv (ml m)))), (some 19, fun v W => IsBig 83 n0 W v (sg (decide (n < 0)) (nv (ml n) + nv (ml m))))] [[], [0], [], [2], [], [4], [3, 5], [1, 6]] [(2, .pointer (some ⟨g1, 0, none⟩)), (3, .pointer (some ⟨g2, 0, none⟩)), (4, .pointer (some ⟨g3, 0, none⟩))] (by exact ⟨rfl, rfl, rfl, trivial⟩) (by kernel_rfl) (by kernel_rfl) grown_none_refl (fun _ _ _ => grown_none_trans) ⟨kv, kv, kv, fun _ _ _ h _ => h, kv, fun _ _ _ h _ => h, fun _ _ _ h k => h.gg0 k, fun _ _ _ h k => h.g0 k, trivial⟩ ?_
    intro w6 k6 hs4
    have hb4 := below_g0 hb3 k6
    refine ⟨⟨?_, ?_, ?_, ?_, ?_, ?_, ?_, ?_, trivial⟩, ?_⟩
    · intro w7 k7
      refine op1 (s_faddr fld31_0 rfl ?_)
      exact ⟨rfl, grown_none_refl _⟩
    · intro w8 k8
      rintro _ rfl
      refine op1 (s_load one4 rfl ((((hB1.g0 k2).g0 k3).g0 k6).g0 k8).range (j := 0) rfl ?_)
      exact ⟨rfl, grown_none_refl _⟩
    · intro w9 k9
      refine op1 (s_faddr fld31_1 rfl ?_)
      exact ⟨rfl, grown_none_refl _⟩
    · intro w10 k10
      rintro _ rfl
      refine op1 (s_load one29 rfl ((((hB1.g0 k2).g0 k3).g0 k6).g0 k10).range (j := 1) rfl ?_)
      exact ⟨ha, grown_none_refl _⟩
    · intro w11 k11
      refine op1 (s_faddr fld31_1 rfl ?_)
      exact ⟨rfl, grown_none_refl _⟩
    · intro w12 k12
      rintro _ rfl
      refine op1 (s_load one29 rfl (((hB2.g0 k3).g0 k6).g0 k12).range (j := 1) rfl ?_)
      exact ⟨hb, grown_none_refl _⟩
    · intro w13 k13
      have hb11 := below_g0 hb4 k13
      rintro v3 hS3 v4 hS4
      refine op1 (s_call fn100 rfl (add_any (n0 := n0) (below_n0 hn0 hb11) (((hS3.at0 hb11)).unlocG hb11) (((hS4.at0 hb11)).unlocG hb11) (by first | omega | (simp; done) | (simp; omega)) (by first | omega | (simp; done) | (simp; omega))) ?_)
      rintro v5 w14 ⟨hq3, hS5⟩
      have k14 := grown_of_below hq3 none
      have hz2 := hq3.size
      have hb12 := below_g0 hb11 k14
      have hz3 := hb12.size
      exact ⟨hS5, k14⟩
    · intro w15 k15
      have hb13 := below_g0 hb4 k15
      rintro _ rfl v6 hS6
      refine op1 (s_call fn76 rfl (signed_any (m := nv (ml n) + nv (ml m)) (n0 := n0) (below_n0 hn0 hb13) hS6 (by first | omega | exact shlN_nn (by omega) | exact shrN_nn (by first | omega | exact nv_nonneg (lim_tl _)) | exact nv_nonneg (lim_tl _))) ?_)
      rintro _ w16 ⟨hq4, v7, rfl, hS7⟩
      have k16 := grown_of_below hq4 none
      have hz4 := hq4.size
      have hb14 := below_g0 hb13 k16
      have hz5 := hb14.size
      exact ⟨⟨_, rfl, hS7⟩, k16⟩
    intro w17 k17
    have hb15 := below_g0 hb4 k17
    rintro _ rfl _ rfl _ rfl v8 hS8 _ rfl v9 hS9 v10 hS10 _ ⟨v11, rfl, hS11⟩
    refine st0 (s_storeN row31 rfl rfl ((hB3.g0 k6).g0 k17) (by simp only [List.all_cons, List.all_nil, hS11.one, Bool.and_true, Bool.and_self] <;> rfl) rfl rfl ?_)
    intro w18 hB4 k18 hs5
    have hb16 := below_g hb15 k18 (by first | omega | (have h9 := (hb15).size; omega))
    refine r_end (n_then (w_retc1 rfl row31 rfl hB4.range rfl ?_))
    exact ⟨_, rfl, hb16, big_of (sg_add (eq_of_beq h1)) (hS11.ggB k18 ((hB3.g0 k6).g0 k17) (by decide) (by omega))⟩
  refine w_skip' (n_then (w_seq (w_seq (w_region (st (s_faddr fld31_1 rfl (st (s_load one29 rfl ((hB1.g0 k2).g0 k3).range (j := 1) rfl ?_))))))))
  refine st (s_faddr fld31_1 rfl (st (s_load one29 rfl (hB2.g0 k3).range (j := 1) rfl (st (s_call fn82 rfl (cmp_any ((ha.at0 hb3)).none ((hb.at0 hb3)).none) ?_)))))
  rintro _ w19 ⟨hq5, rfl⟩
  have k19 := grown_of_below hq5 none
  have hz6 := hq5.size
  have hb17 := below_g0 hb3 k19
  have hz7 := hb17.size
  refine st (s_lt rfl rfl (r_end (n_then ?_)))
  refine w_condP rfl (fun h2 => ?_) (fun h2 => ?_)
  rotate_left
  · have hc2 := cmpI_nneg h2
    refine w_skip' (n_then (w_seq (w_region (st (s_faddr fld31_1 rfl (st (s_load one29 rfl (((hB1.g0 k2).g0 k3).g0 k19).range (j := 1) rfl (st (s_faddr fld31_1 rfl ?_)))))))))
    refine st (s_load one29 rfl ((hB2.g0 k3).g0 k19).range (j := 1) rfl (st (s_call fn101 rfl (sub_any (n0 := n0) (below_n0 hn0 hb17) (((ha.at0 hb17)).unlocG hb17) (((hb.at0 hb17)).unlocG hb17) (by first | omega | (simp; done) | (simp; omega)) (by first | omega | (simp; done) | (simp; omega))) ?_)))
    rintro _ w25 ⟨hq8, v14, rfl, hS14⟩
    have k25 := grown_of_below hq8 none
    have hz12 := hq8.size
    have hb23 := below_g0 hb17 k25
    have hz13 := hb23.size
    refine st (s_move rfl (st (s_extract rfl rfl (st (s_extract rfl rfl (st (s_assign rfl (st (s_assign rfl (r_end (n_then ?_)))))))))))
    refine w_seq (w_region (st (s_faddr fld31_0 rfl (st (s_load one4 rfl ((((hB1.g0 k2).g0 k3).g0 k19).g0 k25).range (j := 0) rfl (st (s_move rfl (st (s_call fn76 rfl (signed_any (m := nv (ml n) - nv (ml m)) (n0 := n0) (below_n0 hn0 hb23) hS14 (by first | omega | exact shlN_nn (by omega) | exact shrN_nn (by first | omega | exact nv_nonneg (lim_tl _)) | exact nv_nonneg (lim_tl _))) ?_)))))))))
    rintro _ w26 ⟨hq9, v15, rfl, hS15⟩
    have k26 := grown_of_below hq9 none
    have hz14 := hq9.size
    have hb24 := below_g0 hb23 k26
    have hz15 := hb24.size
    refine st0 (s_storeN row31 rfl rfl (((hB3.g0 k19).g0 k25).g0 k26) (by simp only [List.all_cons, List.all_nil, hS15.one, Bool.and_true, Bool.and_self] <;> rfl) rfl rfl ?_)
    intro w27 hB8 k27 hs9
    have hb25 := below_g hb24 k27 (by first | omega | (have h9 := (hb24).size; omega))
    refine r_end (n_then (w_retc1 rfl row31 rfl hB8.range rfl ?_))
    exact ⟨_, rfl, hb25, big_of (sg_sub (fun e => by rw [e, beq_self_eq_true] at h1; cases h1) hc2) (hS15.ggB k27 (((hB3.g0 k19).g0 k25).g0 k26) (by decide) (by omega))⟩
  have hc2 := cmpI_neg h2
  refine w_region (st (s_loadW row31 rfl ((hB2.g0 k3).g0 k19).range rfl (st (s_loadW row31 rfl (((hB1.g0 k2).g0 k3).g0 k19).range rfl (st0 (s_storeN row31 rfl rfl (((hB1.g0 k2).g0 k3).g0 k19) (by simp only [List.all_cons, List.all_nil, hb.one, Bool.and_true, Bool.and_self] <;> rfl) rfl rfl ?_))))))
  intro w20 hB5 k20 hs6
  have hb18 := below_g hb17 k20 (by first | omega | (have h9 := (hb17).size; omega))
  refine st0 (s_storeN row31 rfl rfl (((hB2.g0 k3).g0 k19).gne k20 (by omega)) (by simp only [List.all_cons, List.all_nil, ha.one, Bool.and_true, Bool.and_self] <;> rfl) rfl rfl ?_)
  intro w21 hB6 k21 hs7
  have hb19 := below_g hb18 k21 (by first | omega | (have h9 := (hb18).size; omega))
  refine r_end (n_then (w_seq (w_region (st (s_faddr fld31_1 rfl (st (s_load one29 rfl (hB5.gne k21 (by omega)).range (j := 1) rfl (st (s_faddr fld31_1 rfl ?_)))))))))
  refine st (s_load one29 rfl hB6.range (j := 1) rfl (st (s_call fn101 rfl (sub_any (n0 := n0) (below_n0 hn0 hb19) (((hb.at0 hb19)).unlocG hb19) (((ha.at0 hb19)).unlocG hb19) (by first | omega | (simp; done) | (simp; omega)) (by first | omega | (simp; done) | (simp; omega))) ?_)))
  rintro _ w22 ⟨hq6, v12, rfl, hS12⟩
  have k22 := grown_of_below hq6 none
  have hz8 := hq6.size
  have hb20 := below_g0 hb19 k22
  have hz9 := hb20.size
  refine st (s_move rfl (st (s_extract rfl rfl (st (s_extract rfl rfl (st (s_assign rfl (st (s_assign rfl (r_end (n_then ?_)))))))))))
  refine w_seq (w_region (st (s_faddr fld31_0 rfl (st (s_load one4 rfl ((hB5.gne k21 (by omega)).g0 k22).range (j := 0) rfl (st (s_move rfl (st (s_call fn76 rfl (signed_any (m := nv (ml m) - nv (ml n)) (n0 := n0) (below_n0 hn0 hb20) hS12 (by first | omega | exact shlN_nn (by omega) | exact shrN_nn (by first | omega | exact nv_nonneg (lim_tl _)) | exact nv_nonneg (lim_tl _))) ?_)))))))))
  rintro _ w23 ⟨hq7, v13, rfl, hS13⟩
  have k23 := grown_of_below hq7 none
  have hz10 := hq7.size
  have hb21 := below_g0 hb20 k23
  have hz11 := hb21.size
  refine st0 (s_storeN row31 rfl rfl (((((hB3.g0 k19).gne k20 (by omega)).gne k21 (by omega)).g0 k22).g0 k23) (by simp only [List.all_cons, List.all_nil, hS13.one, Bool.and_true, Bool.and_self] <;> rfl) rfl rfl ?_)
  intro w24 hB7 k24 hs8
  have hb22 := below_g hb21 k24 (by first | omega | (have h9 := (hb21).size; omega))
  refine r_end (n_then (w_retc1 rfl row31 rfl hB7.range rfl ?_))
  exact ⟨_, rfl, hb22, big_of ((sg_sub (fun e => by rw [e, beq_self_eq_true] at h1; cases h1) (Int.le_of_lt hc2)).trans (Int.add_comm m n)) (hS13.ggB k24 (((((hB3.g0 k19).gne k20 (by omega)).gne k21 (by omega)).g0 k22).g0 k23) (by decide) (by omega))⟩

theorem badd_any {w : World} {n0 : Nat} (hn0 : n0 ≤ w.heap.size)  {vn : Value} {n : Int} {vm : Value} {m : Int} (hn : IsBig 83 n0 w vn n) (hm : IsBig 83 n0 w vm m) (hbn : Bd 90000 n) (hbm : Bd 90000 m)  :
    Calls Try.prog 78 [vn, vm].toArray w (Pure w fun v W => IsBig 83 n0 W v (n + m)) := by
  obtain ⟨sn, rfl, kn⟩ := hn
  obtain ⟨sm, rfl, km⟩ := hm
  exact badd_any0 hn0 kn km hbn hbm

set_option maxHeartbeats 1000000 in
theorem bsub_any0 {w : World} {n0 : Nat} (hn0 : n0 ≤ w.heap.size)  {a : Value} {n : Int} {b : Value} {m : Int} (ha : Sl Kd.u32 w (G 83 n0 w) a (ml n)) (hb : Sl Kd.u32 w (G 83 n0 w) b (ml m)) (hbn : Bd 90000 n) (hbm : Bd 90000 m)  :
    Calls Try.prog 44 [.agg [.bool (decide (n < 0)), a].toArray, .agg [.bool (decide (m < 0)), b].toArray].toArray w (Pure w fun v W => IsBig 83 n0 W v (n - m)) := by
  have hb0 := Below.refl w.heap.size w
  have hln := bd_len hbn
  have hlm := bd_len hbm
  have hnn := nv_ml n
  have hnm := nv_ml m
  refine enter Try.func44 rfl rfl (w_seq (w_region (st (s_box rfl ?_))))
  intro g1 w1 hg1 hB1 k1 hs1
  change Blk w1 g1 31 [.bool (decide (n < 0)), a].toArray at hB1
  have hb1 := below_g0 hb0 k1
  refine st (s_box rfl ?_)
  intro g2 w2 hg2 hB2 k2 hs2
  change Blk w2 g2 31 [.bool (decide (m < 0)), b].toArray at hB2
  have hb2 := below_g0 hb1 k2
  have hlt_1 := ((hB1.g0 k2)).lt
  have hlt_2 := (hB2).lt
  refine st (s_alloc zero31 ?_)
  intro g3 w3 hg3 hB3 k3 hs3
  have hz1 := hb2.size
  have hb3 := below_g0 hb2 k3
  refine r_end (n_then (w_seq (w_draw 4 (fun a b => a.grownBy b none) [(some 5, Is <| .agg [.bool (decide (n < 0)), a].toArray), (some 6, Is <| .agg [.bool (decide (m < 0)), b].toArray), (some 7, fun v W => IsBig 83 n0 W v ((-m))), (some 8, fun v W => IsBig 83 n0 W v ((n + (-m))))] [[], [], [1], [0, 2]] [(2, .pointer (some ⟨g1, 0, none⟩)), (3, .pointer (some ⟨g2, 0, none⟩)), (4, .pointer (some ⟨g3, 0, none⟩))] (by exact ⟨rfl, rfl, rfl, trivial⟩) (by kernel_rfl) (by kernel_rfl) grown_none_refl (fun _ _ _ => grown_none_trans) ⟨kv, kv, fun _ _ _ h k => h.g0 k, fun _ _ _ h k => h.g0 k, trivial⟩ ?_)))
  intro w6 k6 hs4
  have hb4 := below_g0 hb3 k6
  refine ⟨⟨?_, ?_, ?_, ?_, trivial⟩, ?_⟩
  · intro w7 k7
    refine op1 (s_loadW row31 rfl ((((hB1.g0 k2).g0 k3).g0 k6).g0 k7).range rfl ?_)
    exact ⟨rfl, grown_none_refl _⟩
  · intro w8 k8
    refine op1 (s_loadW row31 rfl (((hB2.g0 k3).g0 k6).g0 k8).range rfl ?_)
    exact ⟨rfl, grown_none_refl _⟩
  · intro w9 k9
    have hb7 := below_g0 hb4 k9
    rintro _ rfl
    refine op1 (s_call fn79 rfl (minus_any (n0 := n0) (below_n0 hn0 hb7) (big_of rfl (((hb.at0 hb7)).unlocG hb7))) ?_)
    rintro _ w10 ⟨hq3, v3, rfl, hS3⟩
    have k10 := grown_of_below hq3 none
    have hz2 := hq3.size
    have hb8 := below_g0 hb7 k10
    have hz3 := hb8.size
    exact ⟨⟨_, rfl, hS3⟩, k10⟩
  · intro w11 k11
    have hb9 := below_g0 hb4 k11
    rintro _ rfl _ ⟨v4, rfl, hS4⟩
    refine op1 (s_call fn78 rfl (badd_any (n0 := n0) (below_n0 hn0 hb9) (big_of rfl (((ha.at0 hb9)).unlocG hb9)) (big_of rfl hS4) (Bd.le hbn (show 90000 ≤ 90000 by decide)) (Bd.le (bd_neg hbm) (show 90000 ≤ 90000 by decide))) ?_)
    rintro _ w12 ⟨hq4, v5, rfl, hS5⟩
    have k12 := grown_of_below hq4 none
    have hz4 := hq4.size
    have hb10 := below_g0 hb9 k12
    have hz5 := hb10.size
    exact ⟨⟨_, rfl, hS5⟩, k12⟩
  intro w13 k13
  have hb11 := below_g0 hb4 k13
  rintro _ rfl _ rfl _ ⟨v6, rfl, hS6⟩ _ ⟨v7, rfl, hS7⟩
  refine st0 (s_storeN row31 rfl rfl ((hB3.g0 k6).g0 k13) (by simp only [List.all_cons, List.all_nil, hS7.one, Bool.and_true, Bool.and_self] <;> rfl) rfl rfl ?_)
  intro w14 hB4 k14 hs5
  have hb12 := below_g hb11 k14 (by first | omega | (have h9 := (hb11).size; omega))
  refine r_end (n_then (w_retc1 rfl row31 rfl hB4.range rfl ?_))
  exact ⟨_, rfl, hb12, big_of (by omega) (hS7.ggB k14 ((hB3.g0 k6).g0 k13) (by decide) (by omega))⟩

theorem bsub_any {w : World} {n0 : Nat} (hn0 : n0 ≤ w.heap.size)  {vn : Value} {n : Int} {vm : Value} {m : Int} (hn : IsBig 83 n0 w vn n) (hm : IsBig 83 n0 w vm m) (hbn : Bd 90000 n) (hbm : Bd 90000 m)  :
    Calls Try.prog 44 [vn, vm].toArray w (Pure w fun v W => IsBig 83 n0 W v (n - m)) := by
  obtain ⟨sn, rfl, kn⟩ := hn
  obtain ⟨sm, rfl, km⟩ := hm
  exact bsub_any0 hn0 kn km hbn hbm

set_option maxHeartbeats 1000000 in
theorem bcmp_any0 {w : World}  {a : Value} {n : Int} {b : Value} {m : Int} (ha : Sl Kd.u32 w (fun _ => False) a (ml n)) (hb : Sl Kd.u32 w (fun _ => False) b (ml m))  :
    Calls Try.prog 50 [.agg [.bool (decide (n < 0)), a].toArray, .agg [.bool (decide (m < 0)), b].toArray].toArray w (Pure w fun v _ => v = .int .i64 (cmpI n m)) := by
  have hb0 := Below.refl w.heap.size w
  have hnn := nv_ml n
  have hnm := nv_ml m
  refine enter Try.func50 rfl rfl (w_seq (w_region (st (s_box rfl ?_))))
  intro g1 w1 hg1 hB1 k1 hs1
  change Blk w1 g1 31 [.bool (decide (n < 0)), a].toArray at hB1
  have hb1 := below_g0 hb0 k1
  refine st (s_box rfl ?_)
  intro g2 w2 hg2 hB2 k2 hs2
  change Blk w2 g2 31 [.bool (decide (m < 0)), b].toArray at hB2
  have hb2 := below_g0 hb1 k2
  refine st (s_assign rfl (r_end (n_then (w_seq (w_block (w_seq (w_region ?_)))))))
  refine st (s_faddr fld31_0 rfl (st (s_load one4 rfl (hB1.g0 k2).range (j := 0) rfl (st (s_move rfl ?_)))))
  refine r_caseP 8 rfl (fun h1 => ?_) (fun h1 => ?_)
  rotate_left
  · refine s_pass rfl rfl (s_pass rfl rfl (st (s_pick rfl rfl (st (s_assign rfl (r_end (n_then (w_condF rfl ?_))))))))
    refine w_seq (w_region (st (s_faddr fld31_0 rfl (st (s_load one4 rfl (hB1.g0 k2).range (j := 0) rfl (st (s_assign rfl (r_end (n_then ?_)))))))))
    refine w_condP rfl (fun h5 => ?_) (fun h5 => ?_)
    · refine w_seq (w_region (st (s_assign rfl (r_end (n_then (w_ret1 rfl rfl ?_))))))
      exact ⟨_, rfl, hb2, congrArg (Value.int .i64) ((cmpI_lt (by omega)).symm)⟩
    refine w_seq (w_region (st (s_faddr fld31_0 rfl (st (s_load one4 rfl hB2.range (j := 0) rfl (st (s_assign rfl (r_end (n_then ?_)))))))))
    refine w_condP rfl (fun h6 => ?_) (fun h6 => ?_)
    · refine w_seq (w_region (st (s_assign rfl (r_end (n_then (w_ret1 rfl rfl ?_))))))
      exact ⟨_, rfl, hb2, congrArg (Value.int .i64) ((cmpI_gt (by omega)).symm)⟩
    refine w_skip' (n_block (n_then (w_seq (w_region (st (s_faddr fld31_1 rfl (st (s_load one29 rfl (hB1.g0 k2).range (j := 1) rfl ?_))))))))
    refine st (s_faddr fld31_1 rfl (st (s_load one29 rfl hB2.range (j := 1) rfl (st (s_call fn82 rfl (cmp_any ((ha.at0 hb2)).none ((hb.at0 hb2)).none) ?_)))))
    rintro _ w5 ⟨hq3, rfl⟩
    have k5 := grown_of_below hq3 none
    have hz5 := hq3.size
    have hb5 := below_g0 hb2 k5
    have hz6 := hb5.size
    refine st (s_assign rfl (r_end (n_then (w_ret1 rfl rfl ?_))))
    exact ⟨_, rfl, hb5, congrArg (Value.int .i64) (cmpI_swap (by omega))⟩
  refine stg (s_faddr fld31_0 rfl (stg (s_load one4 rfl hB2.range (j := 0) rfl (st (s_pick rfl rfl (st (s_assign rfl (r_end (n_then ?_)))))))))
  refine w_condP rfl (fun h2 => ?_) (fun h2 => ?_)
  · refine w_seq (w_region (st (s_faddr fld31_1 rfl (st (s_load one29 rfl hB2.range (j := 1) rfl (st (s_faddr fld31_1 rfl (st (s_load one29 rfl (hB1.g0 k2).range (j := 1) rfl (st (s_call fn82 rfl (cmp_any ((hb.at0 hb2)).none ((ha.at0 hb2)).none) ?_)))))))))))
    rintro _ w3 ⟨hq1, rfl⟩
    have k3 := grown_of_below hq1 none
    have hz1 := hq1.size
    have hb3 := below_g0 hb2 k3
    have hz2 := hb3.size
    refine st (s_assign rfl (r_end (n_then (w_ret1 rfl rfl ?_))))
    exact ⟨_, rfl, hb3, congrArg (Value.int .i64) (cmpI_swap (by omega))⟩
  refine w_seq (w_region (st (s_faddr fld31_0 rfl (st (s_load one4 rfl (hB1.g0 k2).range (j := 0) rfl (st (s_assign rfl (r_end (n_then ?_)))))))))
  refine w_condP rfl (fun h3 => ?_) (fun h3 => ?_)
  · refine w_seq (w_region (st (s_assign rfl (r_end (n_then (w_ret1 rfl rfl ?_))))))
    exact ⟨_, rfl, hb2, congrArg (Value.int .i64) ((cmpI_lt (by omega)).symm)⟩
  refine w_seq (w_region (st (s_faddr fld31_0 rfl (st (s_load one4 rfl hB2.range (j := 0) rfl (st (s_assign rfl (r_end (n_then ?_)))))))))
  refine w_condP rfl (fun h4 => ?_) (fun h4 => ?_)
  · refine w_seq (w_region (st (s_assign rfl (r_end (n_then (w_ret1 rfl rfl ?_))))))
    exact ⟨_, rfl, hb2, congrArg (Value.int .i64) ((cmpI_gt (by omega)).symm)⟩
  refine w_skip' (n_block (n_then (w_seq (w_region (st (s_faddr fld31_1 rfl (st (s_load one29 rfl (hB1.g0 k2).range (j := 1) rfl ?_))))))))
  refine st (s_faddr fld31_1 rfl (st (s_load one29 rfl hB2.range (j := 1) rfl (st (s_call fn82 rfl (cmp_any ((ha.at0 hb2)).none ((hb.at0 hb2)).none) ?_)))))
  rintro _ w4 ⟨hq2, rfl⟩
  have k4 := grown_of_below hq2 none
  have hz3 := hq2.size
  have hb4 := below_g0 hb2 k4
  have hz4 := hb4.size
  refine st (s_assign rfl (r_end (n_then (w_ret1 rfl rfl ?_))))
  exact ⟨_, rfl, hb4, congrArg (Value.int .i64) (cmpI_swap (by omega))⟩

set_option maxHeartbeats 1000000 in
theorem bpow_any {w : World} {n0 : Nat} (hn0 : n0 ≤ w.heap.size) {k : Int} :
    Calls Try.prog 42 [.int .i64 k].toArray w (Pure w fun v W => IsBig 83 n0 W v (shlN 1 k)) := by
  have hb0 := Below.refl w.heap.size w
  refine enter Try.func42 rfl rfl (w_seq (w_region (st (s_alloc zero31 ?_))))
  intro g1 w1 hg1 hB1 k1 hs1
  have hz1 := hb0.size
  have hb1 := below_g0 hb0 k1
  refine r_end (n_then (w_seq (w_region (st (s_bslice (ps := [(0, .const (.int .u32 1))]) (ccs := [#[.int .u32 1]]) (e := 83) (cells := [.int .u32 1]) rfl rfl (by kernel_rfl) (by decide) nz83 ?_)))))
  intro g2 w2 hg2 hB2 k2 hs2
  have hb2 := below_g0 hb1 k2
  have hz2 := hb2.size
  have hS1 := lit_u32s (F := fun _ => False) ([1] : List Int) hB2 (fun h => h) rfl (by first | decide | simp)
  refine st (s_move rfl (st (s_call fn77 rfl (shl_any (n0 := n0) (below_n0 hn0 hb2) (Sl.litG hB2 hS1) (by first | omega | (simp; done) | (simp; omega))) ?_)))
  rintro v1 w3 ⟨hq1, hS2⟩
  have k3 := grown_of_below hq1 none
  have hz3 := hq1.size
  have hb3 := below_g0 hb2 k3
  have hz4 := hb3.size
  refine st (s_call fn76 rfl (signed_any (m := shlN (nv ([1] : List Int)) k) (n0 := n0) (below_n0 hn0 hb3) (by have h9 := hS2; rw [shlL_tl] at h9; exact h9) (shlN_nn (by decide))) ?_)
  rintro _ w4 ⟨hq2, v2, rfl, hS3⟩
  have k4 := grown_of_below hq2 none
  have hz5 := hq2.size
  have hb4 := below_g0 hb3 k4
  have hz6 := hb4.size
  refine st0 (s_storeN row31 rfl rfl (((hB1.g0 k2).g0 k3).g0 k4) (by simp only [List.all_cons, List.all_nil, hS3.one, Bool.and_true, Bool.and_self] <;> rfl) rfl rfl ?_)
  intro w5 hB3 k5 hs3
  have hb5 := below_g hb4 k5 (by first | omega | (have h9 := (hb4).size; omega))
  refine r_end (n_then (w_retc1 rfl row31 rfl hB3.range rfl ?_))
  exact ⟨_, rfl, hb5, big_of (pow_val k) (hS3.ggB k5 (((hB1.g0 k2).g0 k3).g0 k4) (by decide) (by omega))⟩

set_option maxHeartbeats 1000000 in
theorem eq32_any {w : World} {a b : Value} {xs ys : List Int} (ha : Sl Kd.u32 w (fun _ => False) a xs) (hb : Sl Kd.u32 w (fun _ => False) b ys) :
    Calls Try.prog 83 [a, b].toArray w (Pure w fun v _ => v = .bool (decide (xs = ys))) := by
  have hb0 := Below.refl w.heap.size w
  have hln1 := ha.lenle
  have hln2 := hb.lenle
  refine enter Try.func83 rfl rfl (w_seq (w_region (st (s_assign rfl (r_end (n_then (w_seq ?_)))))))
  refine w_seq (w_region (st (s_move rfl (st (s_len sl29 rfl (ha.at0 hb0) (st (s_move rfl (st (s_len sl29 rfl (hb.at0 hb0) (st (s_ne rfl rfl ?_)))))))))))
  refine r_end (n_then ?_)
  refine w_condP rfl (fun h1 => ?_) (fun h1 => ?_)
  · refine w_seq (w_region (st (s_assign rfl (r_end (n_then (w_ret1 rfl rfl ?_))))))
    exact ⟨_, rfl, hb0, by rw [decide_eq_false fun e => h1 (by rw [e])]⟩
  refine w_skip' (n_then (w_seq (w_seq (w_region (st (s_move rfl (st (s_len sl29 rfl (ha.at0 hb0) ?_))))))))
  refine st (s_move rfl (r_end (n_then (w_block (w_loop (α := Int) (fun (i : Int) => [(0, a), (1, b), (12, .int .i64 (xs.length : Int)), (13, .int .i64 i)]) (fun (i : Int) W => Below w.heap.size w W ∧ (0 ≤ i ∧ i ≤ xs.length) ∧ (∀ j : Int, 0 ≤ j → j < i → ix xs j = ix ys j)) (fun (i : Int) => (xs.length - i).toNat) (0) ⟨hb0, by omega, fun j _ _ => by omega⟩ (by exact ⟨rfl, rfl, rfl, rfl, trivial⟩) ?_)))))
  rintro i w1 ⟨hb1, hi, hs⟩
  have hz1 := hb1.size
  refine w_seq (w_region (st (s_lt rfl rfl (r_end (n_then (w_seq ?_))))))
  refine w_condP rfl (fun h2 => ?_) (fun h2 => ?_)
  rotate_left
  · refine w_exit' (n_then_exit (n_then_exit (n_block_exit (n_then (w_seq (w_region ?_))))))
    refine st (s_assign rfl (r_end (n_then (w_ret1 rfl rfl ?_))))
    exact ⟨_, rfl, hb1, by rw [decide_eq_true (samel_all (by omega) fun j j0 j1 => hs j j0 (by omega))]⟩
  refine w_skip' (n_then (w_seq (w_block (w_seq (w_region (st (s_move rfl ?_)))))))
  refine st (s_assign rfl (r_end (n_then (w_seq ?_))))
  obtain ⟨b1, o1, _, hat1, ⟨rfl, hr1⟩, hc1, hF1, hlt1⟩ := (ha.at0 hb1).elem i (by omega) (by omega)
  have hl_1 := Loc.lt hF1
  obtain ⟨b2, o2, _, hat2, ⟨rfl, hr2⟩, hc2, hF2, hlt2⟩ := (hb.at0 hb1).elem i (by omega) (by omega)
  have hl_2 := Loc.lt hF2
  refine w_draw 9 (fun a b => a.grownBy b none) [(some 16, Is <| a), (some 17, Is <| .int .i64 i), (some 18, Is <| .pointer (some ⟨b1, o1, none⟩)), (some 19, Is <| .int .u32 (ix xs i)), (some 20, Is <| b), (some 21, Is <| .int .i64 i), (some 22, Is <| .pointer (some ⟨b2, o2, none⟩)), (some 23, Is <| .int .u32 (ix ys i)), (some 24, Is <| .bool (decide ((ix xs i) ≠ (ix ys i))))] [[], [], [0, 1], [2], [], [], [4, 5], [6], [3, 7]] [(0, a), (1, b), (5, .int .i64 i), (12, .int .i64 (xs.length : Int)), (13, .int .i64 i)] (by exact ⟨rfl, rfl, rfl, rfl, rfl, trivial⟩) (by kernel_rfl) (by kernel_rfl) grown_none_refl (fun _ _ _ => grown_none_trans) ⟨kv, kv, kv, kv, kv, kv, kv, kv, kv, trivial⟩ ?_
  intro w2 k1 hs1
  have hb2 := below_g0 hb1 k1
  refine ⟨⟨?_, ?_, ?_, ?_, ?_, ?_, ?_, ?_, ?_, trivial⟩, ?_⟩
  · intro w3 k2
    refine op1 (s_move rfl ?_)
    exact ⟨rfl, grown_none_refl _⟩
  · intro w4 k3
    refine op1 (s_move rfl ?_)
    exact ⟨rfl, grown_none_refl _⟩
  · intro w5 k4
    intro v_ hv_; subst v_
    rintro _ rfl
    refine op1 (s_idxat sl29 rfl rfl hat1 ?_)
    exact ⟨rfl, grown_none_refl _⟩
  · intro w6 k5
    rintro _ rfl
    refine op1 (s_load one83 rfl (range_g0 (range_g0 hc1 k1) k5) (j := 0) rfl ?_)
    exact ⟨rfl, grown_none_refl _⟩
  · intro w7 k6
    refine op1 (s_move rfl ?_)
    exact ⟨rfl, grown_none_refl _⟩
  · intro w8 k7
    refine op1 (s_move rfl ?_)
    exact ⟨rfl, grown_none_refl _⟩
  · intro w9 k8
    intro v_ hv_; subst v_
    rintro _ rfl
    refine op1 (s_idxat sl29 rfl rfl hat2 ?_)
    exact ⟨rfl, grown_none_refl _⟩
  · intro w10 k9
    rintro _ rfl
    refine op1 (s_load one83 rfl (range_g0 (range_g0 hc2 k1) k9) (j := 0) rfl ?_)
    exact ⟨rfl, grown_none_refl _⟩
  · intro w11 k10
    rintro _ rfl _ rfl
    refine op1 (s_ne rfl rfl ?_)
    exact ⟨rfl, grown_none_refl _⟩
  intro w12 k11
  have hb12 := below_g0 hb2 k11
  intro v_ hv_; subst v_
  rintro _ rfl _ rfl _ rfl
  intro v_ hv_; subst v_
  rintro _ rfl _ rfl _ rfl _ rfl
  refine r_end (n_then ?_)
  refine w_condP rfl (fun h3 => ?_) (fun h3 => ?_)
  · refine w_seq (w_region (st (s_assign rfl (r_end (n_then (w_ret1 rfl rfl ?_))))))
    exact ⟨_, rfl, hb12, by rw [decide_eq_false fun e => h3 (by rw [e])]⟩
  refine w_skip' (n_block (n_then (w_region (st (s_add rfl rfl (by omega) (st (s_move rfl (r_end ?_))))))))
  exact n_round ((i + 1)) ⟨hb12, by omega, fun j j0 j1 => if q : j = i then by rw [q]; simpa using h3 else hs j j0 (by omega)⟩ (by omega) (by exact ⟨rfl, rfl, rfl, rfl, trivial⟩)

set_option maxHeartbeats 1000000 in
theorem bsame_any {w : World} {ng mg : Bool} {a b : Value} {xs ys : List Int} (ha : Sl Kd.u32 w (fun _ => False) a xs) (hb : Sl Kd.u32 w (fun _ => False) b ys) :
    Calls Try.prog 51 [.agg [.bool ng, a].toArray, .agg [.bool mg, b].toArray].toArray w (Pure w fun v _ => v = .bool (decide (ng = mg ∧ xs = ys))) := by
  have hb0 := Below.refl w.heap.size w
  refine enter Try.func51 rfl rfl (w_seq (w_region (st (s_box rfl ?_))))
  intro g1 w1 hg1 hB1 k1 hs1
  change Blk w1 g1 31 [.bool ng, a].toArray at hB1
  have hb1 := below_g0 hb0 k1
  refine st (s_box rfl ?_)
  intro g2 w2 hg2 hB2 k2 hs2
  change Blk w2 g2 31 [.bool mg, b].toArray at hB2
  have hb2 := below_g0 hb1 k2
  refine st (s_assign rfl (r_end (n_then (w_seq (w_region (st (s_faddr fld31_0 rfl (st (s_load one4 rfl (hB1.g0 k2).range (j := 0) rfl ?_)))))))))
  refine st (s_faddr fld31_0 rfl (st (s_load one4 rfl hB2.range (j := 0) rfl (st (s_eqbool bool4 rfl rfl (st (s_move rfl ?_)))))))
  refine r_case 10 rfl (fun h1 => ?_) (fun h1 => ?_)
  rotate_left
  · refine s_pass rfl rfl (s_pass rfl rfl (s_pass rfl rfl (s_pass rfl rfl (s_pass rfl rfl (st (s_pick rfl rfl (st (s_assign rfl ?_))))))))
    refine r_end (n_then (w_ret1 rfl rfl ?_))
    exact ⟨_, rfl, hb2, by rw [decide_eq_false (fun e => by rw [e.1, beq_self_eq_true] at h1; cases h1)]⟩
  refine stg (s_faddr fld31_1 rfl (stg (s_load one29 rfl (hB1.g0 k2).range (j := 1) rfl (stg (s_faddr fld31_1 rfl (stg (s_load one29 rfl hB2.range (j := 1) rfl (stg (s_call fn83 rfl (eq32_any ((ha.at0 hb2)).none ((hb.at0 hb2)).none) ?_)))))))))
  rintro _ w3 ⟨hq1, rfl⟩
  have k3 := grown_of_below hq1 none
  have hz1 := hq1.size
  have hb3 := below_g0 hb2 k3
  have hz2 := hb3.size
  refine st (s_pick rfl rfl (st (s_assign rfl (r_end (n_then (w_ret1 rfl rfl ?_))))))
  exact ⟨_, rfl, hb3, congrArg Value.bool (decide_eq_decide.2 ⟨fun e => ⟨eq_of_beq h1, e⟩, fun e => e.2⟩)⟩

set_option maxHeartbeats 1000000 in
theorem rbsame_any {w : World} {ng mg : Bool} {a b : Value} {xs ys : List Int} (ha : Sl Kd.u32 w (fun _ => False) a xs) (hb : Sl Kd.u32 w (fun _ => False) b ys) :
    Calls Try.prog 24 [.agg [.bool ng, a].toArray, .agg [.bool mg, b].toArray].toArray w (Pure w fun v _ => v = .bool (decide (ng = mg ∧ xs = ys))) := by
  have hb0 := Below.refl w.heap.size w
  refine enter Try.func24 rfl rfl (w_seq (w_region (st (s_box rfl ?_))))
  intro g1 w1 hg1 hB1 k1 hs1
  change Blk w1 g1 31 [.bool ng, a].toArray at hB1
  have hb1 := below_g0 hb0 k1
  refine st (s_box rfl ?_)
  intro g2 w2 hg2 hB2 k2 hs2
  change Blk w2 g2 31 [.bool mg, b].toArray at hB2
  have hb2 := below_g0 hb1 k2
  refine st (s_assign rfl (r_end (n_then (w_seq (w_region (st (s_faddr fld31_0 rfl (st (s_load one4 rfl (hB1.g0 k2).range (j := 0) rfl ?_)))))))))
  refine st (s_faddr fld31_0 rfl (st (s_load one4 rfl hB2.range (j := 0) rfl (st (s_eqbool bool4 rfl rfl (st (s_move rfl ?_)))))))
  refine r_case 10 rfl (fun h1 => ?_) (fun h1 => ?_)
  rotate_left
  · refine s_pass rfl rfl (s_pass rfl rfl (s_pass rfl rfl (s_pass rfl rfl (s_pass rfl rfl (st (s_pick rfl rfl (st (s_assign rfl ?_))))))))
    refine r_end (n_then (w_ret1 rfl rfl ?_))
    exact ⟨_, rfl, hb2, by rw [decide_eq_false (fun e => by rw [e.1, beq_self_eq_true] at h1; cases h1)]⟩
  refine stg (s_faddr fld31_1 rfl (stg (s_load one29 rfl (hB1.g0 k2).range (j := 1) rfl (stg (s_faddr fld31_1 rfl (stg (s_load one29 rfl hB2.range (j := 1) rfl (stg (s_call fn56 rfl (same_any ((ha.at0 hb2)).none ((hb.at0 hb2)).none) ?_)))))))))
  rintro _ w3 ⟨hq1, rfl⟩
  have k3 := grown_of_below hq1 none
  have hz1 := hq1.size
  have hb3 := below_g0 hb2 k3
  have hz2 := hb3.size
  refine st (s_pick rfl rfl (st (s_assign rfl (r_end (n_then (w_ret1 rfl rfl ?_))))))
  exact ⟨_, rfl, hb3, congrArg Value.bool (decide_eq_decide.2 ⟨fun e => ⟨eq_of_beq h1, e⟩, fun e => e.2⟩)⟩
end Go.Proofs.Ytfljelnfjbbknaa.Lm

set_option maxRecDepth 20000
set_option linter.unusedSimpArgs false
set_option linter.unusedVariables false
namespace Go.Proofs.Ytfljelnfjbbknaa.Lm
open Go.RowKit Go.Gw
set_option maxHeartbeats 1000000 in
theorem sign_any {w : World} {n0 : Nat} (hn0 : n0 ≤ w.heap.size) {ng : Bool} {a : Value} {xs : List Int} (ha : Sl Kd.u32 w (G 83 n0 w) a xs) (hla : xs.length ≤ 100000) :
    Calls Try.prog 53 [.bool ng, a].toArray w (Pure w fun v W => IsBig 83 n0 W v (sg ng (nv xs))) := by
  have hb0 := Below.refl w.heap.size w
  have hln1 := ha.lenle
  refine enter Try.func53 rfl rfl (w_seq (w_region (st (s_alloc zero31 ?_))))
  intro g1 w1 hg1 hB1 k1 hs1
  have hz1 := hb0.size
  have hb1 := below_g0 hb0 k1
  refine r_end (n_then (w_seq (w_region (st (s_move rfl (st (s_call fn84 rfl (rnorm_any (n0 := n0) (below_n0 hn0 hb1) (((ha.at0 hb1)).unlocG hb1) (by first | omega | (simp; done) | (simp; omega))) ?_)))))))
  rintro v1 w2 ⟨hq1, hS1⟩
  have k2 := grown_of_below hq1 none
  have hz2 := hq1.size
  have hb2 := below_g0 hb1 k2
  have hz3 := hb2.size
  refine st (s_assign rfl (r_end (n_then (w_seq (w_region (st (s_move rfl (st (s_move rfl ?_)))))))))
  refine r_case 8 rfl (fun h1 => ?_) (fun h1 => ?_)
  rotate_left
  · refine s_pass rfl rfl (s_pass rfl rfl (s_pass rfl rfl (st (s_pick rfl rfl (st (s_move rfl (st (s_build (ps := [(0, .tmp 12), (1, .tmp 13)]) (ccs := [#[.bool false], #[v1]]) (cells := [.bool false, v1]) rfl (by simp only [List.map_cons, List.map_nil, hS1.cells1] <;> rfl) (by kernel_rfl) (st0 (s_storeN row31 rfl rfl (hB1.g0 k2) (by simp only [List.all_cons, List.all_nil, hS1.one, Bool.and_true, Bool.and_self] <;> rfl) rfl rfl ?_))))))))))
    intro w4 hB3 k4 hs3
    have hb4 := below_g hb2 k4 (by first | omega | (have h9 := (hb2).size; omega))
    refine r_end (n_then (w_retc1 rfl row31 rfl hB3.range rfl ?_))
    have hm := nv_nonneg (lim_sl ha)
    exact ⟨_, rfl, hb4, _, by rw [sg_pos hm h1], by rw [← sg_ml ng hm]; exact (hS1.ggB k4 (hB1.g0 k2) (by decide) (by omega))⟩
  refine stg (s_move rfl (stg (s_len sl29 rfl hS1 (stg (s_gt rfl rfl (st (s_pick rfl rfl (st (s_move rfl (st (s_build (ps := [(0, .tmp 12), (1, .tmp 13)]) (ccs := [#[.bool (decide (0 < ((tl (nv xs)).length : Int)))], #[v1]]) (cells := [.bool (decide (0 < ((tl (nv xs)).length : Int))), v1]) rfl (by simp only [List.map_cons, List.map_nil, hS1.cells1] <;> rfl) (by kernel_rfl) (st0 (s_storeN row31 rfl rfl (hB1.g0 k2) (by simp only [List.all_cons, List.all_nil, hS1.one, Bool.and_true, Bool.and_self] <;> rfl) rfl rfl ?_)))))))))))))
  intro w3 hB2 k3 hs2
  have hb3 := below_g hb2 k3 (by first | omega | (have h9 := (hb2).size; omega))
  refine r_end (n_then (w_retc1 rfl row31 rfl hB2.range rfl ?_))
  have hm := nv_nonneg (lim_sl ha)
  exact ⟨_, rfl, hb3, _, by rw [sg_neg hm h1], by rw [← sg_ml ng hm]; exact (hS1.ggB k3 (hB1.g0 k2) (by decide) (by omega))⟩

set_option maxHeartbeats 1000000 in
theorem rof2_any {w : World} {n0 : Nat} (hn0 : n0 ≤ w.heap.size) {n : Int} (hn : -9223372036854775808 ≤ n ∧ n ≤ 9223372036854775807) :
    Calls Try.prog 20 [.int .i64 n].toArray w (Pure w fun v W => IsBig 83 n0 W v (n)) := by
  have hb0 := Below.refl w.heap.size w
  refine enter Try.func20 rfl rfl (w_seq (w_region (st (s_alloc zero31 ?_))))
  intro g1 w1 hg1 hB1 k1 hs1
  have hz1 := hb0.size
  have hb1 := below_g0 hb0 k1
  refine r_end (n_then (w_seq (w_region (st (s_move rfl (st (s_convm (M := 18446744073709551616) rfl rfl intk3 intk81 rfl (st (s_assign rfl ?_)))))))))
  refine r_end (n_then (w_seq (w_seq (w_region (st (s_move rfl (st (s_lt rfl rfl ?_))))))))
  refine r_end (n_then ?_)
  refine w_condP rfl (fun h1 => ?_) (fun h1 => ?_)
  rotate_left
  · refine w_skip' (n_then (w_seq (w_region (st (s_move rfl (st (s_lt rfl rfl (st (s_move rfl ?_)))))))))
    refine st (s_remk rfl rfl (by omega) (by omega) (st (s_convm (M := 4294967296) rfl rfl intk81 intk83 rfl (st (s_move rfl (st (s_quok (M := 18446744073709551616) rfl rfl rfl rfl (by omega) (by omega) (st (s_convm (M := 4294967296) rfl rfl intk81 intk83 rfl (st (s_bslice (ps := [(0, .tmp 14), (1, .tmp 17)]) (ccs := [#[.int .u32 (((n % 18446744073709551616) % 4294967296) % 4294967296)], #[.int .u32 (((n % 18446744073709551616) / 4294967296) % 4294967296)]]) (e := 83) (cells := [.int .u32 (((n % 18446744073709551616) % 4294967296) % 4294967296), .int .u32 (((n % 18446744073709551616) / 4294967296) % 4294967296)]) rfl rfl (by kernel_rfl) (by decide) nz83 ?_)))))))))))
    intro g3 w5 hg3 hB4 k5 hs4
    have hb5 := below_g0 hb1 k5
    have hz5 := hb5.size
    have hS3 := lit_u32s (F := fun _ => False) ([(((n % 18446744073709551616) % 4294967296) % 4294967296), (((n % 18446744073709551616) / 4294967296) % 4294967296)] : List Int) hB4 (fun h => h) rfl (by first | decide | simp) (by intro x hx; simp at hx; omega)
    refine st (s_call fn53 rfl (sign_any (n0 := n0) (below_n0 hn0 hb5) (Sl.litG hB4 hS3) (by first | omega | (simp; done) | (simp; omega))) ?_)
    rintro _ w6 ⟨hq2, v2, rfl, hS4⟩
    have k6 := grown_of_below hq2 none
    have hz6 := hq2.size
    have hb6 := below_g0 hb5 k6
    have hz7 := hb6.size
    refine st0 (s_storeN row31 rfl rfl ((hB1.g0 k5).g0 k6) (by simp only [List.all_cons, List.all_nil, hS4.one, Bool.and_true, Bool.and_self] <;> rfl) rfl rfl ?_)
    intro w7 hB5 k7 hs5
    have hb7 := below_g hb6 k7 (by first | omega | (have h9 := (hb6).size; omega))
    refine r_end (n_then (w_retc1 rfl row31 rfl hB5.range rfl ?_))
    exact ⟨_, rfl, hb7, big_of (rof_pos hn h1) (hS4.ggB k7 ((hB1.g0 k5).g0 k6) (by decide) (by omega))⟩
  refine w_region (st (s_move rfl (st (s_negk (M := 18446744073709551616) rfl rfl rfl (st (s_assign rfl (r_end (n_then (w_seq ?_)))))))))
  refine w_region (st (s_move rfl (st (s_lt rfl rfl (st (s_move rfl (st (s_remk rfl rfl (by omega) (by omega) (st (s_convm (M := 4294967296) rfl rfl intk81 intk83 rfl (st (s_move rfl ?_))))))))))))
  refine st (s_quok (M := 18446744073709551616) rfl rfl rfl rfl (by omega) (by omega) (st (s_convm (M := 4294967296) rfl rfl intk81 intk83 rfl (st (s_bslice (ps := [(0, .tmp 14), (1, .tmp 17)]) (ccs := [#[.int .u32 ((((-(n % 18446744073709551616)) % 18446744073709551616) % 4294967296) % 4294967296)], #[.int .u32 ((((-(n % 18446744073709551616)) % 18446744073709551616) / 4294967296) % 4294967296)]]) (e := 83) (cells := [.int .u32 ((((-(n % 18446744073709551616)) % 18446744073709551616) % 4294967296) % 4294967296), .int .u32 ((((-(n % 18446744073709551616)) % 18446744073709551616) / 4294967296) % 4294967296)]) rfl rfl (by kernel_rfl) (by decide) nz83 ?_)))))
  intro g2 w2 hg2 hB2 k2 hs2
  have hb2 := below_g0 hb1 k2
  have hz2 := hb2.size
  have hS1 := lit_u32s (F := fun _ => False) ([((((-(n % 18446744073709551616)) % 18446744073709551616) % 4294967296) % 4294967296), ((((-(n % 18446744073709551616)) % 18446744073709551616) / 4294967296) % 4294967296)] : List Int) hB2 (fun h => h) rfl (by first | decide | simp) (by intro x hx; simp at hx; omega)
  refine st (s_call fn53 rfl (sign_any (n0 := n0) (below_n0 hn0 hb2) (Sl.litG hB2 hS1) (by first | omega | (simp; done) | (simp; omega))) ?_)
  rintro _ w3 ⟨hq1, v1, rfl, hS2⟩
  have k3 := grown_of_below hq1 none
  have hz3 := hq1.size
  have hb3 := below_g0 hb2 k3
  have hz4 := hb3.size
  refine st0 (s_storeN row31 rfl rfl ((hB1.g0 k2).g0 k3) (by simp only [List.all_cons, List.all_nil, hS2.one, Bool.and_true, Bool.and_self] <;> rfl) rfl rfl ?_)
  intro w4 hB3 k4 hs3
  have hb4 := below_g hb3 k4 (by first | omega | (have h9 := (hb3).size; omega))
  refine r_end (n_then (w_retc1 rfl row31 rfl hB3.range rfl ?_))
  exact ⟨_, rfl, hb4, big_of (rof_neg hn h1) (hS2.ggB k4 ((hB1.g0 k2).g0 k3) (by decide) (by omega))⟩

set_option maxHeartbeats 1000000 in
theorem rminus_any0 {w : World} {n0 : Nat} (hn0 : n0 ≤ w.heap.size)  {a : Value} {n : Int} (ha : Sl Kd.u32 w (G 83 n0 w) a (ml n)) (hbn : Bd 90000 n)  :
    Calls Try.prog 48 [.agg [.bool (decide (n < 0)), a].toArray].toArray w (Pure w fun v W => IsBig 83 n0 W v (-n)) := by
  have hb0 := Below.refl w.heap.size w
  have hln := bd_len hbn
  have hnn := nv_ml n
  refine enter Try.func48 rfl rfl (w_seq (w_region (st (s_box rfl ?_))))
  intro g1 w1 hg1 hB1 k1 hs1
  change Blk w1 g1 31 [.bool (decide (n < 0)), a].toArray at hB1
  have hb1 := below_g0 hb0 k1
  have hlt_1 := (hB1).lt
  refine st (s_alloc zero31 ?_)
  intro g2 w2 hg2 hB2 k2 hs2
  have hz1 := hb1.size
  have hb2 := below_g0 hb1 k2
  refine r_end (n_then (w_seq (w_region (st (s_faddr fld31_0 rfl (st (s_load one4 rfl (hB1.g0 k2).range (j := 0) rfl (st (s_notP rfl ?_)))))))))
  refine st (s_faddr fld31_1 rfl (st (s_load one29 rfl (hB1.g0 k2).range (j := 1) rfl (st (s_call fn53 rfl (sign_any (n0 := n0) (below_n0 hn0 hb2) (((ha.at0 hb2)).unlocG hb2) (by first | omega | (simp; done) | (simp; omega))) ?_)))))
  rintro _ w3 ⟨hq1, v1, rfl, hS1⟩
  have k3 := grown_of_below hq1 none
  have hz2 := hq1.size
  have hb3 := below_g0 hb2 k3
  have hz3 := hb3.size
  refine st0 (s_storeN row31 rfl rfl (hB2.g0 k3) (by simp only [List.all_cons, List.all_nil, hS1.one, Bool.and_true, Bool.and_self] <;> rfl) rfl rfl ?_)
  intro w4 hB3 k4 hs3
  have hb4 := below_g hb3 k4 (by first | omega | (have h9 := (hb3).size; omega))
  refine r_end (n_then (w_retc1 rfl row31 rfl hB3.range rfl ?_))
  exact ⟨_, rfl, hb4, big_of (by rw [nv_ml]; exact sg_minv n) (hS1.ggB k4 (hB2.g0 k3) (by decide) (by omega))⟩

theorem rminus_any {w : World} {n0 : Nat} (hn0 : n0 ≤ w.heap.size)  {vn : Value} {n : Int} (hn : IsBig 83 n0 w vn n) (hbn : Bd 90000 n)  :
    Calls Try.prog 48 [vn].toArray w (Pure w fun v W => IsBig 83 n0 W v (-n)) := by
  obtain ⟨sn, rfl, kn⟩ := hn
  exact rminus_any0 hn0 kn hbn

set_option maxHeartbeats 1000000 in
theorem rbadd_any0 {w : World} {n0 : Nat} (hn0 : n0 ≤ w.heap.size)  {a : Value} {n : Int} {b : Value} {m : Int} (ha : Sl Kd.u32 w (G 83 n0 w) a (ml n)) (hb : Sl Kd.u32 w (G 83 n0 w) b (ml m)) (hbn : Bd 90000 n) (hbm : Bd 90000 m)  :
    Calls Try.prog 22 [.agg [.bool (decide (n < 0)), a].toArray, .agg [.bool (decide (m < 0)), b].toArray].toArray w (Pure w fun v W => IsBig 83 n0 W v (n + m)) := by
  have hb0 := Below.refl w.heap.size w
  have hal : (tl (nv (ml n) + nv (ml m))).length ≤ 90001 := by rw [nv_ml, nv_ml]; exact tl_len (by omega) (by have h1 := (bd_add (i := 90001) hbn hbm (by decide) (by decide)); have h2 := (bd_sub (i := 90001) hbn hbm (by decide) (by decide)); unfold Bd at *; omega)
  have hsl : (tl (nv (ml n) - nv (ml m))).length ≤ 90001 := by rw [nv_ml, nv_ml]; by_cases h0 : ((n.natAbs : Nat) : Int) - m.natAbs ≤ 0; (rw [tl_zero h0]; exact Nat.zero_le _); exact tl_len (by omega) (by have h1 := (bd_add (i := 90001) hbn hbm (by decide) (by decide)); have h2 := (bd_sub (i := 90001) hbn hbm (by decide) (by decide)); unfold Bd at *; omega)
  have hsl2 : (tl (nv (ml m) - nv (ml n))).length ≤ 90001 := by rw [nv_ml, nv_ml]; by_cases h0 : ((m.natAbs : Nat) : Int) - n.natAbs ≤ 0; (rw [tl_zero h0]; exact Nat.zero_le _); exact tl_len (by omega) (by have h1 := (bd_add (i := 90001) hbn hbm (by decide) (by decide)); have h2 := (bd_sub (i := 90001) hbn hbm (by decide) (by decide)); unfold Bd at *; omega)
  have hln := bd_len hbn
  have hlm := bd_len hbm
  have hnn := nv_ml n
  have hnm := nv_ml m
  refine enter Try.func22 rfl rfl (w_seq (w_region (st (s_box rfl ?_))))
  intro g1 w1 hg1 hB1 k1 hs1
  change Blk w1 g1 31 [.bool (decide (n < 0)), a].toArray at hB1
  have hb1 := below_g0 hb0 k1
  refine st (s_box rfl ?_)
  intro g2 w2 hg2 hB2 k2 hs2
  change Blk w2 g2 31 [.bool (decide (m < 0)), b].toArray at hB2
  have hb2 := below_g0 hb1 k2
  have hlt_1 := ((hB1.g0 k2)).lt
  have hlt_2 := (hB2).lt
  refine st (s_alloc zero31 ?_)
  intro g3 w3 hg3 hB3 k3 hs3
  have hz1 := hb2.size
  have hb3 := below_g0 hb2 k3
  refine r_end (n_then (w_seq (w_seq (w_region (st (s_faddr fld31_0 rfl (st (s_load one4 rfl ((hB1.g0 k2).g0 k3).range (j := 0) rfl ?_))))))))
  refine st (s_faddr fld31_0 rfl (st (s_load one4 rfl (hB2.g0 k3).range (j := 0) rfl (st (s_eqbool bool4 rfl rfl (r_end (n_then ?_)))))))
  refine w_cond rfl (fun h1 => ?_) (fun h1 => ?_)
  · refine w_seq ?_
    refine w_draw 8 (fun a b => a.grownBy b none) [(some 12, Is <| .pointer (some ⟨g1, 0 + 0, none⟩)), (some 13, Is <| .bool (decide (n < 0))), (some 14, Is <| .pointer (some ⟨g1, 0 + 1, none⟩)), (some 15, fun v _ => Sl Kd.u32 w (G 83 n0 w) v (ml n)), (some 16, Is <| .pointer (some ⟨g2, 0 + 1, none⟩)), (some 17, fun v _ => Sl Kd.u32 w (G 83 n0 w) v (ml m)), (some 18, fun v W => Sl Kd.u32 W (G 83 n0 W) v (tl (nv (ml n) + nv (ml m)))), (some 19, fun v W => IsBig 83 n0 W v (sg (decide (n < 0)) (nv (tl (nv (ml n) + nv (ml m))))))] [[], [0], [], [2], [], [4], [3, 5], [1, 6]] [(2, .pointer (some ⟨g1, 0, none⟩)), (3, .pointer (some ⟨g2, 0, none⟩)), (4, .pointer (some ⟨g3, 0, none⟩))] (by exact ⟨rfl, rfl, rfl, trivial⟩) (by kernel_rfl) (by kernel_rfl) grown_none_refl (fun _ _ _ => grown_none_trans) ⟨kv, kv, kv, fun _ _ _ h _ => h, kv, fun _ _ _ h _ => h, fun _ _ _ h k => h.gg0 k, fun _ _ _ h k => h.g0 k, trivial⟩ ?_
    intro w6 k6 hs4
    have hb4 := below_g0 hb3 k6
    refine ⟨⟨?_, ?_, ?_, ?_, ?_, ?_, ?_, ?_, trivial⟩, ?_⟩
    · intro w7 k7
      refine op1 (s_faddr fld31_0 rfl ?_)
      exact ⟨rfl, grown_none_refl _⟩
    · intro w8 k8
      rintro _ rfl
      refine op1 (s_load one4 rfl ((((hB1.g0 k2).g0 k3).g0 k6).g0 k8).range (j := 0) rfl ?_)
      exact ⟨rfl, grown_none_refl _⟩
    · intro w9 k9
      refine op1 (s_faddr fld31_1 rfl ?_)
      exact ⟨rfl, grown_none_refl _⟩
    · intro w10 k10
      rintro _ rfl
      refine op1 (s_load one29 rfl ((((hB1.g0 k2).g0 k3).g0 k6).g0 k10).range (j := 1) rfl ?_)
      exact ⟨ha, grown_none_refl _⟩
    · intro w11 k11
      refine op1 (s_faddr fld31_1 rfl ?_)
      exact ⟨rfl, grown_none_refl _⟩
    · intro w12 k12
      rintro _ rfl
      refine op1 (s_load one29 rfl (((hB2.g0 k3).g0 k6).g0 k12).range (j := 1) rfl ?_)
      exact ⟨hb, grown_none_refl _⟩
    · intro w13 k13
      have hb11 := below_g0 hb4 k13
      rintro v3 hS3 v4 hS4
      refine op1 (s_call fn54 rfl (radd_any (n0 := n0) (below_n0 hn0 hb11) (((hS3.at0 hb11)).unlocG hb11) (((hS4.at0 hb11)).unlocG hb11) (by first | omega | (simp; done) | (simp; omega)) (by first | omega | (simp; done) | (simp; omega))) ?_)
      rintro v5 w14 ⟨hq3, hS5⟩
      have k14 := grown_of_below hq3 none
      have hz2 := hq3.size
      have hb12 := below_g0 hb11 k14
      have hz3 := hb12.size
      exact ⟨hS5, k14⟩
    · intro w15 k15
      have hb13 := below_g0 hb4 k15
      rintro _ rfl v6 hS6
      refine op1 (s_call fn53 rfl (sign_any (n0 := n0) (below_n0 hn0 hb13) hS6 (by first | omega | (simp; done) | (simp; omega))) ?_)
      rintro _ w16 ⟨hq4, v7, rfl, hS7⟩
      have k16 := grown_of_below hq4 none
      have hz4 := hq4.size
      have hb14 := below_g0 hb13 k16
      have hz5 := hb14.size
      exact ⟨⟨_, rfl, hS7⟩, k16⟩
    intro w17 k17
    have hb15 := below_g0 hb4 k17
    rintro _ rfl _ rfl _ rfl v8 hS8 _ rfl v9 hS9 v10 hS10 _ ⟨v11, rfl, hS11⟩
    refine st0 (s_storeN row31 rfl rfl ((hB3.g0 k6).g0 k17) (by simp only [List.all_cons, List.all_nil, hS11.one, Bool.and_true, Bool.and_self] <;> rfl) rfl rfl ?_)
    intro w18 hB4 k18 hs5
    have hb16 := below_g hb15 k18 (by first | omega | (have h9 := (hb15).size; omega))
    refine r_end (n_then (w_retc1 rfl row31 rfl hB4.range rfl ?_))
    have he : sg (decide (n < 0)) (nv (tl (nv (ml n) + nv (ml m)))) = n + m := (by rw [nv_tl (by omega)]; exact sg_add (eq_of_beq h1))
    exact ⟨_, rfl, hb16, big_of he (hS11.ggB k18 ((hB3.g0 k6).g0 k17) (by decide) (by omega))⟩
  refine w_skip' (n_then (w_seq (w_region (st (s_faddr fld31_1 rfl (st (s_load one29 rfl ((hB1.g0 k2).g0 k3).range (j := 1) rfl (st (s_faddr fld31_1 rfl ?_)))))))))
  refine st (s_load one29 rfl (hB2.g0 k3).range (j := 1) rfl (st (s_call fn55 rfl (rsub_any (n0 := n0) (below_n0 hn0 hb3) (((ha.at0 hb3)).unlocG hb3) (((hb.at0 hb3)).unlocG hb3) (by first | omega | (simp; done) | (simp; omega)) (by first | omega | (simp; done) | (simp; omega))) ?_)))
  rintro _ w19 ⟨hq5, v12, rfl, hS12⟩
  have k19 := grown_of_below hq5 none
  have hz6 := hq5.size
  have hb17 := below_g0 hb3 k19
  have hz7 := hb17.size
  refine st (s_move rfl (st (s_extract rfl rfl (st (s_extract rfl rfl (st (s_assign rfl (st (s_assign rfl (r_end (n_then ?_)))))))))))
  refine w_seq (w_seq (w_region (st (s_move rfl (r_end (n_then ?_))))))
  refine w_cond rfl (fun h2 => ?_) (fun h2 => ?_)
  · refine w_seq (w_region (st (s_faddr fld31_0 rfl (st (s_load one4 rfl (((hB1.g0 k2).g0 k3).g0 k19).range (j := 0) rfl (st (s_move rfl (st (s_call fn53 rfl (sign_any (n0 := n0) (below_n0 hn0 hb17) hS12 (by first | omega | (simp; done) | (simp; omega))) ?_)))))))))
    rintro _ w20 ⟨hq6, v13, rfl, hS13⟩
    have k20 := grown_of_below hq6 none
    have hz8 := hq6.size
    have hb18 := below_g0 hb17 k20
    have hz9 := hb18.size
    refine st0 (s_storeN row31 rfl rfl ((hB3.g0 k19).g0 k20) (by simp only [List.all_cons, List.all_nil, hS13.one, Bool.and_true, Bool.and_self] <;> rfl) rfl rfl ?_)
    intro w21 hB5 k21 hs6
    have hb19 := below_g hb18 k21 (by first | omega | (have h9 := (hb18).size; omega))
    refine r_end (n_then (w_retc1 rfl row31 rfl hB5.range rfl ?_))
    have he : sg (decide (n < 0)) (nv (tl (nv (ml n) - nv (ml m)))) = n + m := (by have hle : nv (ml m) ≤ nv (ml n) := (by simpa using h2); rw [nv_tl (by omega)]; exact sg_sub (fun e => by rw [e, beq_self_eq_true] at h1; cases h1) hle)
    exact ⟨_, rfl, hb19, big_of he (hS13.ggB k21 ((hB3.g0 k19).g0 k20) (by decide) (by omega))⟩
  refine w_skip' (n_then (w_seq (w_region (st (s_faddr fld31_1 rfl (st (s_load one29 rfl ((hB2.g0 k3).g0 k19).range (j := 1) rfl (st (s_faddr fld31_1 rfl ?_)))))))))
  refine st (s_load one29 rfl (((hB1.g0 k2).g0 k3).g0 k19).range (j := 1) rfl (st (s_call fn55 rfl (rsub_any (n0 := n0) (below_n0 hn0 hb17) (((hb.at0 hb17)).unlocG hb17) (((ha.at0 hb17)).unlocG hb17) (by first | omega | (simp; done) | (simp; omega)) (by first | omega | (simp; done) | (simp; omega))) ?_)))
  rintro _ w22 ⟨hq7, v14, rfl, hS14⟩
  have k22 := grown_of_below hq7 none
  have hz10 := hq7.size
  have hb20 := below_g0 hb17 k22
  have hz11 := hb20.size
  refine st (s_move rfl (st (s_extract rfl rfl (st (s_extract rfl rfl (st (s_assign rfl (r_end (n_then (w_seq ?_))))))))))
  refine w_region (st (s_faddr fld31_0 rfl (st (s_load one4 rfl (((hB2.g0 k3).g0 k19).g0 k22).range (j := 0) rfl (st (s_move rfl (st (s_call fn53 rfl (sign_any (n0 := n0) (below_n0 hn0 hb20) hS14 (by first | omega | (simp; done) | (simp; omega))) ?_))))))))
  rintro _ w23 ⟨hq8, v15, rfl, hS15⟩
  have k23 := grown_of_below hq8 none
  have hz12 := hq8.size
  have hb21 := below_g0 hb20 k23
  have hz13 := hb21.size
  refine st0 (s_storeN row31 rfl rfl (((hB3.g0 k19).g0 k22).g0 k23) (by simp only [List.all_cons, List.all_nil, hS15.one, Bool.and_true, Bool.and_self] <;> rfl) rfl rfl ?_)
  intro w24 hB6 k24 hs7
  have hb22 := below_g hb21 k24 (by first | omega | (have h9 := (hb21).size; omega))
  refine r_end (n_then (w_retc1 rfl row31 rfl hB6.range rfl ?_))
  have he : sg (decide (m < 0)) (nv (tl (nv (ml m) - nv (ml n)))) = n + m := (by have hle : ¬ nv (ml m) ≤ nv (ml n) := (by simpa using h2); rw [nv_tl (by omega)]; exact (sg_sub (fun e => by rw [e, beq_self_eq_true] at h1; cases h1) (by omega)).trans (Int.add_comm m n))
  exact ⟨_, rfl, hb22, big_of he (hS15.ggB k24 (((hB3.g0 k19).g0 k22).g0 k23) (by decide) (by omega))⟩

theorem rbadd_any {w : World} {n0 : Nat} (hn0 : n0 ≤ w.heap.size)  {vn : Value} {n : Int} {vm : Value} {m : Int} (hn : IsBig 83 n0 w vn n) (hm : IsBig 83 n0 w vm m) (hbn : Bd 90000 n) (hbm : Bd 90000 m)  :
    Calls Try.prog 22 [vn, vm].toArray w (Pure w fun v W => IsBig 83 n0 W v (n + m)) := by
  obtain ⟨sn, rfl, kn⟩ := hn
  obtain ⟨sm, rfl, km⟩ := hm
  exact rbadd_any0 hn0 kn km hbn hbm

set_option maxHeartbeats 1000000 in
theorem rbsub_any0 {w : World} {n0 : Nat} (hn0 : n0 ≤ w.heap.size)  {a : Value} {n : Int} {b : Value} {m : Int} (ha : Sl Kd.u32 w (G 83 n0 w) a (ml n)) (hb : Sl Kd.u32 w (G 83 n0 w) b (ml m)) (hbn : Bd 90000 n) (hbm : Bd 90000 m)  :
    Calls Try.prog 21 [.agg [.bool (decide (n < 0)), a].toArray, .agg [.bool (decide (m < 0)), b].toArray].toArray w (Pure w fun v W => IsBig 83 n0 W v (n - m)) := by
  have hb0 := Below.refl w.heap.size w
  have hln := bd_len hbn
  have hlm := bd_len hbm
  have hnn := nv_ml n
  have hnm := nv_ml m
  refine enter Try.func21 rfl rfl (w_seq (w_region (st (s_box rfl ?_))))
  intro g1 w1 hg1 hB1 k1 hs1
  change Blk w1 g1 31 [.bool (decide (n < 0)), a].toArray at hB1
  have hb1 := below_g0 hb0 k1
  refine st (s_box rfl ?_)
  intro g2 w2 hg2 hB2 k2 hs2
  change Blk w2 g2 31 [.bool (decide (m < 0)), b].toArray at hB2
  have hb2 := below_g0 hb1 k2
  have hlt_1 := ((hB1.g0 k2)).lt
  have hlt_2 := (hB2).lt
  refine st (s_alloc zero31 ?_)
  intro g3 w3 hg3 hB3 k3 hs3
  have hz1 := hb2.size
  have hb3 := below_g0 hb2 k3
  refine r_end (n_then (w_seq (w_draw 4 (fun a b => a.grownBy b none) [(some 5, Is <| .agg [.bool (decide (n < 0)), a].toArray), (some 6, Is <| .agg [.bool (decide (m < 0)), b].toArray), (some 7, fun v W => IsBig 83 n0 W v ((-m))), (some 8, fun v W => IsBig 83 n0 W v ((n + (-m))))] [[], [], [1], [0, 2]] [(2, .pointer (some ⟨g1, 0, none⟩)), (3, .pointer (some ⟨g2, 0, none⟩)), (4, .pointer (some ⟨g3, 0, none⟩))] (by exact ⟨rfl, rfl, rfl, trivial⟩) (by kernel_rfl) (by kernel_rfl) grown_none_refl (fun _ _ _ => grown_none_trans) ⟨kv, kv, fun _ _ _ h k => h.g0 k, fun _ _ _ h k => h.g0 k, trivial⟩ ?_)))
  intro w6 k6 hs4
  have hb4 := below_g0 hb3 k6
  refine ⟨⟨?_, ?_, ?_, ?_, trivial⟩, ?_⟩
  · intro w7 k7
    refine op1 (s_loadW row31 rfl ((((hB1.g0 k2).g0 k3).g0 k6).g0 k7).range rfl ?_)
    exact ⟨rfl, grown_none_refl _⟩
  · intro w8 k8
    refine op1 (s_loadW row31 rfl (((hB2.g0 k3).g0 k6).g0 k8).range rfl ?_)
    exact ⟨rfl, grown_none_refl _⟩
  · intro w9 k9
    have hb7 := below_g0 hb4 k9
    rintro _ rfl
    refine op1 (s_call fn48 rfl (rminus_any (n0 := n0) (below_n0 hn0 hb7) (big_of rfl (((hb.at0 hb7)).unlocG hb7)) (Bd.le hbm (show 90000 ≤ 90000 by decide))) ?_)
    rintro _ w10 ⟨hq3, v3, rfl, hS3⟩
    have k10 := grown_of_below hq3 none
    have hz2 := hq3.size
    have hb8 := below_g0 hb7 k10
    have hz3 := hb8.size
    exact ⟨⟨_, rfl, hS3⟩, k10⟩
  · intro w11 k11
    have hb9 := below_g0 hb4 k11
    rintro _ rfl _ ⟨v4, rfl, hS4⟩
    refine op1 (s_call fn22 rfl (rbadd_any (n0 := n0) (below_n0 hn0 hb9) (big_of rfl (((ha.at0 hb9)).unlocG hb9)) (big_of rfl hS4) (Bd.le hbn (show 90000 ≤ 90000 by decide)) (Bd.le (bd_neg hbm) (show 90000 ≤ 90000 by decide))) ?_)
    rintro _ w12 ⟨hq4, v5, rfl, hS5⟩
    have k12 := grown_of_below hq4 none
    have hz4 := hq4.size
    have hb10 := below_g0 hb9 k12
    have hz5 := hb10.size
    exact ⟨⟨_, rfl, hS5⟩, k12⟩
  intro w13 k13
  have hb11 := below_g0 hb4 k13
  rintro _ rfl _ rfl _ ⟨v6, rfl, hS6⟩ _ ⟨v7, rfl, hS7⟩
  refine st0 (s_storeN row31 rfl rfl ((hB3.g0 k6).g0 k13) (by simp only [List.all_cons, List.all_nil, hS7.one, Bool.and_true, Bool.and_self] <;> rfl) rfl rfl ?_)
  intro w14 hB4 k14 hs5
  have hb12 := below_g hb11 k14 (by first | omega | (have h9 := (hb11).size; omega))
  refine r_end (n_then (w_retc1 rfl row31 rfl hB4.range rfl ?_))
  exact ⟨_, rfl, hb12, big_of (by omega) (hS7.ggB k14 ((hB3.g0 k6).g0 k13) (by decide) (by omega))⟩

theorem rbsub_any {w : World} {n0 : Nat} (hn0 : n0 ≤ w.heap.size)  {vn : Value} {n : Int} {vm : Value} {m : Int} (hn : IsBig 83 n0 w vn n) (hm : IsBig 83 n0 w vm m) (hbn : Bd 90000 n) (hbm : Bd 90000 m)  :
    Calls Try.prog 21 [vn, vm].toArray w (Pure w fun v W => IsBig 83 n0 W v (n - m)) := by
  obtain ⟨sn, rfl, kn⟩ := hn
  obtain ⟨sm, rfl, km⟩ := hm
  exact rbsub_any0 hn0 kn km hbn hbm

set_option maxHeartbeats 1000000 in
theorem rbcmp_any0 {w : World} {n0 : Nat} (hn0 : n0 ≤ w.heap.size)  {a : Value} {n : Int} {b : Value} {m : Int} (ha : Sl Kd.u32 w (G 83 n0 w) a (ml n)) (hb : Sl Kd.u32 w (G 83 n0 w) b (ml m)) (hbn : Bd 90000 n) (hbm : Bd 90000 m)  :
    Calls Try.prog 23 [.agg [.bool (decide (n < 0)), a].toArray, .agg [.bool (decide (m < 0)), b].toArray].toArray w (Pure w fun v _ => v = .int .i64 (cmpI n m)) := by
  have hb0 := Below.refl w.heap.size w
  have hln := bd_len hbn
  have hlm := bd_len hbm
  have hnn := nv_ml n
  have hnm := nv_ml m
  refine enter Try.func23 rfl rfl (w_seq (w_region (st (s_box rfl ?_))))
  intro g1 w1 hg1 hB1 k1 hs1
  change Blk w1 g1 31 [.bool (decide (n < 0)), a].toArray at hB1
  have hb1 := below_g0 hb0 k1
  refine st (s_box rfl ?_)
  intro g2 w2 hg2 hB2 k2 hs2
  change Blk w2 g2 31 [.bool (decide (m < 0)), b].toArray at hB2
  have hb2 := below_g0 hb1 k2
  refine st (s_assign rfl (r_end (n_then (w_seq (w_region (st (s_loadW row31 rfl (hB1.g0 k2).range rfl (st (s_loadW row31 rfl hB2.range rfl ?_)))))))))
  refine st (s_call fn21 rfl (rbsub_any (n0 := n0) (below_n0 hn0 hb2) (big_of rfl (((ha.at0 hb2)).unlocG hb2)) (big_of rfl (((hb.at0 hb2)).unlocG hb2)) (Bd.le hbn (show 90000 ≤ 90000 by decide)) (Bd.le hbm (show 90000 ≤ 90000 by decide))) ?_)
  rintro _ w3 ⟨hq1, v1, rfl, hS1⟩
  have k3 := grown_of_below hq1 none
  have hz1 := hq1.size
  have hb3 := below_g0 hb2 k3
  have hz2 := hb3.size
  have hlt_1 := (((hB1.g0 k2).g0 k3)).lt
  have hlt_2 := ((hB2.g0 k3)).lt
  refine st (s_alloc zero31 ?_)
  intro g3 w4 hg3 hB3 k4 hs3
  have hz3 := hb3.size
  have hb4 := below_g0 hb3 k4
  refine st0 (s_storeN row31 rfl rfl hB3 (by simp only [List.all_cons, List.all_nil, hS1.one, Bool.and_true, Bool.and_self] <;> rfl) rfl rfl ?_)
  intro w5 hB4 k5 hs4
  have hb5 := below_g hb4 k5 (by first | omega | (have h9 := (hb4).size; omega))
  refine r_end (n_then (w_seq (w_block (w_seq (w_region (st (s_faddr fld31_1 rfl ?_)))))))
  refine st (s_load one29 rfl hB4.range (j := 1) rfl (st (s_len sl29 rfl ((hS1.gg0 k4).ggB k5 hB3 (by decide) (by omega)) (st (s_eq rfl rfl (st (s_assign rfl (r_end (n_then ?_)))))))))
  refine w_condP rfl (fun h1 => ?_) (fun h1 => ?_)
  · refine w_seq (w_region (st (s_assign rfl (r_end (n_then (w_ret1 rfl rfl ?_))))))
    exact ⟨_, rfl, hb5, congrArg (Value.int .i64) (rcmp_big.2.2 (ml_nil.1 h1)).symm⟩
  refine w_seq (w_region (st (s_faddr fld31_0 rfl (st (s_load one4 rfl hB4.range (j := 0) rfl (st (s_assign rfl (r_end (n_then ?_)))))))))
  refine w_condP rfl (fun h2 => ?_) (fun h2 => ?_)
  · refine w_seq (w_region (st (s_assign rfl (r_end (n_then (w_ret1 rfl rfl ?_))))))
    exact ⟨_, rfl, hb5, congrArg (Value.int .i64) (rcmp_big.2.1 h2).symm⟩
  refine w_skip' (n_block (n_then (w_seq (w_region (st (s_assign rfl (r_end ?_)))))))
  refine n_then (w_ret1 rfl rfl ?_)
  exact ⟨_, rfl, hb5, congrArg (Value.int .i64) (rcmp_big.1 (by have h9 : n - m ≠ 0 := fun e => h1 (ml_nil.2 e); omega)).symm⟩

theorem rbcmp_any {w : World} {n0 : Nat} (hn0 : n0 ≤ w.heap.size)  {vn : Value} {n : Int} {vm : Value} {m : Int} (hn : IsBig 83 n0 w vn n) (hm : IsBig 83 n0 w vm m) (hbn : Bd 90000 n) (hbm : Bd 90000 m)  :
    Calls Try.prog 23 [vn, vm].toArray w (Pure w fun v _ => v = .int .i64 (cmpI n m)) := by
  obtain ⟨sn, rfl, kn⟩ := hn
  obtain ⟨sm, rfl, km⟩ := hm
  exact rbcmp_any0 hn0 kn km hbn hbm

set_option maxHeartbeats 1000000 in
theorem rbshl_any0 {w : World} {n0 : Nat} (hn0 : n0 ≤ w.heap.size) {k : Int} {a : Value} {n : Int} (ha : Sl Kd.u32 w (G 83 n0 w) a (ml n)) (hbn : Bd 90000 n)  :
    Calls Try.prog 80 [.agg [.bool (decide (n < 0)), a].toArray, .int .i64 k].toArray w (Pure w fun v W => IsBig 83 n0 W v (shlN n k)) := by
  have hb0 := Below.refl w.heap.size w
  have hsl := shlL_len (k := k) hbn
  have hln := bd_len hbn
  have hnn := nv_ml n
  refine enter Try.func80 rfl rfl (w_seq (w_region (st (s_box rfl ?_))))
  intro g1 w1 hg1 hB1 k1 hs1
  change Blk w1 g1 31 [.bool (decide (n < 0)), a].toArray at hB1
  have hb1 := below_g0 hb0 k1
  have hlt_1 := (hB1).lt
  refine st (s_alloc zero31 ?_)
  intro g2 w2 hg2 hB2 k2 hs2
  have hz1 := hb1.size
  have hb2 := below_g0 hb1 k2
  refine r_end (n_then (w_seq ?_))
  refine w_draw 7 (fun a b => a.grownBy b none) [(some 5, Is <| .pointer (some ⟨g1, 0 + 0, none⟩)), (some 6, Is <| .bool (decide (n < 0))), (some 7, Is <| .pointer (some ⟨g1, 0 + 1, none⟩)), (some 8, fun v _ => Sl Kd.u32 w (G 83 n0 w) v (ml n)), (some 9, Is <| .int .i64 k), (some 10, fun v W => Sl Kd.u32 W (G 83 n0 W) v (shlL (ml n) k)), (some 11, fun v W => IsBig 83 n0 W v (sg (decide (n < 0)) (nv (shlL (ml n) k))))] [[], [0], [], [2], [], [3, 4], [1, 5]] [(1, .int .i64 k), (2, .pointer (some ⟨g1, 0, none⟩)), (4, .pointer (some ⟨g2, 0, none⟩))] (by exact ⟨rfl, rfl, rfl, trivial⟩) (by kernel_rfl) (by kernel_rfl) grown_none_refl (fun _ _ _ => grown_none_trans) ⟨kv, kv, kv, fun _ _ _ h _ => h, kv, fun _ _ _ h k => h.gg0 k, fun _ _ _ h k => h.g0 k, trivial⟩ ?_
  intro w5 k5 hs3
  have hb3 := below_g0 hb2 k5
  refine ⟨⟨?_, ?_, ?_, ?_, ?_, ?_, ?_, trivial⟩, ?_⟩
  · intro w6 k6
    refine op1 (s_faddr fld31_0 rfl ?_)
    exact ⟨rfl, grown_none_refl _⟩
  · intro w7 k7
    rintro _ rfl
    refine op1 (s_load one4 rfl (((hB1.g0 k2).g0 k5).g0 k7).range (j := 0) rfl ?_)
    exact ⟨rfl, grown_none_refl _⟩
  · intro w8 k8
    refine op1 (s_faddr fld31_1 rfl ?_)
    exact ⟨rfl, grown_none_refl _⟩
  · intro w9 k9
    rintro _ rfl
    refine op1 (s_load one29 rfl (((hB1.g0 k2).g0 k5).g0 k9).range (j := 1) rfl ?_)
    exact ⟨ha, grown_none_refl _⟩
  · intro w10 k10
    refine op1 (s_move rfl ?_)
    exact ⟨rfl, grown_none_refl _⟩
  · intro w11 k11
    have hb9 := below_g0 hb3 k11
    rintro v3 hS3 _ rfl
    refine op1 (s_call fn102 rfl (rshl_any (n0 := n0) (below_n0 hn0 hb9) (((hS3.at0 hb9)).unlocG hb9) (by first | omega | (simp; done) | (simp; omega))) ?_)
    rintro v4 w12 ⟨hq3, hS4⟩
    have k12 := grown_of_below hq3 none
    have hz2 := hq3.size
    have hb10 := below_g0 hb9 k12
    have hz3 := hb10.size
    exact ⟨hS4, k12⟩
  · intro w13 k13
    have hb11 := below_g0 hb3 k13
    rintro _ rfl v5 hS5
    refine op1 (s_call fn53 rfl (sign_any (n0 := n0) (below_n0 hn0 hb11) hS5 (by first | omega | (simp; done) | (simp; omega))) ?_)
    rintro _ w14 ⟨hq4, v6, rfl, hS6⟩
    have k14 := grown_of_below hq4 none
    have hz4 := hq4.size
    have hb12 := below_g0 hb11 k14
    have hz5 := hb12.size
    exact ⟨⟨_, rfl, hS6⟩, k14⟩
  intro w15 k15
  have hb13 := below_g0 hb3 k15
  rintro _ rfl _ rfl _ rfl v7 hS7 _ rfl v8 hS8 _ ⟨v9, rfl, hS9⟩
  refine st0 (s_storeN row31 rfl rfl ((hB2.g0 k5).g0 k15) (by simp only [List.all_cons, List.all_nil, hS9.one, Bool.and_true, Bool.and_self] <;> rfl) rfl rfl ?_)
  intro w16 hB3 k16 hs4
  have hb14 := below_g hb13 k16 (by first | omega | (have h9 := (hb13).size; omega))
  refine r_end (n_then (w_retc1 rfl row31 rfl hB3.range rfl ?_))
  exact ⟨_, rfl, hb14, big_of (by rw [nv_shlL _ _ (by omega)]; exact sg_shl n k) (hS9.ggB k16 ((hB2.g0 k5).g0 k15) (by decide) (by omega))⟩

theorem rbshl_any {w : World} {n0 : Nat} (hn0 : n0 ≤ w.heap.size) {k : Int} {vn : Value} {n : Int} (hn : IsBig 83 n0 w vn n) (hbn : Bd 90000 n)  :
    Calls Try.prog 80 [vn, .int .i64 k].toArray w (Pure w fun v W => IsBig 83 n0 W v (shlN n k)) := by
  obtain ⟨sn, rfl, kn⟩ := hn
  exact rbshl_any0 hn0 kn hbn

set_option maxHeartbeats 1000000 in
theorem rbpow_any {w : World} {n0 : Nat} (hn0 : n0 ≤ w.heap.size) {k : Int} :
    Calls Try.prog 47 [.int .i64 k].toArray w (Pure w fun v W => IsBig 83 n0 W v (shlN 1 k)) := by
  have hb0 := Below.refl w.heap.size w
  refine enter Try.func47 rfl rfl (w_seq (w_region (st (s_alloc zero31 ?_))))
  intro g1 w1 hg1 hB1 k1 hs1
  have hz1 := hb0.size
  have hb1 := below_g0 hb0 k1
  refine r_end (n_then (w_seq (w_region (st (s_call fn20 rfl (rof2_any (n0 := n0) (below_n0 hn0 hb1) (by omega)) ?_)))))
  rintro _ w2 ⟨hq1, v1, rfl, hS1⟩
  have k2 := grown_of_below hq1 none
  have hz2 := hq1.size
  have hb2 := below_g0 hb1 k2
  have hz3 := hb2.size
  refine st (s_move rfl (st (s_call fn80 rfl (rbshl_any (n0 := n0) (below_n0 hn0 hb2) (big_of rfl hS1) (Bd.le (bd_small (by omega)) (show 2 ≤ 90000 by decide))) ?_)))
  rintro _ w3 ⟨hq2, v2, rfl, hS2⟩
  have k3 := grown_of_below hq2 none
  have hz4 := hq2.size
  have hb3 := below_g0 hb2 k3
  have hz5 := hb3.size
  refine st0 (s_storeN row31 rfl rfl ((hB1.g0 k2).g0 k3) (by simp only [List.all_cons, List.all_nil, hS2.one, Bool.and_true, Bool.and_self] <;> rfl) rfl rfl ?_)
  intro w4 hB2 k4 hs2
  have hb4 := below_g hb3 k4 (by first | omega | (have h9 := (hb3).size; omega))
  refine r_end (n_then (w_retc1 rfl row31 rfl hB2.range rfl ?_))
  exact ⟨_, rfl, hb4, big_of (rfl) (hS2.ggB k4 ((hB1.g0 k2).g0 k3) (by decide) (by omega))⟩
end Go.Proofs.Ytfljelnfjbbknaa.Lm
