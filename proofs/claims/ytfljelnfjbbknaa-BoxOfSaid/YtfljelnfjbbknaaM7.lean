/- Part of the proof: a library for walks, plain laws, and functions' walks. -/
import Derived.Test.YtfljelnfjbbknaaM6
import Derived.Test.YtfljelnfjbbknaaM5
set_option maxRecDepth 20000
set_option linter.unusedSimpArgs false
set_option linter.unusedVariables false
namespace Go.Proofs.Ytfljelnfjbbknaa.Lm
open Go.RowKit Go.Gw
set_option maxHeartbeats 1000000 in
theorem sign_any {w : World} {n0 : Nat} (hn0 : n0 ≤ w.heap.size) {ng : Bool} {a : Value} {xs : List Int} (ha : Sl Kd.u32 w (G 83 n0 w) a xs) (hla : xs.length ≤ 100000) :
    Calls Try.prog 53 [.bool ng, a].toArray w (Pure w fun v W => IsBig 83 n0 W v (sg ng (nv xs))) := by
  have hb0 := Below.refl w.heap.size w
  have hln1 := ha.lenle
  refine enter Try.func53 rfl rfl (w_seq (w_region (st (s_alloc zero31 ?_))))
  intro g1 w1 hg1 hB1 k1 hs1
  have hz1 := hb0.size
  have hb1 := below_g0 hb0 k1
  refine r_end (n_then (w_seq (w_region (st (s_move rfl (st (s_call fn84 rfl (rnorm_any (n0 := n0) (below_n0 hn0 hb1) (((ha.at0 hb1)).unlocG hb1) (by first | omega | (simp; done) | (simp; omega))) ?_)))))))
  rintro v1 w2 ⟨hq1, hS1⟩
  have k2 := grown_of_below hq1 none
  have hz2 := hq1.size
  have hb2 := below_g0 hb1 k2
  have hz3 := hb2.size
  refine st (s_assign rfl (r_end (n_then (w_seq (w_region (st (s_move rfl (st (s_move rfl ?_)))))))))
  refine r_case 8 rfl (fun h1 => ?_) (fun h1 => ?_)
  rotate_left
  · refine s_pass rfl rfl (s_pass rfl rfl (s_pass rfl rfl (st (s_pick rfl rfl (st (s_move rfl (st (s_build (ps := [(0, .tmp 12), (1, .tmp 13)]) (ccs := [#[.bool false], #[v1]]) (cells := [.bool false, v1]) rfl (by simp only [List.map_cons, List.map_nil, hS1.cells1] <;> rfl) (by kernel_rfl) (st0 (s_storeN row31 rfl rfl (hB1.g0 k2) (by simp only [List.all_cons, List.all_nil, hS1.one, Bool.and_true, Bool.and_self] <;> rfl) rfl rfl ?_))))))))))
    intro w4 hB3 k4 hs3
    have hb4 := below_g hb2 k4 (by first | omega | (have h9 := (hb2).size; omega))
    refine r_end (n_then (w_retc1 rfl row31 rfl hB3.range rfl ?_))
    have hm := nv_nonneg (lim_sl ha)
    exact ⟨_, rfl, hb4, _, by rw [sg_pos hm h1], by rw [← sg_ml ng hm]; exact (hS1.ggB k4 (hB1.g0 k2) (by decide) (by omega))⟩
  refine stg (s_move rfl (stg (s_len sl29 rfl hS1 (stg (s_gt rfl rfl (st (s_pick rfl rfl (st (s_move rfl (st (s_build (ps := [(0, .tmp 12), (1, .tmp 13)]) (ccs := [#[.bool (decide (0 < ((tl (nv xs)).length : Int)))], #[v1]]) (cells := [.bool (decide (0 < ((tl (nv xs)).length : Int))), v1]) rfl (by simp only [List.map_cons, List.map_nil, hS1.cells1] <;> rfl) (by kernel_rfl) (st0 (s_storeN row31 rfl rfl (hB1.g0 k2) (by simp only [List.all_cons, List.all_nil, hS1.one, Bool.and_true, Bool.and_self] <;> rfl) rfl rfl ?_)))))))))))))
  intro w3 hB2 k3 hs2
  have hb3 := below_g hb2 k3 (by first | omega | (have h9 := (hb2).size; omega))
  refine r_end (n_then (w_retc1 rfl row31 rfl hB2.range rfl ?_))
  have hm := nv_nonneg (lim_sl ha)
  exact ⟨_, rfl, hb3, _, by rw [sg_neg hm h1], by rw [← sg_ml ng hm]; exact (hS1.ggB k3 (hB1.g0 k2) (by decide) (by omega))⟩

set_option maxHeartbeats 1000000 in
theorem rof2_any {w : World} {n0 : Nat} (hn0 : n0 ≤ w.heap.size) {n : Int} (hn : -9223372036854775808 ≤ n ∧ n ≤ 9223372036854775807) :
    Calls Try.prog 20 [.int .i64 n].toArray w (Pure w fun v W => IsBig 83 n0 W v (n)) := by
  have hb0 := Below.refl w.heap.size w
  refine enter Try.func20 rfl rfl (w_seq (w_region (st (s_alloc zero31 ?_))))
  intro g1 w1 hg1 hB1 k1 hs1
  have hz1 := hb0.size
  have hb1 := below_g0 hb0 k1
  refine r_end (n_then (w_seq (w_region (st (s_move rfl (st (s_convm (M := 18446744073709551616) rfl rfl intk3 intk81 rfl (st (s_assign rfl ?_)))))))))
  refine r_end (n_then (w_seq (w_seq (w_region (st (s_move rfl (st (s_lt rfl rfl ?_))))))))
  refine r_end (n_then ?_)
  refine w_condP rfl (fun h1 => ?_) (fun h1 => ?_)
  rotate_left
  · refine w_skip' (n_then (w_seq (w_region (st (s_move rfl (st (s_lt rfl rfl (st (s_move rfl ?_)))))))))
    refine st (s_remk rfl rfl (by omega) (by omega) (st (s_convm (M := 4294967296) rfl rfl intk81 intk83 rfl (st (s_move rfl (st (s_quok (M := 18446744073709551616) rfl rfl rfl rfl (by omega) (by omega) (st (s_convm (M := 4294967296) rfl rfl intk81 intk83 rfl (st (s_bslice (ps := [(0, .tmp 14), (1, .tmp 17)]) (ccs := [#[.int .u32 (((n % 18446744073709551616) % 4294967296) % 4294967296)], #[.int .u32 (((n % 18446744073709551616) / 4294967296) % 4294967296)]]) (e := 83) (cells := [.int .u32 (((n % 18446744073709551616) % 4294967296) % 4294967296), .int .u32 (((n % 18446744073709551616) / 4294967296) % 4294967296)]) rfl rfl (by kernel_rfl) (by decide) nz83 ?_)))))))))))
    intro g3 w5 hg3 hB4 k5 hs4
    have hb5 := below_g0 hb1 k5
    have hz5 := hb5.size
    have hS3 := lit_u32s (F := fun _ => False) ([(((n % 18446744073709551616) % 4294967296) % 4294967296), (((n % 18446744073709551616) / 4294967296) % 4294967296)] : List Int) hB4 (fun h => h) rfl (by first | decide | simp) (by intro x hx; simp at hx; omega)
    refine st (s_call fn53 rfl (sign_any (n0 := n0) (below_n0 hn0 hb5) (Sl.litG hB4 hS3) (by first | omega | (simp; done) | (simp; omega))) ?_)
    rintro _ w6 ⟨hq2, v2, rfl, hS4⟩
    have k6 := grown_of_below hq2 none
    have hz6 := hq2.size
    have hb6 := below_g0 hb5 k6
    have hz7 := hb6.size
    refine st0 (s_storeN row31 rfl rfl ((hB1.g0 k5).g0 k6) (by simp only [List.all_cons, List.all_nil, hS4.one, Bool.and_true, Bool.and_self] <;> rfl) rfl rfl ?_)
    intro w7 hB5 k7 hs5
    have hb7 := below_g hb6 k7 (by first | omega | (have h9 := (hb6).size; omega))
    refine r_end (n_then (w_retc1 rfl row31 rfl hB5.range rfl ?_))
    exact ⟨_, rfl, hb7, big_of (rof_pos hn h1) (hS4.ggB k7 ((hB1.g0 k5).g0 k6) (by decide) (by omega))⟩
  refine w_region (st (s_move rfl (st (s_negk (M := 18446744073709551616) rfl rfl rfl (st (s_assign rfl (r_end (n_then (w_seq ?_)))))))))
  refine w_region (st (s_move rfl (st (s_lt rfl rfl (st (s_move rfl (st (s_remk rfl rfl (by omega) (by omega) (st (s_convm (M := 4294967296) rfl rfl intk81 intk83 rfl (st (s_move rfl ?_))))))))))))
  refine st (s_quok (M := 18446744073709551616) rfl rfl rfl rfl (by omega) (by omega) (st (s_convm (M := 4294967296) rfl rfl intk81 intk83 rfl (st (s_bslice (ps := [(0, .tmp 14), (1, .tmp 17)]) (ccs := [#[.int .u32 ((((-(n % 18446744073709551616)) % 18446744073709551616) % 4294967296) % 4294967296)], #[.int .u32 ((((-(n % 18446744073709551616)) % 18446744073709551616) / 4294967296) % 4294967296)]]) (e := 83) (cells := [.int .u32 ((((-(n % 18446744073709551616)) % 18446744073709551616) % 4294967296) % 4294967296), .int .u32 ((((-(n % 18446744073709551616)) % 18446744073709551616) / 4294967296) % 4294967296)]) rfl rfl (by kernel_rfl) (by decide) nz83 ?_)))))
  intro g2 w2 hg2 hB2 k2 hs2
  have hb2 := below_g0 hb1 k2
  have hz2 := hb2.size
  have hS1 := lit_u32s (F := fun _ => False) ([((((-(n % 18446744073709551616)) % 18446744073709551616) % 4294967296) % 4294967296), ((((-(n % 18446744073709551616)) % 18446744073709551616) / 4294967296) % 4294967296)] : List Int) hB2 (fun h => h) rfl (by first | decide | simp) (by intro x hx; simp at hx; omega)
  refine st (s_call fn53 rfl (sign_any (n0 := n0) (below_n0 hn0 hb2) (Sl.litG hB2 hS1) (by first | omega | (simp; done) | (simp; omega))) ?_)
  rintro _ w3 ⟨hq1, v1, rfl, hS2⟩
  have k3 := grown_of_below hq1 none
  have hz3 := hq1.size
  have hb3 := below_g0 hb2 k3
  have hz4 := hb3.size
  refine st0 (s_storeN row31 rfl rfl ((hB1.g0 k2).g0 k3) (by simp only [List.all_cons, List.all_nil, hS2.one, Bool.and_true, Bool.and_self] <;> rfl) rfl rfl ?_)
  intro w4 hB3 k4 hs3
  have hb4 := below_g hb3 k4 (by first | omega | (have h9 := (hb3).size; omega))
  refine r_end (n_then (w_retc1 rfl row31 rfl hB3.range rfl ?_))
  exact ⟨_, rfl, hb4, big_of (rof_neg hn h1) (hS2.ggB k4 ((hB1.g0 k2).g0 k3) (by decide) (by omega))⟩

set_option maxHeartbeats 1000000 in
theorem rminus_any0 {w : World} {n0 : Nat} (hn0 : n0 ≤ w.heap.size)  {a : Value} {n : Int} (ha : Sl Kd.u32 w (G 83 n0 w) a (ml n)) (hbn : Bd 90000 n)  :
    Calls Try.prog 48 [.agg [.bool (decide (n < 0)), a].toArray].toArray w (Pure w fun v W => IsBig 83 n0 W v (-n)) := by
  have hb0 := Below.refl w.heap.size w
  have hln := bd_len hbn
  have hnn := nv_ml n
  refine enter Try.func48 rfl rfl (w_seq (w_region (st (s_box rfl ?_))))
  intro g1 w1 hg1 hB1 k1 hs1
  change Blk w1 g1 31 [.bool (decide (n < 0)), a].toArray at hB1
  have hb1 := below_g0 hb0 k1
  have hlt_1 := (hB1).lt
  refine st (s_alloc zero31 ?_)
  intro g2 w2 hg2 hB2 k2 hs2
  have hz1 := hb1.size
  have hb2 := below_g0 hb1 k2
  refine r_end (n_then (w_seq (w_region (st (s_faddr fld31_0 rfl (st (s_load one4 rfl (hB1.g0 k2).range (j := 0) rfl (st (s_notP rfl ?_)))))))))
  refine st (s_faddr fld31_1 rfl (st (s_load one29 rfl (hB1.g0 k2).range (j := 1) rfl (st (s_call fn53 rfl (sign_any (n0 := n0) (below_n0 hn0 hb2) (((ha.at0 hb2)).unlocG hb2) (by first | omega | (simp; done) | (simp; omega))) ?_)))))
  rintro _ w3 ⟨hq1, v1, rfl, hS1⟩
  have k3 := grown_of_below hq1 none
  have hz2 := hq1.size
  have hb3 := below_g0 hb2 k3
  have hz3 := hb3.size
  refine st0 (s_storeN row31 rfl rfl (hB2.g0 k3) (by simp only [List.all_cons, List.all_nil, hS1.one, Bool.and_true, Bool.and_self] <;> rfl) rfl rfl ?_)
  intro w4 hB3 k4 hs3
  have hb4 := below_g hb3 k4 (by first | omega | (have h9 := (hb3).size; omega))
  refine r_end (n_then (w_retc1 rfl row31 rfl hB3.range rfl ?_))
  exact ⟨_, rfl, hb4, big_of (by rw [nv_ml]; exact sg_minv n) (hS1.ggB k4 (hB2.g0 k3) (by decide) (by omega))⟩

theorem rminus_any {w : World} {n0 : Nat} (hn0 : n0 ≤ w.heap.size)  {vn : Value} {n : Int} (hn : IsBig 83 n0 w vn n) (hbn : Bd 90000 n)  :
    Calls Try.prog 48 [vn].toArray w (Pure w fun v W => IsBig 83 n0 W v (-n)) := by
  obtain ⟨sn, rfl, kn⟩ := hn
  exact rminus_any0 hn0 kn hbn

set_option maxHeartbeats 1000000 in
theorem rbadd_any0 {w : World} {n0 : Nat} (hn0 : n0 ≤ w.heap.size)  {a : Value} {n : Int} {b : Value} {m : Int} (ha : Sl Kd.u32 w (G 83 n0 w) a (ml n)) (hb : Sl Kd.u32 w (G 83 n0 w) b (ml m)) (hbn : Bd 90000 n) (hbm : Bd 90000 m)  :
    Calls Try.prog 22 [.agg [.bool (decide (n < 0)), a].toArray, .agg [.bool (decide (m < 0)), b].toArray].toArray w (Pure w fun v W => IsBig 83 n0 W v (n + m)) := by
  have hb0 := Below.refl w.heap.size w
  have hal : (tl (nv (ml n) + nv (ml m))).length ≤ 90001 := by rw [nv_ml, nv_ml]; exact tl_len (by omega) (by have h1 := (bd_add (i := 90001) hbn hbm (by decide) (by decide)); have h2 := (bd_sub (i := 90001) hbn hbm (by decide) (by decide)); unfold Bd at *; omega)
  have hsl : (tl (nv (ml n) - nv (ml m))).length ≤ 90001 := by rw [nv_ml, nv_ml]; by_cases h0 : ((n.natAbs : Nat) : Int) - m.natAbs ≤ 0; (rw [tl_zero h0]; exact Nat.zero_le _); exact tl_len (by omega) (by have h1 := (bd_add (i := 90001) hbn hbm (by decide) (by decide)); have h2 := (bd_sub (i := 90001) hbn hbm (by decide) (by decide)); unfold Bd at *; omega)
  have hsl2 : (tl (nv (ml m) - nv (ml n))).length ≤ 90001 := by rw [nv_ml, nv_ml]; by_cases h0 : ((m.natAbs : Nat) : Int) - n.natAbs ≤ 0; (rw [tl_zero h0]; exact Nat.zero_le _); exact tl_len (by omega) (by have h1 := (bd_add (i := 90001) hbn hbm (by decide) (by decide)); have h2 := (bd_sub (i := 90001) hbn hbm (by decide) (by decide)); unfold Bd at *; omega)
  have hln := bd_len hbn
  have hlm := bd_len hbm
  have hnn := nv_ml n
  have hnm := nv_ml m
  refine enter Try.func22 rfl rfl (w_seq (w_region (st (s_box rfl ?_))))
  intro g1 w1 hg1 hB1 k1 hs1
  change Blk w1 g1 31 [.bool (decide (n < 0)), a].toArray at hB1
  have hb1 := below_g0 hb0 k1
  refine st (s_box rfl ?_)
  intro g2 w2 hg2 hB2 k2 hs2
  change Blk w2 g2 31 [.bool (decide (m < 0)), b].toArray at hB2
  have hb2 := below_g0 hb1 k2
  have hlt_1 := ((hB1.g0 k2)).lt
  have hlt_2 := (hB2).lt
  refine st (s_alloc zero31 ?_)
  intro g3 w3 hg3 hB3 k3 hs3
  have hz1 := hb2.size
  have hb3 := below_g0 hb2 k3
  refine r_end (n_then (w_seq (w_seq (w_region (st (s_faddr fld31_0 rfl (st (s_load one4 rfl ((hB1.g0 k2).g0 k3).range (j := 0) rfl ?_))))))))
  refine st (s_faddr fld31_0 rfl (st (s_load one4 rfl (hB2.g0 k3).range (j := 0) rfl (st (s_eqbool bool4 rfl rfl (r_end (n_then ?_)))))))
  refine w_cond rfl (fun h1 => ?_) (fun h1 => ?_)
  · refine w_seq ?_
    refine w_draw 8 (fun a b => a.grownBy b none) [(some 12, Is <| .pointer (some ⟨g1, 0 + 0, none⟩)), (some 13, Is <| .bool (decide (n < 0))), (some 14, Is <| .pointer (some ⟨g1, 0 + 1, none⟩)), (some 15, fun v _ => Sl Kd.u32 w (G 83 n0 w) v (ml n)), (some 16, Is <| .pointer (some ⟨g2, 0 + 1, none⟩)), (some 17, fun v _ => Sl Kd.u32 w (G 83 n0 w) v (ml m)), (some 18, fun v W => Sl Kd.u32 W (G 83 n0 W) v (tl (nv (ml n) + nv (ml m)))), (some 19, fun v W => IsBig 83 n0 W v (sg (decide (n < 0)) (nv (tl (nv (ml n) + nv (ml m))))))] [[], [0], [], [2], [], [4], [3, 5], [1, 6]] [(2, .pointer (some ⟨g1, 0, none⟩)), (3, .pointer (some ⟨g2, 0, none⟩)), (4, .pointer (some ⟨g3, 0, none⟩))] (by exact ⟨rfl, rfl, rfl, trivial⟩) (by kernel_rfl) (by kernel_rfl) grown_none_refl (fun _ _ _ => grown_none_trans) ⟨kv, kv, kv, fun _ _ _ h _ => h, kv, fun _ _ _ h _ => h, fun _ _ _ h k => h.gg0 k, fun _ _ _ h k => h.g0 k, trivial⟩ ?_
    intro w6 k6 hs4
    have hb4 := below_g0 hb3 k6
    refine ⟨⟨?_, ?_, ?_, ?_, ?_, ?_, ?_, ?_, trivial⟩, ?_⟩
    · intro w7 k7
      refine op1 (s_faddr fld31_0 rfl ?_)
      exact ⟨rfl, grown_none_refl _⟩
    · intro w8 k8
      rintro _ rfl
      refine op1 (s_load one4 rfl ((((hB1.g0 k2).g0 k3).g0 k6).g0 k8).range (j := 0) rfl ?_)
      exact ⟨rfl, grown_none_refl _⟩
    · intro w9 k9
      refine op1 (s_faddr fld31_1 rfl ?_)
      exact ⟨rfl, grown_none_refl _⟩
    · intro w10 k10
      rintro _ rfl
      refine op1 (s_load one29 rfl ((((hB1.g0 k2).g0 k3).g0 k6).g0 k10).range (j := 1) rfl ?_)
      exact ⟨ha, grown_none_refl _⟩
    · intro w11 k11
      refine op1 (s_faddr fld31_1 rfl ?_)
      exact ⟨rfl, grown_none_refl _⟩
    · intro w12 k12
      rintro _ rfl
      refine op1 (s_load one29 rfl (((hB2.g0 k3).g0 k6).g0 k12).range (j := 1) rfl ?_)
      exact ⟨hb, grown_none_refl _⟩
    · intro w13 k13
      have hb11 := below_g0 hb4 k13
      rintro v3 hS3 v4 hS4
      refine op1 (s_call fn54 rfl (radd_any (n0 := n0) (below_n0 hn0 hb11) (((hS3.at0 hb11)).unlocG hb11) (((hS4.at0 hb11)).unlocG hb11) (by first | omega | (simp; done) | (simp; omega)) (by first | omega | (simp; done) | (simp; omega))) ?_)
      rintro v5 w14 ⟨hq3, hS5⟩
      have k14 := grown_of_below hq3 none
      have hz2 := hq3.size
      have hb12 := below_g0 hb11 k14
      have hz3 := hb12.size
      exact ⟨hS5, k14⟩
    · intro w15 k15
      have hb13 := below_g0 hb4 k15
      rintro _ rfl v6 hS6
      refine op1 (s_call fn53 rfl (sign_any (n0 := n0) (below_n0 hn0 hb13) hS6 (by first | omega | (simp; done) | (simp; omega))) ?_)
      rintro _ w16 ⟨hq4, v7, rfl, hS7⟩
      have k16 := grown_of_below hq4 none
      have hz4 := hq4.size
      have hb14 := below_g0 hb13 k16
      have hz5 := hb14.size
      exact ⟨⟨_, rfl, hS7⟩, k16⟩
    intro w17 k17
    have hb15 := below_g0 hb4 k17
    rintro _ rfl _ rfl _ rfl v8 hS8 _ rfl v9 hS9 v10 hS10 _ ⟨v11, rfl, hS11⟩
    refine st0 (s_storeN row31 rfl rfl ((hB3.g0 k6).g0 k17) (by simp only [List.all_cons, List.all_nil, hS11.one, Bool.and_true, Bool.and_self] <;> rfl) rfl rfl ?_)
    intro w18 hB4 k18 hs5
    have hb16 := below_g hb15 k18 (by first | omega | (have h9 := (hb15).size; omega))
    refine r_end (n_then (w_retc1 rfl row31 rfl hB4.range rfl ?_))
    have he : sg (decide (n < 0)) (nv (tl (nv (ml n) + nv (ml m)))) = n + m := (by rw [nv_tl (by omega)]; exact sg_add (eq_of_beq h1))
    exact ⟨_, rfl, hb16, big_of he (hS11.ggB k18 ((hB3.g0 k6).g0 k17) (by decide) (by omega))⟩
  refine w_skip' (n_then (w_seq (w_region (st (s_faddr fld31_1 rfl (st (s_load one29 rfl ((hB1.g0 k2).g0 k3).range (j := 1) rfl (st (s_faddr fld31_1 rfl ?_)))))))))
  refine st (s_load one29 rfl (hB2.g0 k3).range (j := 1) rfl (st (s_call fn55 rfl (rsub_any (n0 := n0) (below_n0 hn0 hb3) (((ha.at0 hb3)).unlocG hb3) (((hb.at0 hb3)).unlocG hb3) (by first | omega | (simp; done) | (simp; omega)) (by first | omega | (simp; done) | (simp; omega))) ?_)))
  rintro _ w19 ⟨hq5, v12, rfl, hS12⟩
  have k19 := grown_of_below hq5 none
  have hz6 := hq5.size
  have hb17 := below_g0 hb3 k19
  have hz7 := hb17.size
  refine st (s_move rfl (st (s_extract rfl rfl (st (s_extract rfl rfl (st (s_assign rfl (st (s_assign rfl (r_end (n_then ?_)))))))))))
  refine w_seq (w_seq (w_region (st (s_move rfl (r_end (n_then ?_))))))
  refine w_cond rfl (fun h2 => ?_) (fun h2 => ?_)
  · refine w_seq (w_region (st (s_faddr fld31_0 rfl (st (s_load one4 rfl (((hB1.g0 k2).g0 k3).g0 k19).range (j := 0) rfl (st (s_move rfl (st (s_call fn53 rfl (sign_any (n0 := n0) (below_n0 hn0 hb17) hS12 (by first | omega | (simp; done) | (simp; omega))) ?_)))))))))
    rintro _ w20 ⟨hq6, v13, rfl, hS13⟩
    have k20 := grown_of_below hq6 none
    have hz8 := hq6.size
    have hb18 := below_g0 hb17 k20
    have hz9 := hb18.size
    refine st0 (s_storeN row31 rfl rfl ((hB3.g0 k19).g0 k20) (by simp only [List.all_cons, List.all_nil, hS13.one, Bool.and_true, Bool.and_self] <;> rfl) rfl rfl ?_)
    intro w21 hB5 k21 hs6
    have hb19 := below_g hb18 k21 (by first | omega | (have h9 := (hb18).size; omega))
    refine r_end (n_then (w_retc1 rfl row31 rfl hB5.range rfl ?_))
    have he : sg (decide (n < 0)) (nv (tl (nv (ml n) - nv (ml m)))) = n + m := (by have hle : nv (ml m) ≤ nv (ml n) := (by simpa using h2); rw [nv_tl (by omega)]; exact sg_sub (fun e => by rw [e, beq_self_eq_true] at h1; cases h1) hle)
    exact ⟨_, rfl, hb19, big_of he (hS13.ggB k21 ((hB3.g0 k19).g0 k20) (by decide) (by omega))⟩
  refine w_skip' (n_then (w_seq (w_region (st (s_faddr fld31_1 rfl (st (s_load one29 rfl ((hB2.g0 k3).g0 k19).range (j := 1) rfl (st (s_faddr fld31_1 rfl ?_)))))))))
  refine st (s_load one29 rfl (((hB1.g0 k2).g0 k3).g0 k19).range (j := 1) rfl (st (s_call fn55 rfl (rsub_any (n0 := n0) (below_n0 hn0 hb17) (((hb.at0 hb17)).unlocG hb17) (((ha.at0 hb17)).unlocG hb17) (by first | omega | (simp; done) | (simp; omega)) (by first | omega | (simp; done) | (simp; omega))) ?_)))
  rintro _ w22 ⟨hq7, v14, rfl, hS14⟩
  have k22 := grown_of_below hq7 none
  have hz10 := hq7.size
  have hb20 := below_g0 hb17 k22
  have hz11 := hb20.size
  refine st (s_move rfl (st (s_extract rfl rfl (st (s_extract rfl rfl (st (s_assign rfl (r_end (n_then (w_seq ?_))))))))))
  refine w_region (st (s_faddr fld31_0 rfl (st (s_load one4 rfl (((hB2.g0 k3).g0 k19).g0 k22).range (j := 0) rfl (st (s_move rfl (st (s_call fn53 rfl (sign_any (n0 := n0) (below_n0 hn0 hb20) hS14 (by first | omega | (simp; done) | (simp; omega))) ?_))))))))
  rintro _ w23 ⟨hq8, v15, rfl, hS15⟩
  have k23 := grown_of_below hq8 none
  have hz12 := hq8.size
  have hb21 := below_g0 hb20 k23
  have hz13 := hb21.size
  refine st0 (s_storeN row31 rfl rfl (((hB3.g0 k19).g0 k22).g0 k23) (by simp only [List.all_cons, List.all_nil, hS15.one, Bool.and_true, Bool.and_self] <;> rfl) rfl rfl ?_)
  intro w24 hB6 k24 hs7
  have hb22 := below_g hb21 k24 (by first | omega | (have h9 := (hb21).size; omega))
  refine r_end (n_then (w_retc1 rfl row31 rfl hB6.range rfl ?_))
  have he : sg (decide (m < 0)) (nv (tl (nv (ml m) - nv (ml n)))) = n + m := (by have hle : ¬ nv (ml m) ≤ nv (ml n) := (by simpa using h2); rw [nv_tl (by omega)]; exact (sg_sub (fun e => by rw [e, beq_self_eq_true] at h1; cases h1) (by omega)).trans (Int.add_comm m n))
  exact ⟨_, rfl, hb22, big_of he (hS15.ggB k24 (((hB3.g0 k19).g0 k22).g0 k23) (by decide) (by omega))⟩

theorem rbadd_any {w : World} {n0 : Nat} (hn0 : n0 ≤ w.heap.size)  {vn : Value} {n : Int} {vm : Value} {m : Int} (hn : IsBig 83 n0 w vn n) (hm : IsBig 83 n0 w vm m) (hbn : Bd 90000 n) (hbm : Bd 90000 m)  :
    Calls Try.prog 22 [vn, vm].toArray w (Pure w fun v W => IsBig 83 n0 W v (n + m)) := by
  obtain ⟨sn, rfl, kn⟩ := hn
  obtain ⟨sm, rfl, km⟩ := hm
  exact rbadd_any0 hn0 kn km hbn hbm

set_option maxHeartbeats 1000000 in
theorem rbsub_any0 {w : World} {n0 : Nat} (hn0 : n0 ≤ w.heap.size)  {a : Value} {n : Int} {b : Value} {m : Int} (ha : Sl Kd.u32 w (G 83 n0 w) a (ml n)) (hb : Sl Kd.u32 w (G 83 n0 w) b (ml m)) (hbn : Bd 90000 n) (hbm : Bd 90000 m)  :
    Calls Try.prog 21 [.agg [.bool (decide (n < 0)), a].toArray, .agg [.bool (decide (m < 0)), b].toArray].toArray w (Pure w fun v W => IsBig 83 n0 W v (n - m)) := by
  have hb0 := Below.refl w.heap.size w
  have hln := bd_len hbn
  have hlm := bd_len hbm
  have hnn := nv_ml n
  have hnm := nv_ml m
  refine enter Try.func21 rfl rfl (w_seq (w_region (st (s_box rfl ?_))))
  intro g1 w1 hg1 hB1 k1 hs1
  change Blk w1 g1 31 [.bool (decide (n < 0)), a].toArray at hB1
  have hb1 := below_g0 hb0 k1
  refine st (s_box rfl ?_)
  intro g2 w2 hg2 hB2 k2 hs2
  change Blk w2 g2 31 [.bool (decide (m < 0)), b].toArray at hB2
  have hb2 := below_g0 hb1 k2
  have hlt_1 := ((hB1.g0 k2)).lt
  have hlt_2 := (hB2).lt
  refine st (s_alloc zero31 ?_)
  intro g3 w3 hg3 hB3 k3 hs3
  have hz1 := hb2.size
  have hb3 := below_g0 hb2 k3
  refine r_end (n_then (w_seq (w_draw 4 (fun a b => a.grownBy b none) [(some 5, Is <| .agg [.bool (decide (n < 0)), a].toArray), (some 6, Is <| .agg [.bool (decide (m < 0)), b].toArray), (some 7, fun v W => IsBig 83 n0 W v ((-m))), (some 8, fun v W => IsBig 83 n0 W v ((n + (-m))))] [[], [], [1], [0, 2]] [(2, .pointer (some ⟨g1, 0, none⟩)), (3, .pointer (some ⟨g2, 0, none⟩)), (4, .pointer (some ⟨g3, 0, none⟩))] (by exact ⟨rfl, rfl, rfl, trivial⟩) (by kernel_rfl) (by kernel_rfl) grown_none_refl (fun _ _ _ => grown_none_trans) ⟨kv, kv, fun _ _ _ h k => h.g0 k, fun _ _ _ h k => h.g0 k, trivial⟩ ?_)))
  intro w6 k6 hs4
  have hb4 := below_g0 hb3 k6
  refine ⟨⟨?_, ?_, ?_, ?_, trivial⟩, ?_⟩
  · intro w7 k7
    refine op1 (s_loadW row31 rfl ((((hB1.g0 k2).g0 k3).g0 k6).g0 k7).range rfl ?_)
    exact ⟨rfl, grown_none_refl _⟩
  · intro w8 k8
    refine op1 (s_loadW row31 rfl (((hB2.g0 k3).g0 k6).g0 k8).range rfl ?_)
    exact ⟨rfl, grown_none_refl _⟩
  · intro w9 k9
    have hb7 := below_g0 hb4 k9
    rintro _ rfl
    refine op1 (s_call fn48 rfl (rminus_any (n0 := n0) (below_n0 hn0 hb7) (big_of rfl (((hb.at0 hb7)).unlocG hb7)) (Bd.le hbm (show 90000 ≤ 90000 by decide))) ?_)
    rintro _ w10 ⟨hq3, v3, rfl, hS3⟩
    have k10 := grown_of_below hq3 none
    have hz2 := hq3.size
    have hb8 := below_g0 hb7 k10
    have hz3 := hb8.size
    exact ⟨⟨_, rfl, hS3⟩, k10⟩
  · intro w11 k11
    have hb9 := below_g0 hb4 k11
    rintro _ rfl _ ⟨v4, rfl, hS4⟩
    refine op1 (s_call fn22 rfl (rbadd_any (n0 := n0) (below_n0 hn0 hb9) (big_of rfl (((ha.at0 hb9)).unlocG hb9)) (big_of rfl hS4) (Bd.le hbn (show 90000 ≤ 90000 by decide)) (Bd.le (bd_neg hbm) (show 90000 ≤ 90000 by decide))) ?_)
    rintro _ w12 ⟨hq4, v5, rfl, hS5⟩
    have k12 := grown_of_below hq4 none
    have hz4 := hq4.size
    have hb10 := below_g0 hb9 k12
    have hz5 := hb10.size
    exact ⟨⟨_, rfl, hS5⟩, k12⟩
  intro w13 k13
  have hb11 := below_g0 hb4 k13
  rintro _ rfl _ rfl _ ⟨v6, rfl, hS6⟩ _ ⟨v7, rfl, hS7⟩
  refine st0 (s_storeN row31 rfl rfl ((hB3.g0 k6).g0 k13) (by simp only [List.all_cons, List.all_nil, hS7.one, Bool.and_true, Bool.and_self] <;> rfl) rfl rfl ?_)
  intro w14 hB4 k14 hs5
  have hb12 := below_g hb11 k14 (by first | omega | (have h9 := (hb11).size; omega))
  refine r_end (n_then (w_retc1 rfl row31 rfl hB4.range rfl ?_))
  exact ⟨_, rfl, hb12, big_of (by omega) (hS7.ggB k14 ((hB3.g0 k6).g0 k13) (by decide) (by omega))⟩

theorem rbsub_any {w : World} {n0 : Nat} (hn0 : n0 ≤ w.heap.size)  {vn : Value} {n : Int} {vm : Value} {m : Int} (hn : IsBig 83 n0 w vn n) (hm : IsBig 83 n0 w vm m) (hbn : Bd 90000 n) (hbm : Bd 90000 m)  :
    Calls Try.prog 21 [vn, vm].toArray w (Pure w fun v W => IsBig 83 n0 W v (n - m)) := by
  obtain ⟨sn, rfl, kn⟩ := hn
  obtain ⟨sm, rfl, km⟩ := hm
  exact rbsub_any0 hn0 kn km hbn hbm

set_option maxHeartbeats 1000000 in
theorem rbcmp_any0 {w : World} {n0 : Nat} (hn0 : n0 ≤ w.heap.size)  {a : Value} {n : Int} {b : Value} {m : Int} (ha : Sl Kd.u32 w (G 83 n0 w) a (ml n)) (hb : Sl Kd.u32 w (G 83 n0 w) b (ml m)) (hbn : Bd 90000 n) (hbm : Bd 90000 m)  :
    Calls Try.prog 23 [.agg [.bool (decide (n < 0)), a].toArray, .agg [.bool (decide (m < 0)), b].toArray].toArray w (Pure w fun v _ => v = .int .i64 (cmpI n m)) := by
  have hb0 := Below.refl w.heap.size w
  have hln := bd_len hbn
  have hlm := bd_len hbm
  have hnn := nv_ml n
  have hnm := nv_ml m
  refine enter Try.func23 rfl rfl (w_seq (w_region (st (s_box rfl ?_))))
  intro g1 w1 hg1 hB1 k1 hs1
  change Blk w1 g1 31 [.bool (decide (n < 0)), a].toArray at hB1
  have hb1 := below_g0 hb0 k1
  refine st (s_box rfl ?_)
  intro g2 w2 hg2 hB2 k2 hs2
  change Blk w2 g2 31 [.bool (decide (m < 0)), b].toArray at hB2
  have hb2 := below_g0 hb1 k2
  refine st (s_assign rfl (r_end (n_then (w_seq (w_region (st (s_loadW row31 rfl (hB1.g0 k2).range rfl (st (s_loadW row31 rfl hB2.range rfl ?_)))))))))
  refine st (s_call fn21 rfl (rbsub_any (n0 := n0) (below_n0 hn0 hb2) (big_of rfl (((ha.at0 hb2)).unlocG hb2)) (big_of rfl (((hb.at0 hb2)).unlocG hb2)) (Bd.le hbn (show 90000 ≤ 90000 by decide)) (Bd.le hbm (show 90000 ≤ 90000 by decide))) ?_)
  rintro _ w3 ⟨hq1, v1, rfl, hS1⟩
  have k3 := grown_of_below hq1 none
  have hz1 := hq1.size
  have hb3 := below_g0 hb2 k3
  have hz2 := hb3.size
  have hlt_1 := (((hB1.g0 k2).g0 k3)).lt
  have hlt_2 := ((hB2.g0 k3)).lt
  refine st (s_alloc zero31 ?_)
  intro g3 w4 hg3 hB3 k4 hs3
  have hz3 := hb3.size
  have hb4 := below_g0 hb3 k4
  refine st0 (s_storeN row31 rfl rfl hB3 (by simp only [List.all_cons, List.all_nil, hS1.one, Bool.and_true, Bool.and_self] <;> rfl) rfl rfl ?_)
  intro w5 hB4 k5 hs4
  have hb5 := below_g hb4 k5 (by first | omega | (have h9 := (hb4).size; omega))
  refine r_end (n_then (w_seq (w_block (w_seq (w_region (st (s_faddr fld31_1 rfl ?_)))))))
  refine st (s_load one29 rfl hB4.range (j := 1) rfl (st (s_len sl29 rfl ((hS1.gg0 k4).ggB k5 hB3 (by decide) (by omega)) (st (s_eq rfl rfl (st (s_assign rfl (r_end (n_then ?_)))))))))
  refine w_condP rfl (fun h1 => ?_) (fun h1 => ?_)
  · refine w_seq (w_region (st (s_assign rfl (r_end (n_then (w_ret1 rfl rfl ?_))))))
    exact ⟨_, rfl, hb5, congrArg (Value.int .i64) (rcmp_big.2.2 (ml_nil.1 h1)).symm⟩
  refine w_seq (w_region (st (s_faddr fld31_0 rfl (st (s_load one4 rfl hB4.range (j := 0) rfl (st (s_assign rfl (r_end (n_then ?_)))))))))
  refine w_condP rfl (fun h2 => ?_) (fun h2 => ?_)
  · refine w_seq (w_region (st (s_assign rfl (r_end (n_then (w_ret1 rfl rfl ?_))))))
    exact ⟨_, rfl, hb5, congrArg (Value.int .i64) (rcmp_big.2.1 h2).symm⟩
  refine w_skip' (n_block (n_then (w_seq (w_region (st (s_assign rfl (r_end ?_)))))))
  refine n_then (w_ret1 rfl rfl ?_)
  exact ⟨_, rfl, hb5, congrArg (Value.int .i64) (rcmp_big.1 (by have h9 : n - m ≠ 0 := fun e => h1 (ml_nil.2 e); omega)).symm⟩

theorem rbcmp_any {w : World} {n0 : Nat} (hn0 : n0 ≤ w.heap.size)  {vn : Value} {n : Int} {vm : Value} {m : Int} (hn : IsBig 83 n0 w vn n) (hm : IsBig 83 n0 w vm m) (hbn : Bd 90000 n) (hbm : Bd 90000 m)  :
    Calls Try.prog 23 [vn, vm].toArray w (Pure w fun v _ => v = .int .i64 (cmpI n m)) := by
  obtain ⟨sn, rfl, kn⟩ := hn
  obtain ⟨sm, rfl, km⟩ := hm
  exact rbcmp_any0 hn0 kn km hbn hbm

set_option maxHeartbeats 1000000 in
theorem rbshl_any0 {w : World} {n0 : Nat} (hn0 : n0 ≤ w.heap.size) {k : Int} {a : Value} {n : Int} (ha : Sl Kd.u32 w (G 83 n0 w) a (ml n)) (hbn : Bd 90000 n)  :
    Calls Try.prog 80 [.agg [.bool (decide (n < 0)), a].toArray, .int .i64 k].toArray w (Pure w fun v W => IsBig 83 n0 W v (shlN n k)) := by
  have hb0 := Below.refl w.heap.size w
  have hsl := shlL_len (k := k) hbn
  have hln := bd_len hbn
  have hnn := nv_ml n
  refine enter Try.func80 rfl rfl (w_seq (w_region (st (s_box rfl ?_))))
  intro g1 w1 hg1 hB1 k1 hs1
  change Blk w1 g1 31 [.bool (decide (n < 0)), a].toArray at hB1
  have hb1 := below_g0 hb0 k1
  have hlt_1 := (hB1).lt
  refine st (s_alloc zero31 ?_)
  intro g2 w2 hg2 hB2 k2 hs2
  have hz1 := hb1.size
  have hb2 := below_g0 hb1 k2
  refine r_end (n_then (w_seq ?_))
  refine w_draw 7 (fun a b => a.grownBy b none) [(some 5, Is <| .pointer (some ⟨g1, 0 + 0, none⟩)), (some 6, Is <| .bool (decide (n < 0))), (some 7, Is <| .pointer (some ⟨g1, 0 + 1, none⟩)), (some 8, fun v _ => Sl Kd.u32 w (G 83 n0 w) v (ml n)), (some 9, Is <| .int .i64 k), (some 10, fun v W => Sl Kd.u32 W (G 83 n0 W) v (shlL (ml n) k)), (some 11, fun v W => IsBig 83 n0 W v (sg (decide (n < 0)) (nv (shlL (ml n) k))))] [[], [0], [], [2], [], [3, 4], [1, 5]] [(1, .int .i64 k), (2, .pointer (some ⟨g1, 0, none⟩)), (4, .pointer (some ⟨g2, 0, none⟩))] (by exact ⟨rfl, rfl, rfl, trivial⟩) (by kernel_rfl) (by kernel_rfl) grown_none_refl (fun _ _ _ => grown_none_trans) ⟨kv, kv, kv, fun _ _ _ h _ => h, kv, fun _ _ _ h k => h.gg0 k, fun _ _ _ h k => h.g0 k, trivial⟩ ?_
  intro w5 k5 hs3
  have hb3 := below_g0 hb2 k5
  refine ⟨⟨?_, ?_, ?_, ?_, ?_, ?_, ?_, trivial⟩, ?_⟩
  · intro w6 k6
    refine op1 (s_faddr fld31_0 rfl ?_)
    exact ⟨rfl, grown_none_refl _⟩
  · intro w7 k7
    rintro _ rfl
    refine op1 (s_load one4 rfl (((hB1.g0 k2).g0 k5).g0 k7).range (j := 0) rfl ?_)
    exact ⟨rfl, grown_none_refl _⟩
  · intro w8 k8
    refine op1 (s_faddr fld31_1 rfl ?_)
    exact ⟨rfl, grown_none_refl _⟩
  · intro w9 k9
    rintro _ rfl
    refine op1 (s_load one29 rfl (((hB1.g0 k2).g0 k5).g0 k9).range (j := 1) rfl ?_)
    exact ⟨ha, grown_none_refl _⟩
  · intro w10 k10
    refine op1 (s_move rfl ?_)
    exact ⟨rfl, grown_none_refl _⟩
  · intro w11 k11
    have hb9 := below_g0 hb3 k11
    rintro v3 hS3 _ rfl
    refine op1 (s_call fn102 rfl (rshl_any (n0 := n0) (below_n0 hn0 hb9) (((hS3.at0 hb9)).unlocG hb9) (by first | omega | (simp; done) | (simp; omega))) ?_)
    rintro v4 w12 ⟨hq3, hS4⟩
    have k12 := grown_of_below hq3 none
    have hz2 := hq3.size
    have hb10 := below_g0 hb9 k12
    have hz3 := hb10.size
    exact ⟨hS4, k12⟩
  · intro w13 k13
    have hb11 := below_g0 hb3 k13
    rintro _ rfl v5 hS5
    refine op1 (s_call fn53 rfl (sign_any (n0 := n0) (below_n0 hn0 hb11) hS5 (by first | omega | (simp; done) | (simp; omega))) ?_)
    rintro _ w14 ⟨hq4, v6, rfl, hS6⟩
    have k14 := grown_of_below hq4 none
    have hz4 := hq4.size
    have hb12 := below_g0 hb11 k14
    have hz5 := hb12.size
    exact ⟨⟨_, rfl, hS6⟩, k14⟩
  intro w15 k15
  have hb13 := below_g0 hb3 k15
  rintro _ rfl _ rfl _ rfl v7 hS7 _ rfl v8 hS8 _ ⟨v9, rfl, hS9⟩
  refine st0 (s_storeN row31 rfl rfl ((hB2.g0 k5).g0 k15) (by simp only [List.all_cons, List.all_nil, hS9.one, Bool.and_true, Bool.and_self] <;> rfl) rfl rfl ?_)
  intro w16 hB3 k16 hs4
  have hb14 := below_g hb13 k16 (by first | omega | (have h9 := (hb13).size; omega))
  refine r_end (n_then (w_retc1 rfl row31 rfl hB3.range rfl ?_))
  exact ⟨_, rfl, hb14, big_of (by rw [nv_shlL _ _ (by omega)]; exact sg_shl n k) (hS9.ggB k16 ((hB2.g0 k5).g0 k15) (by decide) (by omega))⟩

theorem rbshl_any {w : World} {n0 : Nat} (hn0 : n0 ≤ w.heap.size) {k : Int} {vn : Value} {n : Int} (hn : IsBig 83 n0 w vn n) (hbn : Bd 90000 n)  :
    Calls Try.prog 80 [vn, .int .i64 k].toArray w (Pure w fun v W => IsBig 83 n0 W v (shlN n k)) := by
  obtain ⟨sn, rfl, kn⟩ := hn
  exact rbshl_any0 hn0 kn hbn

set_option maxHeartbeats 1000000 in
theorem rbpow_any {w : World} {n0 : Nat} (hn0 : n0 ≤ w.heap.size) {k : Int} :
    Calls Try.prog 47 [.int .i64 k].toArray w (Pure w fun v W => IsBig 83 n0 W v (shlN 1 k)) := by
  have hb0 := Below.refl w.heap.size w
  refine enter Try.func47 rfl rfl (w_seq (w_region (st (s_alloc zero31 ?_))))
  intro g1 w1 hg1 hB1 k1 hs1
  have hz1 := hb0.size
  have hb1 := below_g0 hb0 k1
  refine r_end (n_then (w_seq (w_region (st (s_call fn20 rfl (rof2_any (n0 := n0) (below_n0 hn0 hb1) (by omega)) ?_)))))
  rintro _ w2 ⟨hq1, v1, rfl, hS1⟩
  have k2 := grown_of_below hq1 none
  have hz2 := hq1.size
  have hb2 := below_g0 hb1 k2
  have hz3 := hb2.size
  refine st (s_move rfl (st (s_call fn80 rfl (rbshl_any (n0 := n0) (below_n0 hn0 hb2) (big_of rfl hS1) (Bd.le (bd_small (by omega)) (show 2 ≤ 90000 by decide))) ?_)))
  rintro _ w3 ⟨hq2, v2, rfl, hS2⟩
  have k3 := grown_of_below hq2 none
  have hz4 := hq2.size
  have hb3 := below_g0 hb2 k3
  have hz5 := hb3.size
  refine st0 (s_storeN row31 rfl rfl ((hB1.g0 k2).g0 k3) (by simp only [List.all_cons, List.all_nil, hS2.one, Bool.and_true, Bool.and_self] <;> rfl) rfl rfl ?_)
  intro w4 hB2 k4 hs2
  have hb4 := below_g hb3 k4 (by first | omega | (have h9 := (hb3).size; omega))
  refine r_end (n_then (w_retc1 rfl row31 rfl hB2.range rfl ?_))
  exact ⟨_, rfl, hb4, big_of (rfl) (hS2.ggB k4 ((hB1.g0 k2).g0 k3) (by decide) (by omega))⟩
end Go.Proofs.Ytfljelnfjbbknaa.Lm

set_option maxRecDepth 20000
set_option linter.unusedSimpArgs false
set_option linter.unusedVariables false
namespace Go.Proofs.Ytfljelnfjbbknaa.Lm
open Go.RowKit Go.Gw
set_option maxHeartbeats 1000000 in
theorem least_any0 {w : World} {n0 : Nat} (hn0 : n0 ≤ w.heap.size)  {a : Value} {n : Int} {b : Value} {m : Int} (ha : Sl Kd.u32 w (G 83 n0 w) a (ml n)) (hb : Sl Kd.u32 w (G 83 n0 w) b (ml m))  :
    Calls Try.prog 96 [.agg [.bool (decide (n < 0)), a].toArray, .agg [.bool (decide (m < 0)), b].toArray].toArray w (Pure w fun v W => IsBig 83 n0 W v (if m < n then m else n)) := by
  have hb0 := Below.refl w.heap.size w
  have hnn := nv_ml n
  have hnm := nv_ml m
  refine enter Try.func96 rfl rfl (w_seq (w_region (st (s_box rfl ?_))))
  intro g1 w1 hg1 hB1 k1 hs1
  change Blk w1 g1 31 [.bool (decide (n < 0)), a].toArray at hB1
  have hb1 := below_g0 hb0 k1
  refine st (s_box rfl ?_)
  intro g2 w2 hg2 hB2 k2 hs2
  change Blk w2 g2 31 [.bool (decide (m < 0)), b].toArray at hB2
  have hb2 := below_g0 hb1 k2
  have hlt_1 := ((hB1.g0 k2)).lt
  have hlt_2 := (hB2).lt
  refine st (s_alloc zero31 ?_)
  intro g3 w3 hg3 hB3 k3 hs3
  have hz1 := hb2.size
  have hb3 := below_g0 hb2 k3
  refine r_end (n_then (w_seq (w_seq (w_region (st (s_loadW row31 rfl (hB2.g0 k3).range rfl (st (s_loadW row31 rfl ((hB1.g0 k2).g0 k3).range rfl ?_))))))))
  refine st (s_call fn50 rfl (bcmp_any0 ((hb.at0 hb3)).none ((ha.at0 hb3)).none) ?_)
  rintro _ w4 ⟨hq1, rfl⟩
  have k4 := grown_of_below hq1 none
  have hz2 := hq1.size
  have hb4 := below_g0 hb3 k4
  have hz3 := hb4.size
  refine st (s_lt rfl rfl (r_end (n_then ?_)))
  refine w_condP rfl (fun h1 => ?_) (fun h1 => ?_)
  · refine w_seq (w_region (st (s_loadW row31 rfl ((hB2.g0 k3).g0 k4).range rfl (st0 (s_storeN row31 rfl rfl (hB3.g0 k4) (by simp only [List.all_cons, List.all_nil, hb.one, Bool.and_true, Bool.and_self] <;> rfl) rfl rfl ?_)))))
    intro w5 hB4 k5 hs4
    have hb5 := below_g hb4 k5 (by first | omega | (have h9 := (hb4).size; omega))
    refine r_end (n_then (w_retc1 rfl row31 rfl hB4.range rfl ?_))
    exact ⟨_, rfl, hb5, big_of ((if_pos (cmpI_neg h1)).symm) (((hb.at0 hb5)).unlocG hb5)⟩
  refine w_skip' (n_then (w_seq (w_region (st (s_loadW row31 rfl (((hB1.g0 k2).g0 k3).g0 k4).range rfl (st0 (s_storeN row31 rfl rfl (hB3.g0 k4) (by simp only [List.all_cons, List.all_nil, ha.one, Bool.and_true, Bool.and_self] <;> rfl) rfl rfl ?_)))))))
  intro w6 hB5 k6 hs5
  have hb6 := below_g hb4 k6 (by first | omega | (have h9 := (hb4).size; omega))
  refine r_end (n_then (w_retc1 rfl row31 rfl hB5.range rfl ?_))
  exact ⟨_, rfl, hb6, big_of ((if_neg (by have := cmpI_nneg h1; omega)).symm) (((ha.at0 hb6)).unlocG hb6)⟩

theorem least_any {w : World} {n0 : Nat} (hn0 : n0 ≤ w.heap.size)  {vn : Value} {n : Int} {vm : Value} {m : Int} (hn : IsBig 83 n0 w vn n) (hm : IsBig 83 n0 w vm m)  :
    Calls Try.prog 96 [vn, vm].toArray w (Pure w fun v W => IsBig 83 n0 W v (if m < n then m else n)) := by
  obtain ⟨sn, rfl, kn⟩ := hn
  obtain ⟨sm, rfl, km⟩ := hm
  exact least_any0 hn0 kn km

set_option maxHeartbeats 1000000 in
theorem greatest_any0 {w : World} {n0 : Nat} (hn0 : n0 ≤ w.heap.size)  {a : Value} {n : Int} {b : Value} {m : Int} (ha : Sl Kd.u32 w (G 83 n0 w) a (ml n)) (hb : Sl Kd.u32 w (G 83 n0 w) b (ml m))  :
    Calls Try.prog 97 [.agg [.bool (decide (n < 0)), a].toArray, .agg [.bool (decide (m < 0)), b].toArray].toArray w (Pure w fun v W => IsBig 83 n0 W v (if n < m then m else n)) := by
  have hb0 := Below.refl w.heap.size w
  have hnn := nv_ml n
  have hnm := nv_ml m
  refine enter Try.func97 rfl rfl (w_seq (w_region (st (s_box rfl ?_))))
  intro g1 w1 hg1 hB1 k1 hs1
  change Blk w1 g1 31 [.bool (decide (n < 0)), a].toArray at hB1
  have hb1 := below_g0 hb0 k1
  refine st (s_box rfl ?_)
  intro g2 w2 hg2 hB2 k2 hs2
  change Blk w2 g2 31 [.bool (decide (m < 0)), b].toArray at hB2
  have hb2 := below_g0 hb1 k2
  have hlt_1 := ((hB1.g0 k2)).lt
  have hlt_2 := (hB2).lt
  refine st (s_alloc zero31 ?_)
  intro g3 w3 hg3 hB3 k3 hs3
  have hz1 := hb2.size
  have hb3 := below_g0 hb2 k3
  refine r_end (n_then (w_seq (w_seq (w_region (st (s_loadW row31 rfl (hB2.g0 k3).range rfl (st (s_loadW row31 rfl ((hB1.g0 k2).g0 k3).range rfl ?_))))))))
  refine st (s_call fn50 rfl (bcmp_any0 ((hb.at0 hb3)).none ((ha.at0 hb3)).none) ?_)
  rintro _ w4 ⟨hq1, rfl⟩
  have k4 := grown_of_below hq1 none
  have hz2 := hq1.size
  have hb4 := below_g0 hb3 k4
  have hz3 := hb4.size
  refine st (s_gt rfl rfl (r_end (n_then ?_)))
  refine w_condP rfl (fun h1 => ?_) (fun h1 => ?_)
  · refine w_seq (w_region (st (s_loadW row31 rfl ((hB2.g0 k3).g0 k4).range rfl (st0 (s_storeN row31 rfl rfl (hB3.g0 k4) (by simp only [List.all_cons, List.all_nil, hb.one, Bool.and_true, Bool.and_self] <;> rfl) rfl rfl ?_)))))
    intro w5 hB4 k5 hs4
    have hb5 := below_g hb4 k5 (by first | omega | (have h9 := (hb4).size; omega))
    refine r_end (n_then (w_retc1 rfl row31 rfl hB4.range rfl ?_))
    exact ⟨_, rfl, hb5, big_of ((if_pos (cmpI_gt0 h1)).symm) (((hb.at0 hb5)).unlocG hb5)⟩
  refine w_skip' (n_then (w_seq (w_region (st (s_loadW row31 rfl (((hB1.g0 k2).g0 k3).g0 k4).range rfl (st0 (s_storeN row31 rfl rfl (hB3.g0 k4) (by simp only [List.all_cons, List.all_nil, ha.one, Bool.and_true, Bool.and_self] <;> rfl) rfl rfl ?_)))))))
  intro w6 hB5 k6 hs5
  have hb6 := below_g hb4 k6 (by first | omega | (have h9 := (hb4).size; omega))
  refine r_end (n_then (w_retc1 rfl row31 rfl hB5.range rfl ?_))
  exact ⟨_, rfl, hb6, big_of ((if_neg (by have := cmpI_le0 h1; omega)).symm) (((ha.at0 hb6)).unlocG hb6)⟩

theorem greatest_any {w : World} {n0 : Nat} (hn0 : n0 ≤ w.heap.size)  {vn : Value} {n : Int} {vm : Value} {m : Int} (hn : IsBig 83 n0 w vn n) (hm : IsBig 83 n0 w vm m)  :
    Calls Try.prog 97 [vn, vm].toArray w (Pure w fun v W => IsBig 83 n0 W v (if n < m then m else n)) := by
  obtain ⟨sn, rfl, kn⟩ := hn
  obtain ⟨sm, rfl, km⟩ := hm
  exact greatest_any0 hn0 kn km

set_option maxHeartbeats 1000000 in
theorem join_t {a0 w : World} {n0 : Nat} (hn0 : n0 ≤ a0.heap.size) {g : Nat} {s t : Spn} {a b : Int} {pa pb : Value} (hb0 : Below a0.heap.size a0 w) (hga : a0.heap.size ≤ g) {ufx : Value} {ufy : Value} {utx : Value} {uty : Value} (hufx : Sl Kd.u32 w (G 83 n0 w) ufx (ml s.fx)) (hufy : Sl Kd.u32 w (G 83 n0 w) ufy (ml s.fy)) (hutx : Sl Kd.u32 w (G 83 n0 w) utx (ml s.tx)) (huty : Sl Kd.u32 w (G 83 n0 w) uty (ml s.ty)) {vfx : Value} {vfy : Value} {vtx : Value} {vty : Value} (hvfx : Sl Kd.u32 w (G 83 n0 w) vfx (ml t.fx)) (hvfy : Sl Kd.u32 w (G 83 n0 w) vfy (ml t.fy)) (hvtx : Sl Kd.u32 w (G 83 n0 w) vtx (ml t.tx)) (hvty : Sl Kd.u32 w (G 83 n0 w) vty (ml t.ty)) (hB : Blk w g 72 [.bool s.some, .bool (decide (s.fx < 0)), ufx, .bool (decide (s.fy < 0)), ufy, .bool (decide (s.tx < 0)), utx, .bool (decide (s.ty < 0)), uty].toArray) (hpa : Sl Kd.u32 w (G 83 n0 w) pa (ml a)) (hpb : Sl Kd.u32 w (G 83 n0 w) pb (ml b)) (hsb : SpBd 43 s) (htb : SpBd 43 t) (hso : s.some = true) (hab : Bd 43 a) (hbb : Bd 43 b) :
    Calls Try.prog 75 [.pointer (some ⟨g, 0, none⟩), .agg [.bool t.some, .bool (decide (t.fx < 0)), vfx, .bool (decide (t.fy < 0)), vfy, .bool (decide (t.tx < 0)), vtx, .bool (decide (t.ty < 0)), vty].toArray, .agg [.bool (decide (a < 0)), pa, .bool (decide (b < 0)), pb].toArray].toArray w (Ret fun r W => r = .tuple #[] ∧ w.grownBy W (some g) ∧ ∃ a1 a2 a3 a4, Blk W g 72 [.bool (joinS s t a b).some, .bool (decide ((joinS s t a b).fx < 0)), a1, .bool (decide ((joinS s t a b).fy < 0)), a2, .bool (decide ((joinS s t a b).tx < 0)), a3, .bool (decide ((joinS s t a b).ty < 0)), a4].toArray ∧ Sl Kd.u32 W (G 83 n0 W) a1 (ml (joinS s t a b).fx) ∧ Sl Kd.u32 W (G 83 n0 W) a2 (ml (joinS s t a b).fy) ∧ Sl Kd.u32 W (G 83 n0 W) a3 (ml (joinS s t a b).tx) ∧ Sl Kd.u32 W (G 83 n0 W) a4 (ml (joinS s t a b).ty)) := by
  have hz0 := hb0.size
  have hgl := hB.lt
  refine enter Try.func75 rfl rfl (w_seq (w_region (st (s_box rfl ?_))))
  intro g1 w1 hg1 hB1 k1 hs1
  change Blk w1 g1 72 [.bool t.some, .bool (decide (t.fx < 0)), vfx, .bool (decide (t.fy < 0)), vfy, .bool (decide (t.tx < 0)), vtx, .bool (decide (t.ty < 0)), vty].toArray at hB1
  have hb1 := below_g0 hb0 k1
  refine st (s_box rfl ?_)
  intro g2 w2 hg2 hB2 k2 hs2
  change Blk w2 g2 70 [.bool (decide (a < 0)), pa, .bool (decide (b < 0)), pb].toArray at hB2
  have hb2 := below_g0 hb1 k2
  refine r_end (n_then (w_seq (w_seq (w_region (st (s_faddr fld72_0 rfl (st (s_load one4 rfl (hB1.g0 k2).range (j := 0) rfl ?_))))))))
  refine st (s_not rfl (r_end (n_then ?_)))
  refine w_cond rfl (fun h1 => ?_) (fun h1 => ?_)
  · refine w_ret0 (fn := Try.f75) rfl ?_
    have q0 : w.grownBy w2 (some g) := (kj_none (kj_none (kj_refl g _) k1) k2)
    have q1 := ((hB.g0 k1).g0 k2)
    have q2 := ((hufx.gg0 k1).gg0 k2)
    have q3 := ((hufy.gg0 k1).gg0 k2)
    have q4 := ((hutx.gg0 k1).gg0 k2)
    have q5 := ((huty.gg0 k1).gg0 k2)
    have e : s = joinS s t a b := by unfold joinS; rw [show t.some = false by simpa using h1]; rfl
    rw [← e]
    exact ⟨_, rfl, rfl, q0, _, _, _, _, q1, q2, q3, q4, q5⟩
  refine w_skip' (n_then (w_seq (w_seq (w_region (st (s_move rfl (r_end ?_)))))))
  refine n_then (w_block (w_unroll 2 (w_seq (w_region (st (s_lt rfl rfl ?_))))))
  rw [show decide ((0 : Int) < 2) = true from rfl]
  refine r_end (n_then (w_seq (w_condT rfl (w_skip' (n_then (w_seq ?_))))))
  refine w_block (w_seq (w_region (st (s_move rfl (st (s_assign rfl (r_end (n_then ?_))))))))
  refine w_seq ?_
  have hlt_8 := (((hB.g0 k1).g0 k2)).lt
  have hlt_9 := ((hB1.g0 k2)).lt
  have hlt_10 := (hB2).lt
  refine w_drawF 18 (fun a b => a.grownBy b none) [(some 15, Is <| .int .i64 0), (some 16, Is <| .pointer (some ⟨g1, 0 + 1, none⟩)), (some 17, Is <| .pointer (some ⟨g1, 0 + 1 + (0 : Int).toNat * 2, none⟩)), (some 18, Is <| .agg [.bool (decide (t.fx < 0)), vfx].toArray), (some 19, Is <| .int .i64 0), (some 20, Is <| .pointer (some ⟨g2, 0 + (0 : Int).toNat * 2, none⟩)), (some 21, Is <| .agg [.bool (decide (a < 0)), pa].toArray), (some 22, fun v W => IsBig 83 n0 W v ((t.fx + a))), (some 23, Is <| .int .i64 0), (some 24, Is <| .pointer (some ⟨g1, 0 + 5, none⟩)), (some 25, Is <| .pointer (some ⟨g1, 0 + 5 + (0 : Int).toNat * 2, none⟩)), (some 26, Is <| .agg [.bool (decide (t.tx < 0)), vtx].toArray), (some 27, Is <| .int .i64 0), (some 28, Is <| .pointer (some ⟨g2, 0 + (0 : Int).toNat * 2, none⟩)), (some 29, Is <| .agg [.bool (decide (a < 0)), pa].toArray), (some 30, fun v W => IsBig 83 n0 W v ((t.tx + a))), (some 7, fun v W => ∃ g, v = .pointer (some ⟨g, 0, none⟩) ∧ Blk W g 31 #[.bool false, .slice none 0 0] ∧ w2.heap.size ≤ g), (some 8, fun v W => ∃ g, v = .pointer (some ⟨g, 0, none⟩) ∧ Blk W g 31 #[.bool false, .slice none 0 0] ∧ w2.heap.size ≤ g)] [[], [], [0, 1], [2], [], [4], [5], [3, 6], [], [], [8, 9], [10], [], [12], [13], [11, 14], [], []] [false, false, false, false, false, false, false, false, false, false, false, false, false, false, false, false, true, true] [(0, .pointer (some ⟨g, 0, none⟩)), (4, .pointer (some ⟨g1, 0, none⟩)), (5, .pointer (some ⟨g2, 0, none⟩)), (6, .int .i64 0), (12, .int .i64 0), (13, .bool true), (14, .int .i64 0)] (by exact ⟨rfl, rfl, rfl, rfl, rfl, rfl, rfl, trivial⟩) (by kernel_rfl) (by kernel_rfl) grown_none_refl (fun _ _ _ => grown_none_trans) ⟨kv, kv, kv, kv, kv, kv, kv, fun _ _ _ h k => h.g0 k, kv, kv, kv, kv, kv, kv, kv, fun _ _ _ h k => h.g0 k, fun _ _ _ h k => by obtain ⟨g, e, hB, hg⟩ := h; exact ⟨g, e, hB.g0 k, hg⟩, fun _ _ _ h k => by obtain ⟨g, e, hB, hg⟩ := h; exact ⟨g, e, hB.g0 k, hg⟩, trivial⟩ ⟨(fun h => by cases h), (fun h => by cases h), (fun h => by cases h), (fun h => by cases h), (fun h => by cases h), (fun h => by cases h), (fun h => by cases h), (fun h => by cases h), (fun h => by cases h), (fun h => by cases h), (fun h => by cases h), (fun h => by cases h), (fun h => by cases h), (fun h => by cases h), (fun h => by cases h), (fun h => by cases h), fun _ _ _ ⟨g, e, hB, _⟩ => ⟨g, e, hB.lt⟩, fun _ _ _ ⟨g, e, hB, _⟩ => ⟨g, e, hB.lt⟩, trivial⟩ ?_
  intro w7 k7 hs5
  have hb3 := below_g0 hb2 k7
  refine ⟨⟨?_, ?_, ?_, ?_, ?_, ?_, ?_, ?_, ?_, ?_, ?_, ?_, ?_, ?_, ?_, ?_, ?_, ?_, trivial⟩, ?_⟩
  · intro w8 k8
    refine op1 (s_move rfl ?_)
    exact ⟨rfl, grown_none_refl _, fun h => by cases h⟩
  · intro w9 k9
    refine op1 (s_faddr fld72_1 rfl ?_)
    exact ⟨rfl, grown_none_refl _, fun h => by cases h⟩
  · intro w10 k10
    rintro _ rfl _ rfl
    refine op1 (s_iaddr arr70 rfl rfl (by omega) (by omega) ?_)
    exact ⟨rfl, grown_none_refl _, fun h => by cases h⟩
  · intro w11 k11
    rintro _ rfl
    refine op1 (s_loadN (us := [.bool (decide (t.fx < 0)), vfx]) row31 rfl (((hB1.g0 k2).g0 k7).g0 k11).range (j := 1) rfl rfl ?_)
    exact ⟨rfl, grown_none_refl _, fun h => by cases h⟩
  · intro w12 k12
    refine op1 (s_move rfl ?_)
    exact ⟨rfl, grown_none_refl _, fun h => by cases h⟩
  · intro w13 k13
    rintro _ rfl
    refine op1 (s_iaddr arr70 rfl rfl (by omega) (by omega) ?_)
    exact ⟨rfl, grown_none_refl _, fun h => by cases h⟩
  · intro w14 k14
    rintro _ rfl
    refine op1 (s_loadN (us := [.bool (decide (a < 0)), pa]) row31 rfl ((hB2.g0 k7).g0 k14).range (j := 0) rfl rfl ?_)
    exact ⟨rfl, grown_none_refl _, fun h => by cases h⟩
  · intro w15 k15
    have hb11 := below_g0 hb3 k15
    rintro _ rfl _ rfl
    refine op1 (s_call fn78 rfl (badd_any (n0 := n0) (below_n0 hn0 hb11) (big_of rfl ((((hvfx.gg0 k1).gg0 k2).gg0 k7).gg0 k15)) (big_of rfl ((((hpa.gg0 k1).gg0 k2).gg0 k7).gg0 k15)) (Bd.le htb.fx (show 43 ≤ 90000 by decide)) (Bd.le hab (show 43 ≤ 90000 by decide))) ?_)
    rintro _ w16 ⟨hq3, v3, rfl, hS3⟩
    have k16 := grown_of_below hq3 none
    have hz1 := hq3.size
    have hb12 := below_g0 hb11 k16
    have hz2 := hb12.size
    exact ⟨⟨_, rfl, hS3⟩, k16, fun h => by cases h⟩
  · intro w17 k17
    refine op1 (s_move rfl ?_)
    exact ⟨rfl, grown_none_refl _, fun h => by cases h⟩
  · intro w18 k18
    refine op1 (s_faddr fld72_2 rfl ?_)
    exact ⟨rfl, grown_none_refl _, fun h => by cases h⟩
  · intro w19 k19
    rintro _ rfl _ rfl
    refine op1 (s_iaddr arr70 rfl rfl (by omega) (by omega) ?_)
    exact ⟨rfl, grown_none_refl _, fun h => by cases h⟩
  · intro w20 k20
    rintro _ rfl
    refine op1 (s_loadN (us := [.bool (decide (t.tx < 0)), vtx]) row31 rfl (((hB1.g0 k2).g0 k7).g0 k20).range (j := 5) rfl rfl ?_)
    exact ⟨rfl, grown_none_refl _, fun h => by cases h⟩
  · intro w21 k21
    refine op1 (s_move rfl ?_)
    exact ⟨rfl, grown_none_refl _, fun h => by cases h⟩
  · intro w22 k22
    rintro _ rfl
    refine op1 (s_iaddr arr70 rfl rfl (by omega) (by omega) ?_)
    exact ⟨rfl, grown_none_refl _, fun h => by cases h⟩
  · intro w23 k23
    rintro _ rfl
    refine op1 (s_loadN (us := [.bool (decide (a < 0)), pa]) row31 rfl ((hB2.g0 k7).g0 k23).range (j := 0) rfl rfl ?_)
    exact ⟨rfl, grown_none_refl _, fun h => by cases h⟩
  · intro w24 k24
    have hb20 := below_g0 hb3 k24
    rintro _ rfl _ rfl
    refine op1 (s_call fn78 rfl (badd_any (n0 := n0) (below_n0 hn0 hb20) (big_of rfl ((((hvtx.gg0 k1).gg0 k2).gg0 k7).gg0 k24)) (big_of rfl ((((hpa.gg0 k1).gg0 k2).gg0 k7).gg0 k24)) (Bd.le htb.tx (show 43 ≤ 90000 by decide)) (Bd.le hab (show 43 ≤ 90000 by decide))) ?_)
    rintro _ w25 ⟨hq4, v4, rfl, hS4⟩
    have k25 := grown_of_below hq4 none
    have hz3 := hq4.size
    have hb21 := below_g0 hb20 k25
    have hz4 := hb21.size
    exact ⟨⟨_, rfl, hS4⟩, k25, fun h => by cases h⟩
  · intro w26 k26
    have hb22 := below_g0 hb3 k26
    have hlt_11 := (((((hB.g0 k1).g0 k2).g0 k7).g0 k26)).lt
    have hlt_12 := ((((hB1.g0 k2).g0 k7).g0 k26)).lt
    have hlt_13 := (((hB2.g0 k7).g0 k26)).lt
    refine op1 (s_alloc zero31 ?_)
    intro g5 w27 hg5 hB5 k27 hs6
    have hz5 := hb22.size
    exact ⟨⟨_, rfl, hB5, by have h0_ := k7.size; have h1_ := k26.size; have h2_ := k27.size; omega⟩, k27, fun _ => ⟨_, rfl, by omega⟩⟩
  · intro w28 k28
    have hb24 := below_g0 hb3 k28
    have hlt_14 := (((((hB.g0 k1).g0 k2).g0 k7).g0 k28)).lt
    have hlt_15 := ((((hB1.g0 k2).g0 k7).g0 k28)).lt
    have hlt_16 := (((hB2.g0 k7).g0 k28)).lt
    refine op1 (s_alloc zero31 ?_)
    intro g6 w29 hg6 hB6 k29 hs7
    have hz6 := hb24.size
    exact ⟨⟨_, rfl, hB6, by have h0_ := k7.size; have h1_ := k28.size; have h2_ := k29.size; omega⟩, k29, fun _ => ⟨_, rfl, by omega⟩⟩
  intro w30 k30
  have hb26 := below_g0 hb3 k30
  rintro _ rfl _ rfl _ rfl _ rfl _ rfl _ rfl _ rfl _ ⟨v5, rfl, hS5⟩ _ rfl _ rfl _ rfl _ rfl _ rfl _ rfl _ rfl _ ⟨v6, rfl, hS6⟩ _ ⟨g7, rfl, hB7, hg7⟩
  have hlt_17 := hB7.lt
  rintro hnf1 _ ⟨g8, rfl, hB8, hg8⟩
  have hlt_18 := hB8.lt
  intro hnf2
  have hne1 : g7 ≠ g8 := fresh_ne (hnf2 _ (by simp))
  refine st0 (s_storeN row31 rfl rfl hB7 (by simp only [List.all_cons, List.all_nil, hS5.one, Bool.and_true, Bool.and_self] <;> rfl) rfl rfl ?_)
  intro w31 hB9 k31 hs8
  have hb27 := below_g hb26 k31 (by first | omega | (have h9 := (hb26).size; omega))
  refine st0 (s_storeN row31 rfl rfl (hB8.gne k31 (by omega)) (by simp only [List.all_cons, List.all_nil, hS6.one, Bool.and_true, Bool.and_self] <;> rfl) rfl rfl ?_)
  intro w32 hB10 k32 hs9
  have hb28 := below_g hb27 k32 (by first | omega | (have h9 := (hb27).size; omega))
  refine r_end (n_then (w_seq (w_seq (w_region (st (s_move rfl (st (s_nilp rfl ?_))))))))
  refine st (s_faddr fld72_0 rfl (st (s_load one4 rfl ((((((hB.g0 k1).g0 k2).g0 k7).g0 k30).gne k31 (by omega)).gne k32 (by omega)).range (j := 0) rfl (r_end (n_then ?_)))))
  refine w_cond rfl (fun h2 => ?_) (fun h2 => absurd (hso.symm.trans h2) (by decide))
  refine w_drawT 16 (fun a b => a.grownBy b none) [(some 35, Is <| .pointer (some ⟨g, 0, none⟩)), (some 36, Is <| .int .i64 0), (some 37, Is <| .pointer (some ⟨g, 0, none⟩)), (some 38, Is <| .pointer (some ⟨g, 0 + 1, none⟩)), (some 39, Is <| .pointer (some ⟨g, 0 + 1 + (0 : Int).toNat * 2, none⟩)), (some 40, Is <| .agg [.bool (decide (s.fx < 0)), ufx].toArray), (some 41, Is <| .agg [.bool (decide ((t.fx + a) < 0)), v5].toArray), (some 42, fun v W => IsBig 83 n0 W v ((if (t.fx + a) < s.fx then (t.fx + a) else s.fx))), (some 43, Is <| .pointer (some ⟨g, 0, none⟩)), (some 44, Is <| .int .i64 0), (some 45, Is <| .pointer (some ⟨g, 0, none⟩)), (some 46, Is <| .pointer (some ⟨g, 0 + 5, none⟩)), (some 47, Is <| .pointer (some ⟨g, 0 + 5 + (0 : Int).toNat * 2, none⟩)), (some 48, Is <| .agg [.bool (decide (s.tx < 0)), utx].toArray), (some 49, Is <| .agg [.bool (decide ((t.tx + a) < 0)), v6].toArray), (some 50, fun v W => IsBig 83 n0 W v ((if s.tx < (t.tx + a) then (t.tx + a) else s.tx)))] [[], [], [0], [2], [1, 3], [4], [], [5, 6], [], [], [8], [10], [9, 11], [12], [], [13, 14]] [(0, .pointer (some ⟨g, 0, none⟩)), (4, .pointer (some ⟨g1, 0, none⟩)), (5, .pointer (some ⟨g2, 0, none⟩)), (6, .int .i64 0), (7, .pointer (some ⟨g7, 0, none⟩)), (8, .pointer (some ⟨g8, 0, none⟩)), (12, .int .i64 0), (13, .bool true), (14, .int .i64 0), (15, .int .i64 0), (16, .pointer (some ⟨g1, 0 + 1, none⟩)), (17, .pointer (some ⟨g1, 0 + 1 + (0 : Int).toNat * 2, none⟩)), (18, .agg [.bool (decide (t.fx < 0)), vfx].toArray), (19, .int .i64 0), (20, .pointer (some ⟨g2, 0 + (0 : Int).toNat * 2, none⟩)), (21, .agg [.bool (decide (a < 0)), pa].toArray), (22, .agg [.bool (decide ((t.fx + a) < 0)), v5].toArray), (23, .int .i64 0), (24, .pointer (some ⟨g1, 0 + 5, none⟩)), (25, .pointer (some ⟨g1, 0 + 5 + (0 : Int).toNat * 2, none⟩)), (26, .agg [.bool (decide (t.tx < 0)), vtx].toArray), (27, .int .i64 0), (28, .pointer (some ⟨g2, 0 + (0 : Int).toNat * 2, none⟩)), (29, .agg [.bool (decide (a < 0)), pa].toArray), (30, .agg [.bool (decide ((t.tx + a) < 0)), v6].toArray), (31, .pointer (some ⟨g, 0, none⟩)), (32, .pointer (some ⟨g, 0, none⟩)), (33, .pointer (some ⟨g, 0 + 0, none⟩)), (34, .bool s.some)] (by exact ⟨rfl, rfl, rfl, rfl, rfl, rfl, rfl, rfl, rfl, rfl, rfl, rfl, rfl, rfl, rfl, rfl, rfl, rfl, rfl, rfl, rfl, rfl, rfl, rfl, rfl, rfl, rfl, rfl, rfl, trivial⟩) (by kernel_rfl) (by kernel_rfl) grown_none_refl (fun _ _ _ => grown_none_trans) ⟨kv, kv, kv, kv, kv, kv, kv, fun _ _ _ h k => h.g0 k, kv, kv, kv, kv, kv, kv, kv, fun _ _ _ h k => h.g0 k, trivial⟩ ?_
  intro w35 k35 hs10
  have hb29 := below_g0 hb28 k35
  refine ⟨⟨?_, ?_, ?_, ?_, ?_, ?_, ?_, ?_, ?_, ?_, ?_, ?_, ?_, ?_, ?_, ?_, trivial⟩, ?_⟩
  · intro w36 k36
    refine op1 (s_move rfl ?_)
    exact ⟨rfl, grown_none_refl _⟩
  · intro w37 k37
    refine op1 (s_move rfl ?_)
    exact ⟨rfl, grown_none_refl _⟩
  · intro w38 k38
    rintro _ rfl
    refine op1 (s_nilp rfl ?_)
    exact ⟨rfl, grown_none_refl _⟩
  · intro w39 k39
    rintro _ rfl
    refine op1 (s_faddr fld72_1 rfl ?_)
    exact ⟨rfl, grown_none_refl _⟩
  · intro w40 k40
    rintro _ rfl _ rfl
    refine op1 (s_iaddr arr70 rfl rfl (by omega) (by omega) ?_)
    exact ⟨rfl, grown_none_refl _⟩
  · intro w41 k41
    rintro _ rfl
    refine op1 (s_loadN (us := [.bool (decide (s.fx < 0)), ufx]) row31 rfl ((((((((hB.g0 k1).g0 k2).g0 k7).g0 k30).gne k31 (by omega)).gne k32 (by omega)).g0 k35).g0 k41).range (j := 1) rfl rfl ?_)
    exact ⟨rfl, grown_none_refl _⟩
  · intro w42 k42
    refine op1 (s_loadW row31 rfl (((hB9.gne k32 (by omega)).g0 k35).g0 k42).range rfl ?_)
    exact ⟨rfl, grown_none_refl _⟩
  · intro w43 k43
    have hb37 := below_g0 hb29 k43
    rintro _ rfl _ rfl
    refine op1 (s_call fn96 rfl (least_any (n0 := n0) (below_n0 hn0 hb37) (big_of rfl ((((((((hufx.gg0 k1).gg0 k2).gg0 k7).gg0 k30).ggB k31 hB7 (by decide) (by omega)).ggB k32 (hB8.gne k31 (by omega)) (by decide) (by omega)).gg0 k35).gg0 k43)) (big_of rfl ((((hS5.ggB k31 hB7 (by decide) (by omega)).ggB k32 (hB8.gne k31 (by omega)) (by decide) (by omega)).gg0 k35).gg0 k43))) ?_)
    rintro _ w44 ⟨hq7, v9, rfl, hS9⟩
    have k44 := grown_of_below hq7 none
    have hz7 := hq7.size
    have hb38 := below_g0 hb37 k44
    have hz8 := hb38.size
    exact ⟨⟨_, rfl, hS9⟩, k44⟩
  · intro w45 k45
    refine op1 (s_move rfl ?_)
    exact ⟨rfl, grown_none_refl _⟩
  · intro w46 k46
    refine op1 (s_move rfl ?_)
    exact ⟨rfl, grown_none_refl _⟩
  · intro w47 k47
    rintro _ rfl
    refine op1 (s_nilp rfl ?_)
    exact ⟨rfl, grown_none_refl _⟩
  · intro w48 k48
    rintro _ rfl
    refine op1 (s_faddr fld72_2 rfl ?_)
    exact ⟨rfl, grown_none_refl _⟩
  · intro w49 k49
    rintro _ rfl _ rfl
    refine op1 (s_iaddr arr70 rfl rfl (by omega) (by omega) ?_)
    exact ⟨rfl, grown_none_refl _⟩
  · intro w50 k50
    rintro _ rfl
    refine op1 (s_loadN (us := [.bool (decide (s.tx < 0)), utx]) row31 rfl ((((((((hB.g0 k1).g0 k2).g0 k7).g0 k30).gne k31 (by omega)).gne k32 (by omega)).g0 k35).g0 k50).range (j := 5) rfl rfl ?_)
    exact ⟨rfl, grown_none_refl _⟩
  · intro w51 k51
    refine op1 (s_loadW row31 rfl ((hB10.g0 k35).g0 k51).range rfl ?_)
    exact ⟨rfl, grown_none_refl _⟩
  · intro w52 k52
    have hb46 := below_g0 hb29 k52
    rintro _ rfl _ rfl
    refine op1 (s_call fn97 rfl (greatest_any (n0 := n0) (below_n0 hn0 hb46) (big_of rfl ((((((((hutx.gg0 k1).gg0 k2).gg0 k7).gg0 k30).ggB k31 hB7 (by decide) (by omega)).ggB k32 (hB8.gne k31 (by omega)) (by decide) (by omega)).gg0 k35).gg0 k52)) (big_of rfl ((((hS6.ggB k31 hB7 (by decide) (by omega)).ggB k32 (hB8.gne k31 (by omega)) (by decide) (by omega)).gg0 k35).gg0 k52))) ?_)
    rintro _ w53 ⟨hq8, v10, rfl, hS10⟩
    have k53 := grown_of_below hq8 none
    have hz9 := hq8.size
    have hb47 := below_g0 hb46 k53
    have hz10 := hb47.size
    exact ⟨⟨_, rfl, hS10⟩, k53⟩
  intro w54 k54
  have hb48 := below_g0 hb29 k54
  rintro _ rfl _ rfl _ rfl _ rfl _ rfl _ rfl _ rfl _ ⟨v11, rfl, hS11⟩ _ rfl _ rfl _ rfl _ rfl _ rfl _ rfl _ rfl _ ⟨v12, rfl, hS12⟩
  refine st0 (s_storeN row31 rfl rfl (((hB9.gne k32 (by omega)).g0 k35).g0 k54) (by simp only [List.all_cons, List.all_nil, hS11.one, Bool.and_true, Bool.and_self] <;> rfl) rfl rfl ?_)
  intro w55 hB11 k55 hs11
  have hb49 := below_g hb48 k55 (by first | omega | (have h9 := (hb48).size; omega))
  refine st0 (s_storeN row31 rfl rfl (((hB10.g0 k35).g0 k54).gne k55 (by omega)) (by simp only [List.all_cons, List.all_nil, hS12.one, Bool.and_true, Bool.and_self] <;> rfl) rfl rfl ?_)
  intro w56 hB12 k56 hs12
  have hb50 := below_g hb49 k56 (by first | omega | (have h9 := (hb49).size; omega))
  refine r_end (n_then ?_)
  refine w_drawDT 13 (fun a b => a.grownBy b (some g)) (fun a b => a.grownBy b none) (fun a b => a.grownBy b (some g)) [(some 51, Is <| .pointer (some ⟨g, 0, none⟩)), (some 52, Is <| .int .i64 0), (some 53, Is <| .pointer (some ⟨g, 0, none⟩)), (some 54, Is <| .int .i64 0), (some 55, Is <| .agg [.bool (decide ((if (t.fx + a) < s.fx then (t.fx + a) else s.fx) < 0)), v11].toArray), (some 56, Is <| .agg [.bool (decide ((if s.tx < (t.tx + a) then (t.tx + a) else s.tx) < 0)), v12].toArray), (some 57, Is <| .pointer (some ⟨g, 0, none⟩)), (some 58, Is <| .pointer (some ⟨g, 0 + 1, none⟩)), (some 59, Is <| .pointer (some ⟨g, 0 + 1 + (0 : Int).toNat * 2, none⟩)), (none, fun _ W => Blk W g 72 ([.bool s.some, .bool (decide ((if (t.fx + a) < s.fx then (t.fx + a) else s.fx) < 0)), v11, .bool (decide (s.fy < 0)), ufy, .bool (decide (s.tx < 0)), utx, .bool (decide (s.ty < 0)), uty] : List Value).toArray), (some 60, Is <| .pointer (some ⟨g, 0, none⟩)), (some 61, Is <| .pointer (some ⟨g, 0 + 5, none⟩)), (some 62, Is <| .pointer (some ⟨g, 0 + 5 + (0 : Int).toNat * 2, none⟩))] [[], [], [], [], [], [], [0], [6], [1, 7], [4, 8], [2], [10], [3, 11]] [[], [], [], [], [], [], [0], [0, 6], [0, 1, 4, 6, 7], [0, 1, 4, 6, 7, 8], [2], [2, 10], [0, 1, 2, 3, 4, 5, 6, 7, 8, 9, 10, 11]] [[], [], [], [], [], [], [], [], [], [], [], [], []] [false, false, false, false, false, false, false, false, false, true, false, false, false] [true, true, true, true, true, true, true, true, true, false, true, true, true] [true, true, false, false, true, false, true, true, true, true, false, false, false] [(0, .pointer (some ⟨g, 0, none⟩)), (4, .pointer (some ⟨g1, 0, none⟩)), (5, .pointer (some ⟨g2, 0, none⟩)), (6, .int .i64 0), (7, .pointer (some ⟨g7, 0, none⟩)), (8, .pointer (some ⟨g8, 0, none⟩)), (12, .int .i64 0), (13, .bool true), (14, .int .i64 0), (15, .int .i64 0), (16, .pointer (some ⟨g1, 0 + 1, none⟩)), (17, .pointer (some ⟨g1, 0 + 1 + (0 : Int).toNat * 2, none⟩)), (18, .agg [.bool (decide (t.fx < 0)), vfx].toArray), (19, .int .i64 0), (20, .pointer (some ⟨g2, 0 + (0 : Int).toNat * 2, none⟩)), (21, .agg [.bool (decide (a < 0)), pa].toArray), (22, .agg [.bool (decide ((t.fx + a) < 0)), v5].toArray), (23, .int .i64 0), (24, .pointer (some ⟨g1, 0 + 5, none⟩)), (25, .pointer (some ⟨g1, 0 + 5 + (0 : Int).toNat * 2, none⟩)), (26, .agg [.bool (decide (t.tx < 0)), vtx].toArray), (27, .int .i64 0), (28, .pointer (some ⟨g2, 0 + (0 : Int).toNat * 2, none⟩)), (29, .agg [.bool (decide (a < 0)), pa].toArray), (30, .agg [.bool (decide ((t.tx + a) < 0)), v6].toArray), (31, .pointer (some ⟨g, 0, none⟩)), (32, .pointer (some ⟨g, 0, none⟩)), (33, .pointer (some ⟨g, 0 + 0, none⟩)), (34, .bool s.some), (35, .pointer (some ⟨g, 0, none⟩)), (36, .int .i64 0), (37, .pointer (some ⟨g, 0, none⟩)), (38, .pointer (some ⟨g, 0 + 1, none⟩)), (39, .pointer (some ⟨g, 0 + 1 + (0 : Int).toNat * 2, none⟩)), (40, .agg [.bool (decide (s.fx < 0)), ufx].toArray), (41, .agg [.bool (decide ((t.fx + a) < 0)), v5].toArray), (42, .agg [.bool (decide ((if (t.fx + a) < s.fx then (t.fx + a) else s.fx) < 0)), v11].toArray), (43, .pointer (some ⟨g, 0, none⟩)), (44, .int .i64 0), (45, .pointer (some ⟨g, 0, none⟩)), (46, .pointer (some ⟨g, 0 + 5, none⟩)), (47, .pointer (some ⟨g, 0 + 5 + (0 : Int).toNat * 2, none⟩)), (48, .agg [.bool (decide (s.tx < 0)), utx].toArray), (49, .agg [.bool (decide ((t.tx + a) < 0)), v6].toArray), (50, .agg [.bool (decide ((if s.tx < (t.tx + a) then (t.tx + a) else s.tx) < 0)), v12].toArray)] (by exact ⟨rfl, rfl, rfl, rfl, rfl, rfl, rfl, rfl, rfl, rfl, rfl, rfl, rfl, rfl, rfl, rfl, rfl, rfl, rfl, rfl, rfl, rfl, rfl, rfl, rfl, rfl, rfl, rfl, rfl, rfl, rfl, rfl, rfl, rfl, rfl, rfl, rfl, rfl, rfl, rfl, rfl, rfl, rfl, rfl, rfl, trivial⟩) (by kernel_rfl) (by kernel_rfl) (by kernel_rfl) rfl (grown_some_refl g) grown_some_trans (fun _ _ h => grown_none_row h) (fun _ _ h => h) ⟨kv, kv, kv, kv, kv, kv, kv, kv, kv, kv, kv, kv, kv, kv, kv, kv, kv, kv, fun _ _ _ h k => h.g0 k, kv, kv, kv, kv, kv, kv, trivial⟩ grown_none_refl (fun _ _ _ => grown_none_trans) rfl ?_
  intro w58 k58 hs14
  have hb51 := below_g0 hb50 k58
  refine ⟨⟨?_, ?_, ?_, ?_, ?_, ?_, ?_, ?_, ?_, ?_, ?_, ?_, ?_, trivial⟩, ?_⟩
  · intro w59 k59
    have hb52 := below_g0 hb51 k59
    have hz11 := hb52.size
    refine op1 (s_move rfl ?_)
    exact ⟨rfl, grown_none_refl _⟩
  · intro w60 k60
    have hb53 := below_g0 hb51 k60
    have hz12 := hb53.size
    refine op1 (s_move rfl ?_)
    exact ⟨rfl, grown_none_refl _⟩
  · intro w61 k61
    have hb54 := below_g hb51 k61 (by first | omega | (have h9 := (hb51).size; omega))
    have hz13 := hb54.size
    refine op1 (s_move rfl ?_)
    exact ⟨rfl, grown_none_refl _⟩
  · intro w62 k62
    have hb55 := below_g hb51 k62 (by first | omega | (have h9 := (hb51).size; omega))
    have hz14 := hb55.size
    refine op1 (s_move rfl ?_)
    exact ⟨rfl, grown_none_refl _⟩
  · intro w63 k63
    have hb56 := below_g0 hb51 k63
    have hz15 := hb56.size
    refine op1 (s_loadW row31 rfl (((hB11.gne k56 (by omega)).g0 k58).g0 k63).range rfl ?_)
    exact ⟨rfl, grown_none_refl _⟩
  · intro w64 k64
    have hb57 := below_g hb51 k64 (by first | omega | (have h9 := (hb51).size; omega))
    have hz16 := hb57.size
    refine op1 (s_loadW row31 rfl ((hB12.g0 k58).gne k64 (by omega)).range rfl ?_)
    exact ⟨rfl, grown_none_refl _⟩
  · intro w65 k65
    have hb58 := below_g0 hb51 k65
    have hz17 := hb58.size
    rintro _ rfl
    refine op1 (s_nilp rfl ?_)
    exact ⟨rfl, grown_none_refl _⟩
  · intro w66 k66
    have hb59 := below_g0 hb51 k66
    have hz18 := hb59.size
    rintro _ rfl
    refine op1 (s_faddr fld72_1 rfl ?_)
    exact ⟨rfl, grown_none_refl _⟩
  · intro w67 k67
    have hb60 := below_g0 hb51 k67
    have hz19 := hb60.size
    rintro _ rfl _ rfl
    refine op1 (s_iaddr arr70 rfl rfl (by omega) (by omega) ?_)
    exact ⟨rfl, grown_none_refl _⟩
  · intro w68 k68
    have hb61 := below_g0 hb51 k68
    have hz20 := hb61.size
    rintro _ rfl _ rfl
    refine op1 (s_storeP (o := 1) row31 rfl rfl ((((((((((((hB.g0 k1).g0 k2).g0 k7).g0 k30).gne k31 (by omega)).gne k32 (by omega)).g0 k35).g0 k54).gne k55 (by omega)).gne k56 (by omega)).g0 k58).g0 k68) (by simp only [List.all_cons, List.all_nil, hS11.one, Bool.and_true, Bool.and_self] <;> rfl) rfl rfl (of_decide_eq_true rfl) ?_)
    intro w69 hB14 k69 hs15
    change Blk w69 g 72 [.bool s.some, .bool (decide ((if (t.fx + a) < s.fx then (t.fx + a) else s.fx) < 0)), v11, .bool (decide (s.fy < 0)), ufy, .bool (decide (s.tx < 0)), utx, .bool (decide (s.ty < 0)), uty].toArray at hB14
    exact ⟨hB14, k69⟩
  · intro w70 k70
    have hb63 := below_g hb51 k70 (by first | omega | (have h9 := (hb51).size; omega))
    have hz21 := hb63.size
    rintro _ rfl
    refine op1 (s_nilp rfl ?_)
    exact ⟨rfl, grown_none_refl _⟩
  · intro w71 k71
    have hb64 := below_g hb51 k71 (by first | omega | (have h9 := (hb51).size; omega))
    have hz22 := hb64.size
    rintro _ rfl
    refine op1 (s_faddr fld72_2 rfl ?_)
    exact ⟨rfl, grown_none_refl _⟩
  · intro w72 k72
    have hb65 := below_g hb51 k72 (by first | omega | (have h9 := (hb51).size; omega))
    have hz23 := hb65.size
    rintro _ rfl _ rfl
    refine op1 (s_iaddr arr70 rfl rfl (by omega) (by omega) ?_)
    exact ⟨rfl, grown_none_refl _⟩
  rintro w73 k73 _ rfl _ rfl _ rfl _ rfl _ rfl _ rfl _ rfl _ rfl _ rfl v_ hB15 _ rfl _ rfl _ rfl
  have hb66 := below_g hb51 k73 (by first | omega | (have h9 := (hb51).size; omega))
  have hz24 := hb66.size
  refine st0 (s_storeP (o := 5) row31 rfl rfl hB15 (by simp only [List.all_cons, List.all_nil, hS12.one, Bool.and_true, Bool.and_self] <;> rfl) rfl rfl (of_decide_eq_true rfl) ?_)
  intro w74 hB16 k74 hs16
  change Blk w74 g 72 [.bool s.some, .bool (decide ((if (t.fx + a) < s.fx then (t.fx + a) else s.fx) < 0)), v11, .bool (decide (s.fy < 0)), ufy, .bool (decide ((if s.tx < (t.tx + a) then (t.tx + a) else s.tx) < 0)), v12, .bool (decide (s.ty < 0)), uty].toArray at hB16
  have hb67 := below_g hb66 k74 (by first | omega | (have h9 := (hb66).size; omega))
  refine r_end (n_block (n_then (w_region (st (s_addl (c := 1) rfl rfl rfl (by decide) (st (s_move rfl (r_end ?_))))))))
  refine n_again (w_seq (w_region (st (s_lt rfl rfl ?_))))
  rw [show decide ((1 : Int) < 2) = true from rfl]
  refine r_end (n_then (w_seq (w_condT rfl (w_skip' (n_then (w_seq ?_))))))
  refine w_block (w_seq (w_region (st (s_move rfl (st (s_assign rfl (r_end (n_then ?_))))))))
  refine w_seq ?_
  have hlt_30 := (hB16).lt
  have hlt_31 := (((((((((((((hB1.g0 k2).g0 k7).g0 k30).gne k31 (by omega)).gne k32 (by omega)).g0 k35).g0 k54).gne k55 (by omega)).gne k56 (by omega)).g0 k58).gne k73 (by omega)).gne k74 (by omega))).lt
  have hlt_32 := ((((((((((((hB2.g0 k7).g0 k30).gne k31 (by omega)).gne k32 (by omega)).g0 k35).g0 k54).gne k55 (by omega)).gne k56 (by omega)).g0 k58).gne k73 (by omega)).gne k74 (by omega))).lt
  have hlt_33 := (((((hB11.gne k56 (by omega)).g0 k58).gne k73 (by omega)).gne k74 (by omega))).lt
  have hlt_34 := ((((hB12.g0 k58).gne k73 (by omega)).gne k74 (by omega))).lt
  refine w_drawF 18 (fun a b => a.grownBy b none) [(some 15, Is <| .int .i64 1), (some 16, Is <| .pointer (some ⟨g1, 0 + 1, none⟩)), (some 17, Is <| .pointer (some ⟨g1, 0 + 1 + (1 : Int).toNat * 2, none⟩)), (some 18, Is <| .agg [.bool (decide (t.fy < 0)), vfy].toArray), (some 19, Is <| .int .i64 1), (some 20, Is <| .pointer (some ⟨g2, 0 + (1 : Int).toNat * 2, none⟩)), (some 21, Is <| .agg [.bool (decide (b < 0)), pb].toArray), (some 22, fun v W => IsBig 83 n0 W v ((t.fy + b))), (some 23, Is <| .int .i64 1), (some 24, Is <| .pointer (some ⟨g1, 0 + 5, none⟩)), (some 25, Is <| .pointer (some ⟨g1, 0 + 5 + (1 : Int).toNat * 2, none⟩)), (some 26, Is <| .agg [.bool (decide (t.ty < 0)), vty].toArray), (some 27, Is <| .int .i64 1), (some 28, Is <| .pointer (some ⟨g2, 0 + (1 : Int).toNat * 2, none⟩)), (some 29, Is <| .agg [.bool (decide (b < 0)), pb].toArray), (some 30, fun v W => IsBig 83 n0 W v ((t.ty + b))), (some 7, fun v W => ∃ g, v = .pointer (some ⟨g, 0, none⟩) ∧ Blk W g 31 #[.bool false, .slice none 0 0] ∧ w74.heap.size ≤ g), (some 8, fun v W => ∃ g, v = .pointer (some ⟨g, 0, none⟩) ∧ Blk W g 31 #[.bool false, .slice none 0 0] ∧ w74.heap.size ≤ g)] [[], [], [0, 1], [2], [], [4], [5], [3, 6], [], [], [8, 9], [10], [], [12], [13], [11, 14], [], []] [false, false, false, false, false, false, false, false, false, false, false, false, false, false, false, false, true, true] [(0, .pointer (some ⟨g, 0, none⟩)), (4, .pointer (some ⟨g1, 0, none⟩)), (5, .pointer (some ⟨g2, 0, none⟩)), (6, .int .i64 1), (12, .int .i64 1), (13, .bool true), (14, .int .i64 1), (31, .pointer (some ⟨g, 0, none⟩)), (32, .pointer (some ⟨g, 0, none⟩)), (33, .pointer (some ⟨g, 0 + 0, none⟩)), (34, .bool s.some), (35, .pointer (some ⟨g, 0, none⟩)), (36, .int .i64 0), (37, .pointer (some ⟨g, 0, none⟩)), (38, .pointer (some ⟨g, 0 + 1, none⟩)), (39, .pointer (some ⟨g, 0 + 1 + (0 : Int).toNat * 2, none⟩)), (40, .agg [.bool (decide (s.fx < 0)), ufx].toArray), (41, .agg [.bool (decide ((t.fx + a) < 0)), v5].toArray), (42, .agg [.bool (decide ((if (t.fx + a) < s.fx then (t.fx + a) else s.fx) < 0)), v11].toArray), (43, .pointer (some ⟨g, 0, none⟩)), (44, .int .i64 0), (45, .pointer (some ⟨g, 0, none⟩)), (46, .pointer (some ⟨g, 0 + 5, none⟩)), (47, .pointer (some ⟨g, 0 + 5 + (0 : Int).toNat * 2, none⟩)), (48, .agg [.bool (decide (s.tx < 0)), utx].toArray), (49, .agg [.bool (decide ((t.tx + a) < 0)), v6].toArray), (50, .agg [.bool (decide ((if s.tx < (t.tx + a) then (t.tx + a) else s.tx) < 0)), v12].toArray), (51, .pointer (some ⟨g, 0, none⟩)), (52, .int .i64 0), (53, .pointer (some ⟨g, 0, none⟩)), (54, .int .i64 0), (55, .agg [.bool (decide ((if (t.fx + a) < s.fx then (t.fx + a) else s.fx) < 0)), v11].toArray), (56, .agg [.bool (decide ((if s.tx < (t.tx + a) then (t.tx + a) else s.tx) < 0)), v12].toArray), (57, .pointer (some ⟨g, 0, none⟩)), (58, .pointer (some ⟨g, 0 + 1, none⟩)), (59, .pointer (some ⟨g, 0 + 1 + (0 : Int).toNat * 2, none⟩)), (60, .pointer (some ⟨g, 0, none⟩)), (61, .pointer (some ⟨g, 0 + 5, none⟩)), (62, .pointer (some ⟨g, 0 + 5 + (0 : Int).toNat * 2, none⟩)), (63, .int .i64 1)] (by exact ⟨rfl, rfl, rfl, rfl, rfl, rfl, rfl, rfl, rfl, rfl, rfl, rfl, rfl, rfl, rfl, rfl, rfl, rfl, rfl, rfl, rfl, rfl, rfl, rfl, rfl, rfl, rfl, rfl, rfl, rfl, rfl, rfl, rfl, rfl, rfl, rfl, rfl, rfl, rfl, rfl, trivial⟩) (by kernel_rfl) (by kernel_rfl) grown_none_refl (fun _ _ _ => grown_none_trans) ⟨kv, kv, kv, kv, kv, kv, kv, fun _ _ _ h k => h.g0 k, kv, kv, kv, kv, kv, kv, kv, fun _ _ _ h k => h.g0 k, fun _ _ _ h k => by obtain ⟨g, e, hB, hg⟩ := h; exact ⟨g, e, hB.g0 k, hg⟩, fun _ _ _ h k => by obtain ⟨g, e, hB, hg⟩ := h; exact ⟨g, e, hB.g0 k, hg⟩, trivial⟩ ⟨(fun h => by cases h), (fun h => by cases h), (fun h => by cases h), (fun h => by cases h), (fun h => by cases h), (fun h => by cases h), (fun h => by cases h), (fun h => by cases h), (fun h => by cases h), (fun h => by cases h), (fun h => by cases h), (fun h => by cases h), (fun h => by cases h), (fun h => by cases h), (fun h => by cases h), (fun h => by cases h), fun _ _ _ ⟨g, e, hB, _⟩ => ⟨g, e, hB.lt⟩, fun _ _ _ ⟨g, e, hB, _⟩ => ⟨g, e, hB.lt⟩, trivial⟩ ?_
  intro w79 k79 hs19
  have hb68 := below_g0 hb67 k79
  refine ⟨⟨?_, ?_, ?_, ?_, ?_, ?_, ?_, ?_, ?_, ?_, ?_, ?_, ?_, ?_, ?_, ?_, ?_, ?_, trivial⟩, ?_⟩
  · intro w80 k80
    refine op1 (s_move rfl ?_)
    exact ⟨rfl, grown_none_refl _, fun h => by cases h⟩
  · intro w81 k81
    refine op1 (s_faddr fld72_1 rfl ?_)
    exact ⟨rfl, grown_none_refl _, fun h => by cases h⟩
  · intro w82 k82
    rintro _ rfl _ rfl
    refine op1 (s_iaddr arr70 rfl rfl (by omega) (by omega) ?_)
    exact ⟨rfl, grown_none_refl _, fun h => by cases h⟩
  · intro w83 k83
    rintro _ rfl
    refine op1 (s_loadN (us := [.bool (decide (t.fy < 0)), vfy]) row31 rfl ((((((((((((((hB1.g0 k2).g0 k7).g0 k30).gne k31 (by omega)).gne k32 (by omega)).g0 k35).g0 k54).gne k55 (by omega)).gne k56 (by omega)).g0 k58).gne k73 (by omega)).gne k74 (by omega)).g0 k79).g0 k83).range (j := 3) rfl rfl ?_)
    exact ⟨rfl, grown_none_refl _, fun h => by cases h⟩
  · intro w84 k84
    refine op1 (s_move rfl ?_)
    exact ⟨rfl, grown_none_refl _, fun h => by cases h⟩
  · intro w85 k85
    rintro _ rfl
    refine op1 (s_iaddr arr70 rfl rfl (by omega) (by omega) ?_)
    exact ⟨rfl, grown_none_refl _, fun h => by cases h⟩
  · intro w86 k86
    rintro _ rfl
    refine op1 (s_loadN (us := [.bool (decide (b < 0)), pb]) row31 rfl (((((((((((((hB2.g0 k7).g0 k30).gne k31 (by omega)).gne k32 (by omega)).g0 k35).g0 k54).gne k55 (by omega)).gne k56 (by omega)).g0 k58).gne k73 (by omega)).gne k74 (by omega)).g0 k79).g0 k86).range (j := 2) rfl rfl ?_)
    exact ⟨rfl, grown_none_refl _, fun h => by cases h⟩
  · intro w87 k87
    have hb76 := below_g0 hb68 k87
    rintro _ rfl _ rfl
    refine op1 (s_call fn78 rfl (badd_any (n0 := n0) (below_n0 hn0 hb76) (big_of rfl (((((((((((((((hvfy.gg0 k1).gg0 k2).gg0 k7).gg0 k30).ggB k31 hB7 (by decide) (by omega)).ggB k32 (hB8.gne k31 (by omega)) (by decide) (by omega)).gg0 k35).gg0 k54).ggB k55 (((hB9.gne k32 (by omega)).g0 k35).g0 k54) (by decide) (by omega)).ggB k56 (((hB10.g0 k35).g0 k54).gne k55 (by omega)) (by decide) (by omega)).gg0 k58).ggB k73 (((((((((((hB.g0 k1).g0 k2).g0 k7).g0 k30).gne k31 (by omega)).gne k32 (by omega)).g0 k35).g0 k54).gne k55 (by omega)).gne k56 (by omega)).g0 k58) (by decide) (by omega)).ggB k74 hB15 (by decide) (by omega)).gg0 k79).gg0 k87)) (big_of rfl (((((((((((((((hpb.gg0 k1).gg0 k2).gg0 k7).gg0 k30).ggB k31 hB7 (by decide) (by omega)).ggB k32 (hB8.gne k31 (by omega)) (by decide) (by omega)).gg0 k35).gg0 k54).ggB k55 (((hB9.gne k32 (by omega)).g0 k35).g0 k54) (by decide) (by omega)).ggB k56 (((hB10.g0 k35).g0 k54).gne k55 (by omega)) (by decide) (by omega)).gg0 k58).ggB k73 (((((((((((hB.g0 k1).g0 k2).g0 k7).g0 k30).gne k31 (by omega)).gne k32 (by omega)).g0 k35).g0 k54).gne k55 (by omega)).gne k56 (by omega)).g0 k58) (by decide) (by omega)).ggB k74 hB15 (by decide) (by omega)).gg0 k79).gg0 k87)) (Bd.le htb.fy (show 43 ≤ 90000 by decide)) (Bd.le hbb (show 43 ≤ 90000 by decide))) ?_)
    rintro _ w88 ⟨hq11, v15, rfl, hS15⟩
    have k88 := grown_of_below hq11 none
    have hz25 := hq11.size
    have hb77 := below_g0 hb76 k88
    have hz26 := hb77.size
    exact ⟨⟨_, rfl, hS15⟩, k88, fun h => by cases h⟩
  · intro w89 k89
    refine op1 (s_move rfl ?_)
    exact ⟨rfl, grown_none_refl _, fun h => by cases h⟩
  · intro w90 k90
    refine op1 (s_faddr fld72_2 rfl ?_)
    exact ⟨rfl, grown_none_refl _, fun h => by cases h⟩
  · intro w91 k91
    rintro _ rfl _ rfl
    refine op1 (s_iaddr arr70 rfl rfl (by omega) (by omega) ?_)
    exact ⟨rfl, grown_none_refl _, fun h => by cases h⟩
  · intro w92 k92
    rintro _ rfl
    refine op1 (s_loadN (us := [.bool (decide (t.ty < 0)), vty]) row31 rfl ((((((((((((((hB1.g0 k2).g0 k7).g0 k30).gne k31 (by omega)).gne k32 (by omega)).g0 k35).g0 k54).gne k55 (by omega)).gne k56 (by omega)).g0 k58).gne k73 (by omega)).gne k74 (by omega)).g0 k79).g0 k92).range (j := 7) rfl rfl ?_)
    exact ⟨rfl, grown_none_refl _, fun h => by cases h⟩
  · intro w93 k93
    refine op1 (s_move rfl ?_)
    exact ⟨rfl, grown_none_refl _, fun h => by cases h⟩
  · intro w94 k94
    rintro _ rfl
    refine op1 (s_iaddr arr70 rfl rfl (by omega) (by omega) ?_)
    exact ⟨rfl, grown_none_refl _, fun h => by cases h⟩
  · intro w95 k95
    rintro _ rfl
    refine op1 (s_loadN (us := [.bool (decide (b < 0)), pb]) row31 rfl (((((((((((((hB2.g0 k7).g0 k30).gne k31 (by omega)).gne k32 (by omega)).g0 k35).g0 k54).gne k55 (by omega)).gne k56 (by omega)).g0 k58).gne k73 (by omega)).gne k74 (by omega)).g0 k79).g0 k95).range (j := 2) rfl rfl ?_)
    exact ⟨rfl, grown_none_refl _, fun h => by cases h⟩
  · intro w96 k96
    have hb85 := below_g0 hb68 k96
    rintro _ rfl _ rfl
    refine op1 (s_call fn78 rfl (badd_any (n0 := n0) (below_n0 hn0 hb85) (big_of rfl (((((((((((((((hvty.gg0 k1).gg0 k2).gg0 k7).gg0 k30).ggB k31 hB7 (by decide) (by omega)).ggB k32 (hB8.gne k31 (by omega)) (by decide) (by omega)).gg0 k35).gg0 k54).ggB k55 (((hB9.gne k32 (by omega)).g0 k35).g0 k54) (by decide) (by omega)).ggB k56 (((hB10.g0 k35).g0 k54).gne k55 (by omega)) (by decide) (by omega)).gg0 k58).ggB k73 (((((((((((hB.g0 k1).g0 k2).g0 k7).g0 k30).gne k31 (by omega)).gne k32 (by omega)).g0 k35).g0 k54).gne k55 (by omega)).gne k56 (by omega)).g0 k58) (by decide) (by omega)).ggB k74 hB15 (by decide) (by omega)).gg0 k79).gg0 k96)) (big_of rfl (((((((((((((((hpb.gg0 k1).gg0 k2).gg0 k7).gg0 k30).ggB k31 hB7 (by decide) (by omega)).ggB k32 (hB8.gne k31 (by omega)) (by decide) (by omega)).gg0 k35).gg0 k54).ggB k55 (((hB9.gne k32 (by omega)).g0 k35).g0 k54) (by decide) (by omega)).ggB k56 (((hB10.g0 k35).g0 k54).gne k55 (by omega)) (by decide) (by omega)).gg0 k58).ggB k73 (((((((((((hB.g0 k1).g0 k2).g0 k7).g0 k30).gne k31 (by omega)).gne k32 (by omega)).g0 k35).g0 k54).gne k55 (by omega)).gne k56 (by omega)).g0 k58) (by decide) (by omega)).ggB k74 hB15 (by decide) (by omega)).gg0 k79).gg0 k96)) (Bd.le htb.ty (show 43 ≤ 90000 by decide)) (Bd.le hbb (show 43 ≤ 90000 by decide))) ?_)
    rintro _ w97 ⟨hq12, v16, rfl, hS16⟩
    have k97 := grown_of_below hq12 none
    have hz27 := hq12.size
    have hb86 := below_g0 hb85 k97
    have hz28 := hb86.size
    exact ⟨⟨_, rfl, hS16⟩, k97, fun h => by cases h⟩
  · intro w98 k98
    have hb87 := below_g0 hb68 k98
    have hlt_35 := (((hB16.g0 k79).g0 k98)).lt
    have hlt_36 := (((((((((((((((hB1.g0 k2).g0 k7).g0 k30).gne k31 (by omega)).gne k32 (by omega)).g0 k35).g0 k54).gne k55 (by omega)).gne k56 (by omega)).g0 k58).gne k73 (by omega)).gne k74 (by omega)).g0 k79).g0 k98)).lt
    have hlt_37 := ((((((((((((((hB2.g0 k7).g0 k30).gne k31 (by omega)).gne k32 (by omega)).g0 k35).g0 k54).gne k55 (by omega)).gne k56 (by omega)).g0 k58).gne k73 (by omega)).gne k74 (by omega)).g0 k79).g0 k98)).lt
    have hlt_38 := (((((((hB11.gne k56 (by omega)).g0 k58).gne k73 (by omega)).gne k74 (by omega)).g0 k79).g0 k98)).lt
    have hlt_39 := ((((((hB12.g0 k58).gne k73 (by omega)).gne k74 (by omega)).g0 k79).g0 k98)).lt
    refine op1 (s_alloc zero31 ?_)
    intro g11 w99 hg11 hB19 k99 hs20
    have hz29 := hb87.size
    exact ⟨⟨_, rfl, hB19, by have h0_ := k79.size; have h1_ := k98.size; have h2_ := k99.size; omega⟩, k99, fun _ => ⟨_, rfl, by omega⟩⟩
  · intro w100 k100
    have hb89 := below_g0 hb68 k100
    have hlt_40 := (((hB16.g0 k79).g0 k100)).lt
    have hlt_41 := (((((((((((((((hB1.g0 k2).g0 k7).g0 k30).gne k31 (by omega)).gne k32 (by omega)).g0 k35).g0 k54).gne k55 (by omega)).gne k56 (by omega)).g0 k58).gne k73 (by omega)).gne k74 (by omega)).g0 k79).g0 k100)).lt
    have hlt_42 := ((((((((((((((hB2.g0 k7).g0 k30).gne k31 (by omega)).gne k32 (by omega)).g0 k35).g0 k54).gne k55 (by omega)).gne k56 (by omega)).g0 k58).gne k73 (by omega)).gne k74 (by omega)).g0 k79).g0 k100)).lt
    have hlt_43 := (((((((hB11.gne k56 (by omega)).g0 k58).gne k73 (by omega)).gne k74 (by omega)).g0 k79).g0 k100)).lt
    have hlt_44 := ((((((hB12.g0 k58).gne k73 (by omega)).gne k74 (by omega)).g0 k79).g0 k100)).lt
    refine op1 (s_alloc zero31 ?_)
    intro g12 w101 hg12 hB20 k101 hs21
    have hz30 := hb89.size
    exact ⟨⟨_, rfl, hB20, by have h0_ := k79.size; have h1_ := k100.size; have h2_ := k101.size; omega⟩, k101, fun _ => ⟨_, rfl, by omega⟩⟩
  intro w102 k102
  have hb91 := below_g0 hb68 k102
  rintro _ rfl _ rfl _ rfl _ rfl _ rfl _ rfl _ rfl _ ⟨v17, rfl, hS17⟩ _ rfl _ rfl _ rfl _ rfl _ rfl _ rfl _ rfl _ ⟨v18, rfl, hS18⟩ _ ⟨g13, rfl, hB21, hg13⟩
  have hlt_45 := hB21.lt
  rintro hnf3 _ ⟨g14, rfl, hB22, hg14⟩
  have hlt_46 := hB22.lt
  intro hnf4
  have hne2 : g13 ≠ g14 := fresh_ne (hnf4 _ (by simp))
  refine st0 (s_storeN row31 rfl rfl hB21 (by simp only [List.all_cons, List.all_nil, hS17.one, Bool.and_true, Bool.and_self] <;> rfl) rfl rfl ?_)
  intro w103 hB23 k103 hs22
  have hb92 := below_g hb91 k103 (by first | omega | (have h9 := (hb91).size; omega))
  refine st0 (s_storeN row31 rfl rfl (hB22.gne k103 (by omega)) (by simp only [List.all_cons, List.all_nil, hS18.one, Bool.and_true, Bool.and_self] <;> rfl) rfl rfl ?_)
  intro w104 hB24 k104 hs23
  have hb93 := below_g hb92 k104 (by first | omega | (have h9 := (hb92).size; omega))
  refine r_end (n_then (w_seq (w_seq (w_region (st (s_move rfl (st (s_nilp rfl ?_))))))))
  refine st (s_faddr fld72_0 rfl (st (s_load one4 rfl ((((hB16.g0 k79).g0 k102).gne k103 (by omega)).gne k104 (by omega)).range (j := 0) rfl (r_end (n_then ?_)))))
  refine w_cond rfl (fun h3 => ?_) (fun h3 => absurd (hso.symm.trans h3) (by decide))
  refine w_drawT 16 (fun a b => a.grownBy b none) [(some 35, Is <| .pointer (some ⟨g, 0, none⟩)), (some 36, Is <| .int .i64 1), (some 37, Is <| .pointer (some ⟨g, 0, none⟩)), (some 38, Is <| .pointer (some ⟨g, 0 + 1, none⟩)), (some 39, Is <| .pointer (some ⟨g, 0 + 1 + (1 : Int).toNat * 2, none⟩)), (some 40, Is <| .agg [.bool (decide (s.fy < 0)), ufy].toArray), (some 41, Is <| .agg [.bool (decide ((t.fy + b) < 0)), v17].toArray), (some 42, fun v W => IsBig 83 n0 W v ((if (t.fy + b) < s.fy then (t.fy + b) else s.fy))), (some 43, Is <| .pointer (some ⟨g, 0, none⟩)), (some 44, Is <| .int .i64 1), (some 45, Is <| .pointer (some ⟨g, 0, none⟩)), (some 46, Is <| .pointer (some ⟨g, 0 + 5, none⟩)), (some 47, Is <| .pointer (some ⟨g, 0 + 5 + (1 : Int).toNat * 2, none⟩)), (some 48, Is <| .agg [.bool (decide (s.ty < 0)), uty].toArray), (some 49, Is <| .agg [.bool (decide ((t.ty + b) < 0)), v18].toArray), (some 50, fun v W => IsBig 83 n0 W v ((if s.ty < (t.ty + b) then (t.ty + b) else s.ty)))] [[], [], [0], [2], [1, 3], [4], [], [5, 6], [], [], [8], [10], [9, 11], [12], [], [13, 14]] [(0, .pointer (some ⟨g, 0, none⟩)), (4, .pointer (some ⟨g1, 0, none⟩)), (5, .pointer (some ⟨g2, 0, none⟩)), (6, .int .i64 1), (7, .pointer (some ⟨g13, 0, none⟩)), (8, .pointer (some ⟨g14, 0, none⟩)), (12, .int .i64 1), (13, .bool true), (14, .int .i64 1), (15, .int .i64 1), (16, .pointer (some ⟨g1, 0 + 1, none⟩)), (17, .pointer (some ⟨g1, 0 + 1 + (1 : Int).toNat * 2, none⟩)), (18, .agg [.bool (decide (t.fy < 0)), vfy].toArray), (19, .int .i64 1), (20, .pointer (some ⟨g2, 0 + (1 : Int).toNat * 2, none⟩)), (21, .agg [.bool (decide (b < 0)), pb].toArray), (22, .agg [.bool (decide ((t.fy + b) < 0)), v17].toArray), (23, .int .i64 1), (24, .pointer (some ⟨g1, 0 + 5, none⟩)), (25, .pointer (some ⟨g1, 0 + 5 + (1 : Int).toNat * 2, none⟩)), (26, .agg [.bool (decide (t.ty < 0)), vty].toArray), (27, .int .i64 1), (28, .pointer (some ⟨g2, 0 + (1 : Int).toNat * 2, none⟩)), (29, .agg [.bool (decide (b < 0)), pb].toArray), (30, .agg [.bool (decide ((t.ty + b) < 0)), v18].toArray), (31, .pointer (some ⟨g, 0, none⟩)), (32, .pointer (some ⟨g, 0, none⟩)), (33, .pointer (some ⟨g, 0 + 0, none⟩)), (34, .bool s.some), (51, .pointer (some ⟨g, 0, none⟩)), (52, .int .i64 0), (53, .pointer (some ⟨g, 0, none⟩)), (54, .int .i64 0), (55, .agg [.bool (decide ((if (t.fx + a) < s.fx then (t.fx + a) else s.fx) < 0)), v11].toArray), (56, .agg [.bool (decide ((if s.tx < (t.tx + a) then (t.tx + a) else s.tx) < 0)), v12].toArray), (57, .pointer (some ⟨g, 0, none⟩)), (58, .pointer (some ⟨g, 0 + 1, none⟩)), (59, .pointer (some ⟨g, 0 + 1 + (0 : Int).toNat * 2, none⟩)), (60, .pointer (some ⟨g, 0, none⟩)), (61, .pointer (some ⟨g, 0 + 5, none⟩)), (62, .pointer (some ⟨g, 0 + 5 + (0 : Int).toNat * 2, none⟩)), (63, .int .i64 1)] (by exact ⟨rfl, rfl, rfl, rfl, rfl, rfl, rfl, rfl, rfl, rfl, rfl, rfl, rfl, rfl, rfl, rfl, rfl, rfl, rfl, rfl, rfl, rfl, rfl, rfl, rfl, rfl, rfl, rfl, rfl, rfl, rfl, rfl, rfl, rfl, rfl, rfl, rfl, rfl, rfl, rfl, rfl, rfl, trivial⟩) (by kernel_rfl) (by kernel_rfl) grown_none_refl (fun _ _ _ => grown_none_trans) ⟨kv, kv, kv, kv, kv, kv, kv, fun _ _ _ h k => h.g0 k, kv, kv, kv, kv, kv, kv, kv, fun _ _ _ h k => h.g0 k, trivial⟩ ?_
  intro w107 k107 hs24
  have hb94 := below_g0 hb93 k107
  refine ⟨⟨?_, ?_, ?_, ?_, ?_, ?_, ?_, ?_, ?_, ?_, ?_, ?_, ?_, ?_, ?_, ?_, trivial⟩, ?_⟩
  · intro w108 k108
    refine op1 (s_move rfl ?_)
    exact ⟨rfl, grown_none_refl _⟩
  · intro w109 k109
    refine op1 (s_move rfl ?_)
    exact ⟨rfl, grown_none_refl _⟩
  · intro w110 k110
    rintro _ rfl
    refine op1 (s_nilp rfl ?_)
    exact ⟨rfl, grown_none_refl _⟩
  · intro w111 k111
    rintro _ rfl
    refine op1 (s_faddr fld72_1 rfl ?_)
    exact ⟨rfl, grown_none_refl _⟩
  · intro w112 k112
    rintro _ rfl _ rfl
    refine op1 (s_iaddr arr70 rfl rfl (by omega) (by omega) ?_)
    exact ⟨rfl, grown_none_refl _⟩
  · intro w113 k113
    rintro _ rfl
    refine op1 (s_loadN (us := [.bool (decide (s.fy < 0)), ufy]) row31 rfl ((((((hB16.g0 k79).g0 k102).gne k103 (by omega)).gne k104 (by omega)).g0 k107).g0 k113).range (j := 3) rfl rfl ?_)
    exact ⟨rfl, grown_none_refl _⟩
  · intro w114 k114
    refine op1 (s_loadW row31 rfl (((hB23.gne k104 (by omega)).g0 k107).g0 k114).range rfl ?_)
    exact ⟨rfl, grown_none_refl _⟩
  · intro w115 k115
    have hb102 := below_g0 hb94 k115
    rintro _ rfl _ rfl
    refine op1 (s_call fn96 rfl (least_any (n0 := n0) (below_n0 hn0 hb102) (big_of rfl (((((((((((((((((((hufy.gg0 k1).gg0 k2).gg0 k7).gg0 k30).ggB k31 hB7 (by decide) (by omega)).ggB k32 (hB8.gne k31 (by omega)) (by decide) (by omega)).gg0 k35).gg0 k54).ggB k55 (((hB9.gne k32 (by omega)).g0 k35).g0 k54) (by decide) (by omega)).ggB k56 (((hB10.g0 k35).g0 k54).gne k55 (by omega)) (by decide) (by omega)).gg0 k58).ggB k73 (((((((((((hB.g0 k1).g0 k2).g0 k7).g0 k30).gne k31 (by omega)).gne k32 (by omega)).g0 k35).g0 k54).gne k55 (by omega)).gne k56 (by omega)).g0 k58) (by decide) (by omega)).ggB k74 hB15 (by decide) (by omega)).gg0 k79).gg0 k102).ggB k103 hB21 (by decide) (by omega)).ggB k104 (hB22.gne k103 (by omega)) (by decide) (by omega)).gg0 k107).gg0 k115)) (big_of rfl ((((hS17.ggB k103 hB21 (by decide) (by omega)).ggB k104 (hB22.gne k103 (by omega)) (by decide) (by omega)).gg0 k107).gg0 k115))) ?_)
    rintro _ w116 ⟨hq15, v21, rfl, hS21⟩
    have k116 := grown_of_below hq15 none
    have hz31 := hq15.size
    have hb103 := below_g0 hb102 k116
    have hz32 := hb103.size
    exact ⟨⟨_, rfl, hS21⟩, k116⟩
  · intro w117 k117
    refine op1 (s_move rfl ?_)
    exact ⟨rfl, grown_none_refl _⟩
  · intro w118 k118
    refine op1 (s_move rfl ?_)
    exact ⟨rfl, grown_none_refl _⟩
  · intro w119 k119
    rintro _ rfl
    refine op1 (s_nilp rfl ?_)
    exact ⟨rfl, grown_none_refl _⟩
  · intro w120 k120
    rintro _ rfl
    refine op1 (s_faddr fld72_2 rfl ?_)
    exact ⟨rfl, grown_none_refl _⟩
  · intro w121 k121
    rintro _ rfl _ rfl
    refine op1 (s_iaddr arr70 rfl rfl (by omega) (by omega) ?_)
    exact ⟨rfl, grown_none_refl _⟩
  · intro w122 k122
    rintro _ rfl
    refine op1 (s_loadN (us := [.bool (decide (s.ty < 0)), uty]) row31 rfl ((((((hB16.g0 k79).g0 k102).gne k103 (by omega)).gne k104 (by omega)).g0 k107).g0 k122).range (j := 7) rfl rfl ?_)
    exact ⟨rfl, grown_none_refl _⟩
  · intro w123 k123
    refine op1 (s_loadW row31 rfl ((hB24.g0 k107).g0 k123).range rfl ?_)
    exact ⟨rfl, grown_none_refl _⟩
  · intro w124 k124
    have hb111 := below_g0 hb94 k124
    rintro _ rfl _ rfl
    refine op1 (s_call fn97 rfl (greatest_any (n0 := n0) (below_n0 hn0 hb111) (big_of rfl (((((((((((((((((((huty.gg0 k1).gg0 k2).gg0 k7).gg0 k30).ggB k31 hB7 (by decide) (by omega)).ggB k32 (hB8.gne k31 (by omega)) (by decide) (by omega)).gg0 k35).gg0 k54).ggB k55 (((hB9.gne k32 (by omega)).g0 k35).g0 k54) (by decide) (by omega)).ggB k56 (((hB10.g0 k35).g0 k54).gne k55 (by omega)) (by decide) (by omega)).gg0 k58).ggB k73 (((((((((((hB.g0 k1).g0 k2).g0 k7).g0 k30).gne k31 (by omega)).gne k32 (by omega)).g0 k35).g0 k54).gne k55 (by omega)).gne k56 (by omega)).g0 k58) (by decide) (by omega)).ggB k74 hB15 (by decide) (by omega)).gg0 k79).gg0 k102).ggB k103 hB21 (by decide) (by omega)).ggB k104 (hB22.gne k103 (by omega)) (by decide) (by omega)).gg0 k107).gg0 k124)) (big_of rfl ((((hS18.ggB k103 hB21 (by decide) (by omega)).ggB k104 (hB22.gne k103 (by omega)) (by decide) (by omega)).gg0 k107).gg0 k124))) ?_)
    rintro _ w125 ⟨hq16, v22, rfl, hS22⟩
    have k125 := grown_of_below hq16 none
    have hz33 := hq16.size
    have hb112 := below_g0 hb111 k125
    have hz34 := hb112.size
    exact ⟨⟨_, rfl, hS22⟩, k125⟩
  intro w126 k126
  have hb113 := below_g0 hb94 k126
  rintro _ rfl _ rfl _ rfl _ rfl _ rfl _ rfl _ rfl _ ⟨v23, rfl, hS23⟩ _ rfl _ rfl _ rfl _ rfl _ rfl _ rfl _ rfl _ ⟨v24, rfl, hS24⟩
  refine st0 (s_storeN row31 rfl rfl (((hB23.gne k104 (by omega)).g0 k107).g0 k126) (by simp only [List.all_cons, List.all_nil, hS23.one, Bool.and_true, Bool.and_self] <;> rfl) rfl rfl ?_)
  intro w127 hB25 k127 hs25
  have hb114 := below_g hb113 k127 (by first | omega | (have h9 := (hb113).size; omega))
  refine st0 (s_storeN row31 rfl rfl (((hB24.g0 k107).g0 k126).gne k127 (by omega)) (by simp only [List.all_cons, List.all_nil, hS24.one, Bool.and_true, Bool.and_self] <;> rfl) rfl rfl ?_)
  intro w128 hB26 k128 hs26
  have hb115 := below_g hb114 k128 (by first | omega | (have h9 := (hb114).size; omega))
  refine r_end (n_then ?_)
  refine w_drawDT 13 (fun a b => a.grownBy b (some g)) (fun a b => a.grownBy b none) (fun a b => a.grownBy b (some g)) [(some 51, Is <| .pointer (some ⟨g, 0, none⟩)), (some 52, Is <| .int .i64 1), (some 53, Is <| .pointer (some ⟨g, 0, none⟩)), (some 54, Is <| .int .i64 1), (some 55, Is <| .agg [.bool (decide ((if (t.fy + b) < s.fy then (t.fy + b) else s.fy) < 0)), v23].toArray), (some 56, Is <| .agg [.bool (decide ((if s.ty < (t.ty + b) then (t.ty + b) else s.ty) < 0)), v24].toArray), (some 57, Is <| .pointer (some ⟨g, 0, none⟩)), (some 58, Is <| .pointer (some ⟨g, 0 + 1, none⟩)), (some 59, Is <| .pointer (some ⟨g, 0 + 1 + (1 : Int).toNat * 2, none⟩)), (none, fun _ W => Blk W g 72 ([.bool s.some, .bool (decide ((if (t.fx + a) < s.fx then (t.fx + a) else s.fx) < 0)), v11, .bool (decide ((if (t.fy + b) < s.fy then (t.fy + b) else s.fy) < 0)), v23, .bool (decide ((if s.tx < (t.tx + a) then (t.tx + a) else s.tx) < 0)), v12, .bool (decide (s.ty < 0)), uty] : List Value).toArray), (some 60, Is <| .pointer (some ⟨g, 0, none⟩)), (some 61, Is <| .pointer (some ⟨g, 0 + 5, none⟩)), (some 62, Is <| .pointer (some ⟨g, 0 + 5 + (1 : Int).toNat * 2, none⟩))] [[], [], [], [], [], [], [0], [6], [1, 7], [4, 8], [2], [10], [3, 11]] [[], [], [], [], [], [], [0], [0, 6], [0, 1, 4, 6, 7], [0, 1, 4, 6, 7, 8], [2], [2, 10], [0, 1, 2, 3, 4, 5, 6, 7, 8, 9, 10, 11]] [[], [], [], [], [], [], [], [], [], [], [], [], []] [false, false, false, false, false, false, false, false, false, true, false, false, false] [true, true, true, true, true, true, true, true, true, false, true, true, true] [true, true, false, false, true, false, true, true, true, true, false, false, false] [(0, .pointer (some ⟨g, 0, none⟩)), (4, .pointer (some ⟨g1, 0, none⟩)), (5, .pointer (some ⟨g2, 0, none⟩)), (6, .int .i64 1), (7, .pointer (some ⟨g13, 0, none⟩)), (8, .pointer (some ⟨g14, 0, none⟩)), (12, .int .i64 1), (13, .bool true), (14, .int .i64 1), (15, .int .i64 1), (16, .pointer (some ⟨g1, 0 + 1, none⟩)), (17, .pointer (some ⟨g1, 0 + 1 + (1 : Int).toNat * 2, none⟩)), (18, .agg [.bool (decide (t.fy < 0)), vfy].toArray), (19, .int .i64 1), (20, .pointer (some ⟨g2, 0 + (1 : Int).toNat * 2, none⟩)), (21, .agg [.bool (decide (b < 0)), pb].toArray), (22, .agg [.bool (decide ((t.fy + b) < 0)), v17].toArray), (23, .int .i64 1), (24, .pointer (some ⟨g1, 0 + 5, none⟩)), (25, .pointer (some ⟨g1, 0 + 5 + (1 : Int).toNat * 2, none⟩)), (26, .agg [.bool (decide (t.ty < 0)), vty].toArray), (27, .int .i64 1), (28, .pointer (some ⟨g2, 0 + (1 : Int).toNat * 2, none⟩)), (29, .agg [.bool (decide (b < 0)), pb].toArray), (30, .agg [.bool (decide ((t.ty + b) < 0)), v18].toArray), (31, .pointer (some ⟨g, 0, none⟩)), (32, .pointer (some ⟨g, 0, none⟩)), (33, .pointer (some ⟨g, 0 + 0, none⟩)), (34, .bool s.some), (35, .pointer (some ⟨g, 0, none⟩)), (36, .int .i64 1), (37, .pointer (some ⟨g, 0, none⟩)), (38, .pointer (some ⟨g, 0 + 1, none⟩)), (39, .pointer (some ⟨g, 0 + 1 + (1 : Int).toNat * 2, none⟩)), (40, .agg [.bool (decide (s.fy < 0)), ufy].toArray), (41, .agg [.bool (decide ((t.fy + b) < 0)), v17].toArray), (42, .agg [.bool (decide ((if (t.fy + b) < s.fy then (t.fy + b) else s.fy) < 0)), v23].toArray), (43, .pointer (some ⟨g, 0, none⟩)), (44, .int .i64 1), (45, .pointer (some ⟨g, 0, none⟩)), (46, .pointer (some ⟨g, 0 + 5, none⟩)), (47, .pointer (some ⟨g, 0 + 5 + (1 : Int).toNat * 2, none⟩)), (48, .agg [.bool (decide (s.ty < 0)), uty].toArray), (49, .agg [.bool (decide ((t.ty + b) < 0)), v18].toArray), (50, .agg [.bool (decide ((if s.ty < (t.ty + b) then (t.ty + b) else s.ty) < 0)), v24].toArray), (63, .int .i64 1)] (by exact ⟨rfl, rfl, rfl, rfl, rfl, rfl, rfl, rfl, rfl, rfl, rfl, rfl, rfl, rfl, rfl, rfl, rfl, rfl, rfl, rfl, rfl, rfl, rfl, rfl, rfl, rfl, rfl, rfl, rfl, rfl, rfl, rfl, rfl, rfl, rfl, rfl, rfl, rfl, rfl, rfl, rfl, rfl, rfl, rfl, rfl, rfl, trivial⟩) (by kernel_rfl) (by kernel_rfl) (by kernel_rfl) rfl (grown_some_refl g) grown_some_trans (fun _ _ h => grown_none_row h) (fun _ _ h => h) ⟨kv, kv, kv, kv, kv, kv, kv, kv, kv, kv, kv, kv, kv, kv, kv, kv, kv, kv, fun _ _ _ h k => h.g0 k, kv, kv, kv, kv, kv, kv, trivial⟩ grown_none_refl (fun _ _ _ => grown_none_trans) rfl ?_
  intro w130 k130 hs28
  have hb116 := below_g0 hb115 k130
  refine ⟨⟨?_, ?_, ?_, ?_, ?_, ?_, ?_, ?_, ?_, ?_, ?_, ?_, ?_, trivial⟩, ?_⟩
  · intro w131 k131
    have hb117 := below_g0 hb116 k131
    have hz35 := hb117.size
    refine op1 (s_move rfl ?_)
    exact ⟨rfl, grown_none_refl _⟩
  · intro w132 k132
    have hb118 := below_g0 hb116 k132
    have hz36 := hb118.size
    refine op1 (s_move rfl ?_)
    exact ⟨rfl, grown_none_refl _⟩
  · intro w133 k133
    have hb119 := below_g hb116 k133 (by first | omega | (have h9 := (hb116).size; omega))
    have hz37 := hb119.size
    refine op1 (s_move rfl ?_)
    exact ⟨rfl, grown_none_refl _⟩
  · intro w134 k134
    have hb120 := below_g hb116 k134 (by first | omega | (have h9 := (hb116).size; omega))
    have hz38 := hb120.size
    refine op1 (s_move rfl ?_)
    exact ⟨rfl, grown_none_refl _⟩
  · intro w135 k135
    have hb121 := below_g0 hb116 k135
    have hz39 := hb121.size
    refine op1 (s_loadW row31 rfl (((hB25.gne k128 (by omega)).g0 k130).g0 k135).range rfl ?_)
    exact ⟨rfl, grown_none_refl _⟩
  · intro w136 k136
    have hb122 := below_g hb116 k136 (by first | omega | (have h9 := (hb116).size; omega))
    have hz40 := hb122.size
    refine op1 (s_loadW row31 rfl ((hB26.g0 k130).gne k136 (by omega)).range rfl ?_)
    exact ⟨rfl, grown_none_refl _⟩
  · intro w137 k137
    have hb123 := below_g0 hb116 k137
    have hz41 := hb123.size
    rintro _ rfl
    refine op1 (s_nilp rfl ?_)
    exact ⟨rfl, grown_none_refl _⟩
  · intro w138 k138
    have hb124 := below_g0 hb116 k138
    have hz42 := hb124.size
    rintro _ rfl
    refine op1 (s_faddr fld72_1 rfl ?_)
    exact ⟨rfl, grown_none_refl _⟩
  · intro w139 k139
    have hb125 := below_g0 hb116 k139
    have hz43 := hb125.size
    rintro _ rfl _ rfl
    refine op1 (s_iaddr arr70 rfl rfl (by omega) (by omega) ?_)
    exact ⟨rfl, grown_none_refl _⟩
  · intro w140 k140
    have hb126 := below_g0 hb116 k140
    have hz44 := hb126.size
    rintro _ rfl _ rfl
    refine op1 (s_storeP (o := 3) row31 rfl rfl ((((((((((hB16.g0 k79).g0 k102).gne k103 (by omega)).gne k104 (by omega)).g0 k107).g0 k126).gne k127 (by omega)).gne k128 (by omega)).g0 k130).g0 k140) (by simp only [List.all_cons, List.all_nil, hS23.one, Bool.and_true, Bool.and_self] <;> rfl) rfl rfl (of_decide_eq_true rfl) ?_)
    intro w141 hB28 k141 hs29
    change Blk w141 g 72 [.bool s.some, .bool (decide ((if (t.fx + a) < s.fx then (t.fx + a) else s.fx) < 0)), v11, .bool (decide ((if (t.fy + b) < s.fy then (t.fy + b) else s.fy) < 0)), v23, .bool (decide ((if s.tx < (t.tx + a) then (t.tx + a) else s.tx) < 0)), v12, .bool (decide (s.ty < 0)), uty].toArray at hB28
    exact ⟨hB28, k141⟩
  · intro w142 k142
    have hb128 := below_g hb116 k142 (by first | omega | (have h9 := (hb116).size; omega))
    have hz45 := hb128.size
    rintro _ rfl
    refine op1 (s_nilp rfl ?_)
    exact ⟨rfl, grown_none_refl _⟩
  · intro w143 k143
    have hb129 := below_g hb116 k143 (by first | omega | (have h9 := (hb116).size; omega))
    have hz46 := hb129.size
    rintro _ rfl
    refine op1 (s_faddr fld72_2 rfl ?_)
    exact ⟨rfl, grown_none_refl _⟩
  · intro w144 k144
    have hb130 := below_g hb116 k144 (by first | omega | (have h9 := (hb116).size; omega))
    have hz47 := hb130.size
    rintro _ rfl _ rfl
    refine op1 (s_iaddr arr70 rfl rfl (by omega) (by omega) ?_)
    exact ⟨rfl, grown_none_refl _⟩
  rintro w145 k145 _ rfl _ rfl _ rfl _ rfl _ rfl _ rfl _ rfl _ rfl _ rfl v_ hB29 _ rfl _ rfl _ rfl
  have hb131 := below_g hb116 k145 (by first | omega | (have h9 := (hb116).size; omega))
  have hz48 := hb131.size
  refine st0 (s_storeP (o := 7) row31 rfl rfl hB29 (by simp only [List.all_cons, List.all_nil, hS24.one, Bool.and_true, Bool.and_self] <;> rfl) rfl rfl (of_decide_eq_true rfl) ?_)
  intro w146 hB30 k146 hs30
  change Blk w146 g 72 [.bool s.some, .bool (decide ((if (t.fx + a) < s.fx then (t.fx + a) else s.fx) < 0)), v11, .bool (decide ((if (t.fy + b) < s.fy then (t.fy + b) else s.fy) < 0)), v23, .bool (decide ((if s.tx < (t.tx + a) then (t.tx + a) else s.tx) < 0)), v12, .bool (decide ((if s.ty < (t.ty + b) then (t.ty + b) else s.ty) < 0)), v24].toArray at hB30
  refine r_end (n_block (n_then (w_region (st (s_addl (c := 2) rfl rfl rfl (by decide) (st (s_move rfl (r_end ?_))))))))
  refine n_again (w_seq (w_region (st (s_lt rfl rfl ?_))))
  rw [show decide ((2 : Int) < 2) = false from rfl]
  refine r_end (n_then (w_seq (w_condF rfl (w_exit' (n_then_exit (n_then_exit ?_))))))
  refine n_block_exit (n_then (w_region (st (s_move rfl (st (s_nilp rfl (st (s_faddr fld72_0 rfl (st0 (s_store one4 rfl rfl rfl hB30 (of_decide_eq_true rfl) ?_))))))))))
  intro w147 hB31 k147 hs31
  refine r_end (n_end0 (fn := Try.f75) rfl ?_)
  have q0 : w.grownBy w147 (some g) := (kj_own (kj_own (kj_own (kj_none (kj_new (kj_new (kj_none (kj_none (kj_new (kj_new (kj_none (kj_none (kj_own (kj_own (kj_none (kj_new (kj_new (kj_none (kj_none (kj_new (kj_new (kj_none (kj_none (kj_none (kj_none (kj_refl g _) k1) k2) k7) k30) k31 (by omega)) k32 (by omega)) k35) k54) k55 (by omega)) k56 (by omega)) k58) k73) k74) k79) k102) k103 (by omega)) k104 (by omega)) k107) k126) k127 (by omega)) k128 (by omega)) k130) k145) k146) k147)
  have q1 := hB31
  have q2 := (((((((((((((((((hS11.ggB k55 (((hB9.gne k32 (by omega)).g0 k35).g0 k54) (by decide) (by omega)).ggB k56 (((hB10.g0 k35).g0 k54).gne k55 (by omega)) (by decide) (by omega)).gg0 k58).ggB k73 (((((((((((hB.g0 k1).g0 k2).g0 k7).g0 k30).gne k31 (by omega)).gne k32 (by omega)).g0 k35).g0 k54).gne k55 (by omega)).gne k56 (by omega)).g0 k58) (by decide) (by omega)).ggB k74 hB15 (by decide) (by omega)).gg0 k79).gg0 k102).ggB k103 hB21 (by decide) (by omega)).ggB k104 (hB22.gne k103 (by omega)) (by decide) (by omega)).gg0 k107).gg0 k126).ggB k127 (((hB23.gne k104 (by omega)).g0 k107).g0 k126) (by decide) (by omega)).ggB k128 (((hB24.g0 k107).g0 k126).gne k127 (by omega)) (by decide) (by omega)).gg0 k130).ggB k145 (((((((((hB16.g0 k79).g0 k102).gne k103 (by omega)).gne k104 (by omega)).g0 k107).g0 k126).gne k127 (by omega)).gne k128 (by omega)).g0 k130) (by decide) (by omega)).ggB k146 hB29 (by decide) (by omega)).ggB k147 hB30 (by decide) (by omega))
  have q3 := ((((((hS23.ggB k127 (((hB23.gne k104 (by omega)).g0 k107).g0 k126) (by decide) (by omega)).ggB k128 (((hB24.g0 k107).g0 k126).gne k127 (by omega)) (by decide) (by omega)).gg0 k130).ggB k145 (((((((((hB16.g0 k79).g0 k102).gne k103 (by omega)).gne k104 (by omega)).g0 k107).g0 k126).gne k127 (by omega)).gne k128 (by omega)).g0 k130) (by decide) (by omega)).ggB k146 hB29 (by decide) (by omega)).ggB k147 hB30 (by decide) (by omega))
  have q4 := (((((((((((((((((hS12.ggB k55 (((hB9.gne k32 (by omega)).g0 k35).g0 k54) (by decide) (by omega)).ggB k56 (((hB10.g0 k35).g0 k54).gne k55 (by omega)) (by decide) (by omega)).gg0 k58).ggB k73 (((((((((((hB.g0 k1).g0 k2).g0 k7).g0 k30).gne k31 (by omega)).gne k32 (by omega)).g0 k35).g0 k54).gne k55 (by omega)).gne k56 (by omega)).g0 k58) (by decide) (by omega)).ggB k74 hB15 (by decide) (by omega)).gg0 k79).gg0 k102).ggB k103 hB21 (by decide) (by omega)).ggB k104 (hB22.gne k103 (by omega)) (by decide) (by omega)).gg0 k107).gg0 k126).ggB k127 (((hB23.gne k104 (by omega)).g0 k107).g0 k126) (by decide) (by omega)).ggB k128 (((hB24.g0 k107).g0 k126).gne k127 (by omega)) (by decide) (by omega)).gg0 k130).ggB k145 (((((((((hB16.g0 k79).g0 k102).gne k103 (by omega)).gne k104 (by omega)).g0 k107).g0 k126).gne k127 (by omega)).gne k128 (by omega)).g0 k130) (by decide) (by omega)).ggB k146 hB29 (by decide) (by omega)).ggB k147 hB30 (by decide) (by omega))
  have q5 := ((((((hS24.ggB k127 (((hB23.gne k104 (by omega)).g0 k107).g0 k126) (by decide) (by omega)).ggB k128 (((hB24.g0 k107).g0 k126).gne k127 (by omega)) (by decide) (by omega)).gg0 k130).ggB k145 (((((((((hB16.g0 k79).g0 k102).gne k103 (by omega)).gne k104 (by omega)).g0 k107).g0 k126).gne k127 (by omega)).gne k128 (by omega)).g0 k130) (by decide) (by omega)).ggB k146 hB29 (by decide) (by omega)).ggB k147 hB30 (by decide) (by omega))
  have e : joinS s t a b = ⟨true, (if (t.fx + a) < s.fx then (t.fx + a) else s.fx), (if (t.fy + b) < s.fy then (t.fy + b) else s.fy), (if s.tx < (t.tx + a) then (t.tx + a) else s.tx), (if s.ty < (t.ty + b) then (t.ty + b) else s.ty)⟩ := by unfold joinS; rw [show t.some = true by simpa using h1, hso]; rfl
  rw [e]
  exact ⟨_, rfl, rfl, q0, _, _, _, _, q1, q2, q3, q4, q5⟩

set_option maxHeartbeats 1000000 in
theorem join_f {a0 w : World} {n0 : Nat} (hn0 : n0 ≤ a0.heap.size) {g : Nat} {s t : Spn} {a b : Int} {pa pb : Value} (hb0 : Below a0.heap.size a0 w) (hga : a0.heap.size ≤ g) {ufx : Value} {ufy : Value} {utx : Value} {uty : Value} (hufx : Sl Kd.u32 w (G 83 n0 w) ufx (ml s.fx)) (hufy : Sl Kd.u32 w (G 83 n0 w) ufy (ml s.fy)) (hutx : Sl Kd.u32 w (G 83 n0 w) utx (ml s.tx)) (huty : Sl Kd.u32 w (G 83 n0 w) uty (ml s.ty)) {vfx : Value} {vfy : Value} {vtx : Value} {vty : Value} (hvfx : Sl Kd.u32 w (G 83 n0 w) vfx (ml t.fx)) (hvfy : Sl Kd.u32 w (G 83 n0 w) vfy (ml t.fy)) (hvtx : Sl Kd.u32 w (G 83 n0 w) vtx (ml t.tx)) (hvty : Sl Kd.u32 w (G 83 n0 w) vty (ml t.ty)) (hB : Blk w g 72 [.bool s.some, .bool (decide (s.fx < 0)), ufx, .bool (decide (s.fy < 0)), ufy, .bool (decide (s.tx < 0)), utx, .bool (decide (s.ty < 0)), uty].toArray) (hpa : Sl Kd.u32 w (G 83 n0 w) pa (ml a)) (hpb : Sl Kd.u32 w (G 83 n0 w) pb (ml b)) (hsb : SpBd 43 s) (htb : SpBd 43 t) (hso : s.some = false) (hab : Bd 43 a) (hbb : Bd 43 b) :
    Calls Try.prog 75 [.pointer (some ⟨g, 0, none⟩), .agg [.bool t.some, .bool (decide (t.fx < 0)), vfx, .bool (decide (t.fy < 0)), vfy, .bool (decide (t.tx < 0)), vtx, .bool (decide (t.ty < 0)), vty].toArray, .agg [.bool (decide (a < 0)), pa, .bool (decide (b < 0)), pb].toArray].toArray w (Ret fun r W => r = .tuple #[] ∧ w.grownBy W (some g) ∧ ∃ a1 a2 a3 a4, Blk W g 72 [.bool (joinS s t a b).some, .bool (decide ((joinS s t a b).fx < 0)), a1, .bool (decide ((joinS s t a b).fy < 0)), a2, .bool (decide ((joinS s t a b).tx < 0)), a3, .bool (decide ((joinS s t a b).ty < 0)), a4].toArray ∧ Sl Kd.u32 W (G 83 n0 W) a1 (ml (joinS s t a b).fx) ∧ Sl Kd.u32 W (G 83 n0 W) a2 (ml (joinS s t a b).fy) ∧ Sl Kd.u32 W (G 83 n0 W) a3 (ml (joinS s t a b).tx) ∧ Sl Kd.u32 W (G 83 n0 W) a4 (ml (joinS s t a b).ty)) := by
  have hz0 := hb0.size
  have hgl := hB.lt
  refine enter Try.func75 rfl rfl (w_seq (w_region (st (s_box rfl ?_))))
  intro g1 w1 hg1 hB1 k1 hs1
  change Blk w1 g1 72 [.bool t.some, .bool (decide (t.fx < 0)), vfx, .bool (decide (t.fy < 0)), vfy, .bool (decide (t.tx < 0)), vtx, .bool (decide (t.ty < 0)), vty].toArray at hB1
  have hb1 := below_g0 hb0 k1
  refine st (s_box rfl ?_)
  intro g2 w2 hg2 hB2 k2 hs2
  change Blk w2 g2 70 [.bool (decide (a < 0)), pa, .bool (decide (b < 0)), pb].toArray at hB2
  have hb2 := below_g0 hb1 k2
  refine r_end (n_then (w_seq (w_seq (w_region (st (s_faddr fld72_0 rfl (st (s_load one4 rfl (hB1.g0 k2).range (j := 0) rfl ?_))))))))
  refine st (s_not rfl (r_end (n_then ?_)))
  refine w_cond rfl (fun h1 => ?_) (fun h1 => ?_)
  · refine w_ret0 (fn := Try.f75) rfl ?_
    have q0 : w.grownBy w2 (some g) := (kj_none (kj_none (kj_refl g _) k1) k2)
    have q1 := ((hB.g0 k1).g0 k2)
    have q2 := ((hufx.gg0 k1).gg0 k2)
    have q3 := ((hufy.gg0 k1).gg0 k2)
    have q4 := ((hutx.gg0 k1).gg0 k2)
    have q5 := ((huty.gg0 k1).gg0 k2)
    have e : s = joinS s t a b := by unfold joinS; rw [show t.some = false by simpa using h1]; rfl
    rw [← e]
    exact ⟨_, rfl, rfl, q0, _, _, _, _, q1, q2, q3, q4, q5⟩
  refine w_skip' (n_then (w_seq (w_seq (w_region (st (s_move rfl (r_end ?_)))))))
  refine n_then (w_block (w_unroll 2 (w_seq (w_region (st (s_lt rfl rfl ?_))))))
  rw [show decide ((0 : Int) < 2) = true from rfl]
  refine r_end (n_then (w_seq (w_condT rfl (w_skip' (n_then (w_seq ?_))))))
  refine w_block (w_seq (w_region (st (s_move rfl (st (s_assign rfl (r_end (n_then ?_))))))))
  refine w_seq ?_
  have hlt_8 := (((hB.g0 k1).g0 k2)).lt
  have hlt_9 := ((hB1.g0 k2)).lt
  have hlt_10 := (hB2).lt
  refine w_drawF 18 (fun a b => a.grownBy b none) [(some 15, Is <| .int .i64 0), (some 16, Is <| .pointer (some ⟨g1, 0 + 1, none⟩)), (some 17, Is <| .pointer (some ⟨g1, 0 + 1 + (0 : Int).toNat * 2, none⟩)), (some 18, Is <| .agg [.bool (decide (t.fx < 0)), vfx].toArray), (some 19, Is <| .int .i64 0), (some 20, Is <| .pointer (some ⟨g2, 0 + (0 : Int).toNat * 2, none⟩)), (some 21, Is <| .agg [.bool (decide (a < 0)), pa].toArray), (some 22, fun v W => IsBig 83 n0 W v ((t.fx + a))), (some 23, Is <| .int .i64 0), (some 24, Is <| .pointer (some ⟨g1, 0 + 5, none⟩)), (some 25, Is <| .pointer (some ⟨g1, 0 + 5 + (0 : Int).toNat * 2, none⟩)), (some 26, Is <| .agg [.bool (decide (t.tx < 0)), vtx].toArray), (some 27, Is <| .int .i64 0), (some 28, Is <| .pointer (some ⟨g2, 0 + (0 : Int).toNat * 2, none⟩)), (some 29, Is <| .agg [.bool (decide (a < 0)), pa].toArray), (some 30, fun v W => IsBig 83 n0 W v ((t.tx + a))), (some 7, fun v W => ∃ g, v = .pointer (some ⟨g, 0, none⟩) ∧ Blk W g 31 #[.bool false, .slice none 0 0] ∧ w2.heap.size ≤ g), (some 8, fun v W => ∃ g, v = .pointer (some ⟨g, 0, none⟩) ∧ Blk W g 31 #[.bool false, .slice none 0 0] ∧ w2.heap.size ≤ g)] [[], [], [0, 1], [2], [], [4], [5], [3, 6], [], [], [8, 9], [10], [], [12], [13], [11, 14], [], []] [false, false, false, false, false, false, false, false, false, false, false, false, false, false, false, false, true, true] [(0, .pointer (some ⟨g, 0, none⟩)), (4, .pointer (some ⟨g1, 0, none⟩)), (5, .pointer (some ⟨g2, 0, none⟩)), (6, .int .i64 0), (12, .int .i64 0), (13, .bool true), (14, .int .i64 0)] (by exact ⟨rfl, rfl, rfl, rfl, rfl, rfl, rfl, trivial⟩) (by kernel_rfl) (by kernel_rfl) grown_none_refl (fun _ _ _ => grown_none_trans) ⟨kv, kv, kv, kv, kv, kv, kv, fun _ _ _ h k => h.g0 k, kv, kv, kv, kv, kv, kv, kv, fun _ _ _ h k => h.g0 k, fun _ _ _ h k => by obtain ⟨g, e, hB, hg⟩ := h; exact ⟨g, e, hB.g0 k, hg⟩, fun _ _ _ h k => by obtain ⟨g, e, hB, hg⟩ := h; exact ⟨g, e, hB.g0 k, hg⟩, trivial⟩ ⟨(fun h => by cases h), (fun h => by cases h), (fun h => by cases h), (fun h => by cases h), (fun h => by cases h), (fun h => by cases h), (fun h => by cases h), (fun h => by cases h), (fun h => by cases h), (fun h => by cases h), (fun h => by cases h), (fun h => by cases h), (fun h => by cases h), (fun h => by cases h), (fun h => by cases h), (fun h => by cases h), fun _ _ _ ⟨g, e, hB, _⟩ => ⟨g, e, hB.lt⟩, fun _ _ _ ⟨g, e, hB, _⟩ => ⟨g, e, hB.lt⟩, trivial⟩ ?_
  intro w7 k7 hs5
  have hb3 := below_g0 hb2 k7
  refine ⟨⟨?_, ?_, ?_, ?_, ?_, ?_, ?_, ?_, ?_, ?_, ?_, ?_, ?_, ?_, ?_, ?_, ?_, ?_, trivial⟩, ?_⟩
  · intro w8 k8
    refine op1 (s_move rfl ?_)
    exact ⟨rfl, grown_none_refl _, fun h => by cases h⟩
  · intro w9 k9
    refine op1 (s_faddr fld72_1 rfl ?_)
    exact ⟨rfl, grown_none_refl _, fun h => by cases h⟩
  · intro w10 k10
    rintro _ rfl _ rfl
    refine op1 (s_iaddr arr70 rfl rfl (by omega) (by omega) ?_)
    exact ⟨rfl, grown_none_refl _, fun h => by cases h⟩
  · intro w11 k11
    rintro _ rfl
    refine op1 (s_loadN (us := [.bool (decide (t.fx < 0)), vfx]) row31 rfl (((hB1.g0 k2).g0 k7).g0 k11).range (j := 1) rfl rfl ?_)
    exact ⟨rfl, grown_none_refl _, fun h => by cases h⟩
  · intro w12 k12
    refine op1 (s_move rfl ?_)
    exact ⟨rfl, grown_none_refl _, fun h => by cases h⟩
  · intro w13 k13
    rintro _ rfl
    refine op1 (s_iaddr arr70 rfl rfl (by omega) (by omega) ?_)
    exact ⟨rfl, grown_none_refl _, fun h => by cases h⟩
  · intro w14 k14
    rintro _ rfl
    refine op1 (s_loadN (us := [.bool (decide (a < 0)), pa]) row31 rfl ((hB2.g0 k7).g0 k14).range (j := 0) rfl rfl ?_)
    exact ⟨rfl, grown_none_refl _, fun h => by cases h⟩
  · intro w15 k15
    have hb11 := below_g0 hb3 k15
    rintro _ rfl _ rfl
    refine op1 (s_call fn78 rfl (badd_any (n0 := n0) (below_n0 hn0 hb11) (big_of rfl ((((hvfx.gg0 k1).gg0 k2).gg0 k7).gg0 k15)) (big_of rfl ((((hpa.gg0 k1).gg0 k2).gg0 k7).gg0 k15)) (Bd.le htb.fx (show 43 ≤ 90000 by decide)) (Bd.le hab (show 43 ≤ 90000 by decide))) ?_)
    rintro _ w16 ⟨hq3, v3, rfl, hS3⟩
    have k16 := grown_of_below hq3 none
    have hz1 := hq3.size
    have hb12 := below_g0 hb11 k16
    have hz2 := hb12.size
    exact ⟨⟨_, rfl, hS3⟩, k16, fun h => by cases h⟩
  · intro w17 k17
    refine op1 (s_move rfl ?_)
    exact ⟨rfl, grown_none_refl _, fun h => by cases h⟩
  · intro w18 k18
    refine op1 (s_faddr fld72_2 rfl ?_)
    exact ⟨rfl, grown_none_refl _, fun h => by cases h⟩
  · intro w19 k19
    rintro _ rfl _ rfl
    refine op1 (s_iaddr arr70 rfl rfl (by omega) (by omega) ?_)
    exact ⟨rfl, grown_none_refl _, fun h => by cases h⟩
  · intro w20 k20
    rintro _ rfl
    refine op1 (s_loadN (us := [.bool (decide (t.tx < 0)), vtx]) row31 rfl (((hB1.g0 k2).g0 k7).g0 k20).range (j := 5) rfl rfl ?_)
    exact ⟨rfl, grown_none_refl _, fun h => by cases h⟩
  · intro w21 k21
    refine op1 (s_move rfl ?_)
    exact ⟨rfl, grown_none_refl _, fun h => by cases h⟩
  · intro w22 k22
    rintro _ rfl
    refine op1 (s_iaddr arr70 rfl rfl (by omega) (by omega) ?_)
    exact ⟨rfl, grown_none_refl _, fun h => by cases h⟩
  · intro w23 k23
    rintro _ rfl
    refine op1 (s_loadN (us := [.bool (decide (a < 0)), pa]) row31 rfl ((hB2.g0 k7).g0 k23).range (j := 0) rfl rfl ?_)
    exact ⟨rfl, grown_none_refl _, fun h => by cases h⟩
  · intro w24 k24
    have hb20 := below_g0 hb3 k24
    rintro _ rfl _ rfl
    refine op1 (s_call fn78 rfl (badd_any (n0 := n0) (below_n0 hn0 hb20) (big_of rfl ((((hvtx.gg0 k1).gg0 k2).gg0 k7).gg0 k24)) (big_of rfl ((((hpa.gg0 k1).gg0 k2).gg0 k7).gg0 k24)) (Bd.le htb.tx (show 43 ≤ 90000 by decide)) (Bd.le hab (show 43 ≤ 90000 by decide))) ?_)
    rintro _ w25 ⟨hq4, v4, rfl, hS4⟩
    have k25 := grown_of_below hq4 none
    have hz3 := hq4.size
    have hb21 := below_g0 hb20 k25
    have hz4 := hb21.size
    exact ⟨⟨_, rfl, hS4⟩, k25, fun h => by cases h⟩
  · intro w26 k26
    have hb22 := below_g0 hb3 k26
    have hlt_11 := (((((hB.g0 k1).g0 k2).g0 k7).g0 k26)).lt
    have hlt_12 := ((((hB1.g0 k2).g0 k7).g0 k26)).lt
    have hlt_13 := (((hB2.g0 k7).g0 k26)).lt
    refine op1 (s_alloc zero31 ?_)
    intro g5 w27 hg5 hB5 k27 hs6
    have hz5 := hb22.size
    exact ⟨⟨_, rfl, hB5, by have h0_ := k7.size; have h1_ := k26.size; have h2_ := k27.size; omega⟩, k27, fun _ => ⟨_, rfl, by omega⟩⟩
  · intro w28 k28
    have hb24 := below_g0 hb3 k28
    have hlt_14 := (((((hB.g0 k1).g0 k2).g0 k7).g0 k28)).lt
    have hlt_15 := ((((hB1.g0 k2).g0 k7).g0 k28)).lt
    have hlt_16 := (((hB2.g0 k7).g0 k28)).lt
    refine op1 (s_alloc zero31 ?_)
    intro g6 w29 hg6 hB6 k29 hs7
    have hz6 := hb24.size
    exact ⟨⟨_, rfl, hB6, by have h0_ := k7.size; have h1_ := k28.size; have h2_ := k29.size; omega⟩, k29, fun _ => ⟨_, rfl, by omega⟩⟩
  intro w30 k30
  have hb26 := below_g0 hb3 k30
  rintro _ rfl _ rfl _ rfl _ rfl _ rfl _ rfl _ rfl _ ⟨v5, rfl, hS5⟩ _ rfl _ rfl _ rfl _ rfl _ rfl _ rfl _ rfl _ ⟨v6, rfl, hS6⟩ _ ⟨g7, rfl, hB7, hg7⟩
  have hlt_17 := hB7.lt
  rintro hnf1 _ ⟨g8, rfl, hB8, hg8⟩
  have hlt_18 := hB8.lt
  intro hnf2
  have hne1 : g7 ≠ g8 := fresh_ne (hnf2 _ (by simp))
  refine st0 (s_storeN row31 rfl rfl hB7 (by simp only [List.all_cons, List.all_nil, hS5.one, Bool.and_true, Bool.and_self] <;> rfl) rfl rfl ?_)
  intro w31 hB9 k31 hs8
  have hb27 := below_g hb26 k31 (by first | omega | (have h9 := (hb26).size; omega))
  refine st0 (s_storeN row31 rfl rfl (hB8.gne k31 (by omega)) (by simp only [List.all_cons, List.all_nil, hS6.one, Bool.and_true, Bool.and_self] <;> rfl) rfl rfl ?_)
  intro w32 hB10 k32 hs9
  have hb28 := below_g hb27 k32 (by first | omega | (have h9 := (hb27).size; omega))
  refine r_end (n_then (w_seq (w_seq (w_region (st (s_move rfl (st (s_nilp rfl ?_))))))))
  refine st (s_faddr fld72_0 rfl (st (s_load one4 rfl ((((((hB.g0 k1).g0 k2).g0 k7).g0 k30).gne k31 (by omega)).gne k32 (by omega)).range (j := 0) rfl (r_end (n_then (w_cond rfl (fun h2 => absurd (hso.symm.trans h2) (by decide)) (fun h2 => (w_skip' (n_then ?_)))))))))
  refine w_drawDT 13 (fun a b => a.grownBy b (some g)) (fun a b => a.grownBy b none) (fun a b => a.grownBy b (some g)) [(some 51, Is <| .pointer (some ⟨g, 0, none⟩)), (some 52, Is <| .int .i64 0), (some 53, Is <| .pointer (some ⟨g, 0, none⟩)), (some 54, Is <| .int .i64 0), (some 55, Is <| .agg [.bool (decide ((t.fx + a) < 0)), v5].toArray), (some 56, Is <| .agg [.bool (decide ((t.tx + a) < 0)), v6].toArray), (some 57, Is <| .pointer (some ⟨g, 0, none⟩)), (some 58, Is <| .pointer (some ⟨g, 0 + 1, none⟩)), (some 59, Is <| .pointer (some ⟨g, 0 + 1 + (0 : Int).toNat * 2, none⟩)), (none, fun _ W => Blk W g 72 ([.bool s.some, .bool (decide ((t.fx + a) < 0)), v5, .bool (decide (s.fy < 0)), ufy, .bool (decide (s.tx < 0)), utx, .bool (decide (s.ty < 0)), uty] : List Value).toArray), (some 60, Is <| .pointer (some ⟨g, 0, none⟩)), (some 61, Is <| .pointer (some ⟨g, 0 + 5, none⟩)), (some 62, Is <| .pointer (some ⟨g, 0 + 5 + (0 : Int).toNat * 2, none⟩))] [[], [], [], [], [], [], [0], [6], [1, 7], [4, 8], [2], [10], [3, 11]] [[], [], [], [], [], [], [0], [0, 6], [0, 1, 4, 6, 7], [0, 1, 4, 6, 7, 8], [2], [2, 10], [0, 1, 2, 3, 4, 5, 6, 7, 8, 9, 10, 11]] [[], [], [], [], [], [], [], [], [], [], [], [], []] [false, false, false, false, false, false, false, false, false, true, false, false, false] [true, true, true, true, true, true, true, true, true, false, true, true, true] [true, true, false, false, true, false, true, true, true, true, false, false, false] [(0, .pointer (some ⟨g, 0, none⟩)), (4, .pointer (some ⟨g1, 0, none⟩)), (5, .pointer (some ⟨g2, 0, none⟩)), (6, .int .i64 0), (7, .pointer (some ⟨g7, 0, none⟩)), (8, .pointer (some ⟨g8, 0, none⟩)), (12, .int .i64 0), (13, .bool true), (14, .int .i64 0), (15, .int .i64 0), (16, .pointer (some ⟨g1, 0 + 1, none⟩)), (17, .pointer (some ⟨g1, 0 + 1 + (0 : Int).toNat * 2, none⟩)), (18, .agg [.bool (decide (t.fx < 0)), vfx].toArray), (19, .int .i64 0), (20, .pointer (some ⟨g2, 0 + (0 : Int).toNat * 2, none⟩)), (21, .agg [.bool (decide (a < 0)), pa].toArray), (22, .agg [.bool (decide ((t.fx + a) < 0)), v5].toArray), (23, .int .i64 0), (24, .pointer (some ⟨g1, 0 + 5, none⟩)), (25, .pointer (some ⟨g1, 0 + 5 + (0 : Int).toNat * 2, none⟩)), (26, .agg [.bool (decide (t.tx < 0)), vtx].toArray), (27, .int .i64 0), (28, .pointer (some ⟨g2, 0 + (0 : Int).toNat * 2, none⟩)), (29, .agg [.bool (decide (a < 0)), pa].toArray), (30, .agg [.bool (decide ((t.tx + a) < 0)), v6].toArray), (31, .pointer (some ⟨g, 0, none⟩)), (32, .pointer (some ⟨g, 0, none⟩)), (33, .pointer (some ⟨g, 0 + 0, none⟩)), (34, .bool s.some)] (by exact ⟨rfl, rfl, rfl, rfl, rfl, rfl, rfl, rfl, rfl, rfl, rfl, rfl, rfl, rfl, rfl, rfl, rfl, rfl, rfl, rfl, rfl, rfl, rfl, rfl, rfl, rfl, rfl, rfl, rfl, trivial⟩) (by kernel_rfl) (by kernel_rfl) (by kernel_rfl) rfl (grown_some_refl g) grown_some_trans (fun _ _ h => grown_none_row h) (fun _ _ h => h) ⟨kv, kv, kv, kv, kv, kv, kv, kv, kv, kv, kv, kv, kv, kv, kv, kv, kv, kv, fun _ _ _ h k => h.g0 k, kv, kv, kv, kv, kv, kv, trivial⟩ grown_none_refl (fun _ _ _ => grown_none_trans) rfl ?_
  intro w34 k34 hs11
  have hb29 := below_g0 hb28 k34
  refine ⟨⟨?_, ?_, ?_, ?_, ?_, ?_, ?_, ?_, ?_, ?_, ?_, ?_, ?_, trivial⟩, ?_⟩
  · intro w35 k35
    have hb30 := below_g0 hb29 k35
    have hz7 := hb30.size
    refine op1 (s_move rfl ?_)
    exact ⟨rfl, grown_none_refl _⟩
  · intro w36 k36
    have hb31 := below_g0 hb29 k36
    have hz8 := hb31.size
    refine op1 (s_move rfl ?_)
    exact ⟨rfl, grown_none_refl _⟩
  · intro w37 k37
    have hb32 := below_g hb29 k37 (by first | omega | (have h9 := (hb29).size; omega))
    have hz9 := hb32.size
    refine op1 (s_move rfl ?_)
    exact ⟨rfl, grown_none_refl _⟩
  · intro w38 k38
    have hb33 := below_g hb29 k38 (by first | omega | (have h9 := (hb29).size; omega))
    have hz10 := hb33.size
    refine op1 (s_move rfl ?_)
    exact ⟨rfl, grown_none_refl _⟩
  · intro w39 k39
    have hb34 := below_g0 hb29 k39
    have hz11 := hb34.size
    refine op1 (s_loadW row31 rfl (((hB9.gne k32 (by omega)).g0 k34).g0 k39).range rfl ?_)
    exact ⟨rfl, grown_none_refl _⟩
  · intro w40 k40
    have hb35 := below_g hb29 k40 (by first | omega | (have h9 := (hb29).size; omega))
    have hz12 := hb35.size
    refine op1 (s_loadW row31 rfl ((hB10.g0 k34).gne k40 (by omega)).range rfl ?_)
    exact ⟨rfl, grown_none_refl _⟩
  · intro w41 k41
    have hb36 := below_g0 hb29 k41
    have hz13 := hb36.size
    rintro _ rfl
    refine op1 (s_nilp rfl ?_)
    exact ⟨rfl, grown_none_refl _⟩
  · intro w42 k42
    have hb37 := below_g0 hb29 k42
    have hz14 := hb37.size
    rintro _ rfl
    refine op1 (s_faddr fld72_1 rfl ?_)
    exact ⟨rfl, grown_none_refl _⟩
  · intro w43 k43
    have hb38 := below_g0 hb29 k43
    have hz15 := hb38.size
    rintro _ rfl _ rfl
    refine op1 (s_iaddr arr70 rfl rfl (by omega) (by omega) ?_)
    exact ⟨rfl, grown_none_refl _⟩
  · intro w44 k44
    have hb39 := below_g0 hb29 k44
    have hz16 := hb39.size
    rintro _ rfl _ rfl
    refine op1 (s_storeP (o := 1) row31 rfl rfl ((((((((hB.g0 k1).g0 k2).g0 k7).g0 k30).gne k31 (by omega)).gne k32 (by omega)).g0 k34).g0 k44) (by simp only [List.all_cons, List.all_nil, hS5.one, Bool.and_true, Bool.and_self] <;> rfl) rfl rfl (of_decide_eq_true rfl) ?_)
    intro w45 hB12 k45 hs12
    change Blk w45 g 72 [.bool s.some, .bool (decide ((t.fx + a) < 0)), v5, .bool (decide (s.fy < 0)), ufy, .bool (decide (s.tx < 0)), utx, .bool (decide (s.ty < 0)), uty].toArray at hB12
    exact ⟨hB12, k45⟩
  · intro w46 k46
    have hb41 := below_g hb29 k46 (by first | omega | (have h9 := (hb29).size; omega))
    have hz17 := hb41.size
    rintro _ rfl
    refine op1 (s_nilp rfl ?_)
    exact ⟨rfl, grown_none_refl _⟩
  · intro w47 k47
    have hb42 := below_g hb29 k47 (by first | omega | (have h9 := (hb29).size; omega))
    have hz18 := hb42.size
    rintro _ rfl
    refine op1 (s_faddr fld72_2 rfl ?_)
    exact ⟨rfl, grown_none_refl _⟩
  · intro w48 k48
    have hb43 := below_g hb29 k48 (by first | omega | (have h9 := (hb29).size; omega))
    have hz19 := hb43.size
    rintro _ rfl _ rfl
    refine op1 (s_iaddr arr70 rfl rfl (by omega) (by omega) ?_)
    exact ⟨rfl, grown_none_refl _⟩
  rintro w49 k49 _ rfl _ rfl _ rfl _ rfl _ rfl _ rfl _ rfl _ rfl _ rfl v_ hB13 _ rfl _ rfl _ rfl
  have hb44 := below_g hb29 k49 (by first | omega | (have h9 := (hb29).size; omega))
  have hz20 := hb44.size
  refine st0 (s_storeP (o := 5) row31 rfl rfl hB13 (by simp only [List.all_cons, List.all_nil, hS6.one, Bool.and_true, Bool.and_self] <;> rfl) rfl rfl (of_decide_eq_true rfl) ?_)
  intro w50 hB14 k50 hs13
  change Blk w50 g 72 [.bool s.some, .bool (decide ((t.fx + a) < 0)), v5, .bool (decide (s.fy < 0)), ufy, .bool (decide ((t.tx + a) < 0)), v6, .bool (decide (s.ty < 0)), uty].toArray at hB14
  have hb45 := below_g hb44 k50 (by first | omega | (have h9 := (hb44).size; omega))
  refine r_end (n_block (n_then (w_region (st (s_addl (c := 1) rfl rfl rfl (by decide) (st (s_move rfl (r_end ?_))))))))
  refine n_again (w_seq (w_region (st (s_lt rfl rfl ?_))))
  rw [show decide ((1 : Int) < 2) = true from rfl]
  refine r_end (n_then (w_seq (w_condT rfl (w_skip' (n_then (w_seq ?_))))))
  refine w_block (w_seq (w_region (st (s_move rfl (st (s_assign rfl (r_end (n_then ?_))))))))
  refine w_seq ?_
  have hlt_30 := (hB14).lt
  have hlt_31 := (((((((((hB1.g0 k2).g0 k7).g0 k30).gne k31 (by omega)).gne k32 (by omega)).g0 k34).gne k49 (by omega)).gne k50 (by omega))).lt
  have hlt_32 := ((((((((hB2.g0 k7).g0 k30).gne k31 (by omega)).gne k32 (by omega)).g0 k34).gne k49 (by omega)).gne k50 (by omega))).lt
  have hlt_33 := (((((hB9.gne k32 (by omega)).g0 k34).gne k49 (by omega)).gne k50 (by omega))).lt
  have hlt_34 := ((((hB10.g0 k34).gne k49 (by omega)).gne k50 (by omega))).lt
  refine w_drawF 18 (fun a b => a.grownBy b none) [(some 15, Is <| .int .i64 1), (some 16, Is <| .pointer (some ⟨g1, 0 + 1, none⟩)), (some 17, Is <| .pointer (some ⟨g1, 0 + 1 + (1 : Int).toNat * 2, none⟩)), (some 18, Is <| .agg [.bool (decide (t.fy < 0)), vfy].toArray), (some 19, Is <| .int .i64 1), (some 20, Is <| .pointer (some ⟨g2, 0 + (1 : Int).toNat * 2, none⟩)), (some 21, Is <| .agg [.bool (decide (b < 0)), pb].toArray), (some 22, fun v W => IsBig 83 n0 W v ((t.fy + b))), (some 23, Is <| .int .i64 1), (some 24, Is <| .pointer (some ⟨g1, 0 + 5, none⟩)), (some 25, Is <| .pointer (some ⟨g1, 0 + 5 + (1 : Int).toNat * 2, none⟩)), (some 26, Is <| .agg [.bool (decide (t.ty < 0)), vty].toArray), (some 27, Is <| .int .i64 1), (some 28, Is <| .pointer (some ⟨g2, 0 + (1 : Int).toNat * 2, none⟩)), (some 29, Is <| .agg [.bool (decide (b < 0)), pb].toArray), (some 30, fun v W => IsBig 83 n0 W v ((t.ty + b))), (some 7, fun v W => ∃ g, v = .pointer (some ⟨g, 0, none⟩) ∧ Blk W g 31 #[.bool false, .slice none 0 0] ∧ w50.heap.size ≤ g), (some 8, fun v W => ∃ g, v = .pointer (some ⟨g, 0, none⟩) ∧ Blk W g 31 #[.bool false, .slice none 0 0] ∧ w50.heap.size ≤ g)] [[], [], [0, 1], [2], [], [4], [5], [3, 6], [], [], [8, 9], [10], [], [12], [13], [11, 14], [], []] [false, false, false, false, false, false, false, false, false, false, false, false, false, false, false, false, true, true] [(0, .pointer (some ⟨g, 0, none⟩)), (4, .pointer (some ⟨g1, 0, none⟩)), (5, .pointer (some ⟨g2, 0, none⟩)), (6, .int .i64 1), (12, .int .i64 1), (13, .bool true), (14, .int .i64 1), (31, .pointer (some ⟨g, 0, none⟩)), (32, .pointer (some ⟨g, 0, none⟩)), (33, .pointer (some ⟨g, 0 + 0, none⟩)), (34, .bool s.some), (51, .pointer (some ⟨g, 0, none⟩)), (52, .int .i64 0), (53, .pointer (some ⟨g, 0, none⟩)), (54, .int .i64 0), (55, .agg [.bool (decide ((t.fx + a) < 0)), v5].toArray), (56, .agg [.bool (decide ((t.tx + a) < 0)), v6].toArray), (57, .pointer (some ⟨g, 0, none⟩)), (58, .pointer (some ⟨g, 0 + 1, none⟩)), (59, .pointer (some ⟨g, 0 + 1 + (0 : Int).toNat * 2, none⟩)), (60, .pointer (some ⟨g, 0, none⟩)), (61, .pointer (some ⟨g, 0 + 5, none⟩)), (62, .pointer (some ⟨g, 0 + 5 + (0 : Int).toNat * 2, none⟩)), (63, .int .i64 1)] (by exact ⟨rfl, rfl, rfl, rfl, rfl, rfl, rfl, rfl, rfl, rfl, rfl, rfl, rfl, rfl, rfl, rfl, rfl, rfl, rfl, rfl, rfl, rfl, rfl, rfl, trivial⟩) (by kernel_rfl) (by kernel_rfl) grown_none_refl (fun _ _ _ => grown_none_trans) ⟨kv, kv, kv, kv, kv, kv, kv, fun _ _ _ h k => h.g0 k, kv, kv, kv, kv, kv, kv, kv, fun _ _ _ h k => h.g0 k, fun _ _ _ h k => by obtain ⟨g, e, hB, hg⟩ := h; exact ⟨g, e, hB.g0 k, hg⟩, fun _ _ _ h k => by obtain ⟨g, e, hB, hg⟩ := h; exact ⟨g, e, hB.g0 k, hg⟩, trivial⟩ ⟨(fun h => by cases h), (fun h => by cases h), (fun h => by cases h), (fun h => by cases h), (fun h => by cases h), (fun h => by cases h), (fun h => by cases h), (fun h => by cases h), (fun h => by cases h), (fun h => by cases h), (fun h => by cases h), (fun h => by cases h), (fun h => by cases h), (fun h => by cases h), (fun h => by cases h), (fun h => by cases h), fun _ _ _ ⟨g, e, hB, _⟩ => ⟨g, e, hB.lt⟩, fun _ _ _ ⟨g, e, hB, _⟩ => ⟨g, e, hB.lt⟩, trivial⟩ ?_
  intro w55 k55 hs16
  have hb46 := below_g0 hb45 k55
  refine ⟨⟨?_, ?_, ?_, ?_, ?_, ?_, ?_, ?_, ?_, ?_, ?_, ?_, ?_, ?_, ?_, ?_, ?_, ?_, trivial⟩, ?_⟩
  · intro w56 k56
    refine op1 (s_move rfl ?_)
    exact ⟨rfl, grown_none_refl _, fun h => by cases h⟩
  · intro w57 k57
    refine op1 (s_faddr fld72_1 rfl ?_)
    exact ⟨rfl, grown_none_refl _, fun h => by cases h⟩
  · intro w58 k58
    rintro _ rfl _ rfl
    refine op1 (s_iaddr arr70 rfl rfl (by omega) (by omega) ?_)
    exact ⟨rfl, grown_none_refl _, fun h => by cases h⟩
  · intro w59 k59
    rintro _ rfl
    refine op1 (s_loadN (us := [.bool (decide (t.fy < 0)), vfy]) row31 rfl ((((((((((hB1.g0 k2).g0 k7).g0 k30).gne k31 (by omega)).gne k32 (by omega)).g0 k34).gne k49 (by omega)).gne k50 (by omega)).g0 k55).g0 k59).range (j := 3) rfl rfl ?_)
    exact ⟨rfl, grown_none_refl _, fun h => by cases h⟩
  · intro w60 k60
    refine op1 (s_move rfl ?_)
    exact ⟨rfl, grown_none_refl _, fun h => by cases h⟩
  · intro w61 k61
    rintro _ rfl
    refine op1 (s_iaddr arr70 rfl rfl (by omega) (by omega) ?_)
    exact ⟨rfl, grown_none_refl _, fun h => by cases h⟩
  · intro w62 k62
    rintro _ rfl
    refine op1 (s_loadN (us := [.bool (decide (b < 0)), pb]) row31 rfl (((((((((hB2.g0 k7).g0 k30).gne k31 (by omega)).gne k32 (by omega)).g0 k34).gne k49 (by omega)).gne k50 (by omega)).g0 k55).g0 k62).range (j := 2) rfl rfl ?_)
    exact ⟨rfl, grown_none_refl _, fun h => by cases h⟩
  · intro w63 k63
    have hb54 := below_g0 hb46 k63
    rintro _ rfl _ rfl
    refine op1 (s_call fn78 rfl (badd_any (n0 := n0) (below_n0 hn0 hb54) (big_of rfl (((((((((((hvfy.gg0 k1).gg0 k2).gg0 k7).gg0 k30).ggB k31 hB7 (by decide) (by omega)).ggB k32 (hB8.gne k31 (by omega)) (by decide) (by omega)).gg0 k34).ggB k49 (((((((hB.g0 k1).g0 k2).g0 k7).g0 k30).gne k31 (by omega)).gne k32 (by omega)).g0 k34) (by decide) (by omega)).ggB k50 hB13 (by decide) (by omega)).gg0 k55).gg0 k63)) (big_of rfl (((((((((((hpb.gg0 k1).gg0 k2).gg0 k7).gg0 k30).ggB k31 hB7 (by decide) (by omega)).ggB k32 (hB8.gne k31 (by omega)) (by decide) (by omega)).gg0 k34).ggB k49 (((((((hB.g0 k1).g0 k2).g0 k7).g0 k30).gne k31 (by omega)).gne k32 (by omega)).g0 k34) (by decide) (by omega)).ggB k50 hB13 (by decide) (by omega)).gg0 k55).gg0 k63)) (Bd.le htb.fy (show 43 ≤ 90000 by decide)) (Bd.le hbb (show 43 ≤ 90000 by decide))) ?_)
    rintro _ w64 ⟨hq7, v9, rfl, hS9⟩
    have k64 := grown_of_below hq7 none
    have hz21 := hq7.size
    have hb55 := below_g0 hb54 k64
    have hz22 := hb55.size
    exact ⟨⟨_, rfl, hS9⟩, k64, fun h => by cases h⟩
  · intro w65 k65
    refine op1 (s_move rfl ?_)
    exact ⟨rfl, grown_none_refl _, fun h => by cases h⟩
  · intro w66 k66
    refine op1 (s_faddr fld72_2 rfl ?_)
    exact ⟨rfl, grown_none_refl _, fun h => by cases h⟩
  · intro w67 k67
    rintro _ rfl _ rfl
    refine op1 (s_iaddr arr70 rfl rfl (by omega) (by omega) ?_)
    exact ⟨rfl, grown_none_refl _, fun h => by cases h⟩
  · intro w68 k68
    rintro _ rfl
    refine op1 (s_loadN (us := [.bool (decide (t.ty < 0)), vty]) row31 rfl ((((((((((hB1.g0 k2).g0 k7).g0 k30).gne k31 (by omega)).gne k32 (by omega)).g0 k34).gne k49 (by omega)).gne k50 (by omega)).g0 k55).g0 k68).range (j := 7) rfl rfl ?_)
    exact ⟨rfl, grown_none_refl _, fun h => by cases h⟩
  · intro w69 k69
    refine op1 (s_move rfl ?_)
    exact ⟨rfl, grown_none_refl _, fun h => by cases h⟩
  · intro w70 k70
    rintro _ rfl
    refine op1 (s_iaddr arr70 rfl rfl (by omega) (by omega) ?_)
    exact ⟨rfl, grown_none_refl _, fun h => by cases h⟩
  · intro w71 k71
    rintro _ rfl
    refine op1 (s_loadN (us := [.bool (decide (b < 0)), pb]) row31 rfl (((((((((hB2.g0 k7).g0 k30).gne k31 (by omega)).gne k32 (by omega)).g0 k34).gne k49 (by omega)).gne k50 (by omega)).g0 k55).g0 k71).range (j := 2) rfl rfl ?_)
    exact ⟨rfl, grown_none_refl _, fun h => by cases h⟩
  · intro w72 k72
    have hb63 := below_g0 hb46 k72
    rintro _ rfl _ rfl
    refine op1 (s_call fn78 rfl (badd_any (n0 := n0) (below_n0 hn0 hb63) (big_of rfl (((((((((((hvty.gg0 k1).gg0 k2).gg0 k7).gg0 k30).ggB k31 hB7 (by decide) (by omega)).ggB k32 (hB8.gne k31 (by omega)) (by decide) (by omega)).gg0 k34).ggB k49 (((((((hB.g0 k1).g0 k2).g0 k7).g0 k30).gne k31 (by omega)).gne k32 (by omega)).g0 k34) (by decide) (by omega)).ggB k50 hB13 (by decide) (by omega)).gg0 k55).gg0 k72)) (big_of rfl (((((((((((hpb.gg0 k1).gg0 k2).gg0 k7).gg0 k30).ggB k31 hB7 (by decide) (by omega)).ggB k32 (hB8.gne k31 (by omega)) (by decide) (by omega)).gg0 k34).ggB k49 (((((((hB.g0 k1).g0 k2).g0 k7).g0 k30).gne k31 (by omega)).gne k32 (by omega)).g0 k34) (by decide) (by omega)).ggB k50 hB13 (by decide) (by omega)).gg0 k55).gg0 k72)) (Bd.le htb.ty (show 43 ≤ 90000 by decide)) (Bd.le hbb (show 43 ≤ 90000 by decide))) ?_)
    rintro _ w73 ⟨hq8, v10, rfl, hS10⟩
    have k73 := grown_of_below hq8 none
    have hz23 := hq8.size
    have hb64 := below_g0 hb63 k73
    have hz24 := hb64.size
    exact ⟨⟨_, rfl, hS10⟩, k73, fun h => by cases h⟩
  · intro w74 k74
    have hb65 := below_g0 hb46 k74
    have hlt_35 := (((hB14.g0 k55).g0 k74)).lt
    have hlt_36 := (((((((((((hB1.g0 k2).g0 k7).g0 k30).gne k31 (by omega)).gne k32 (by omega)).g0 k34).gne k49 (by omega)).gne k50 (by omega)).g0 k55).g0 k74)).lt
    have hlt_37 := ((((((((((hB2.g0 k7).g0 k30).gne k31 (by omega)).gne k32 (by omega)).g0 k34).gne k49 (by omega)).gne k50 (by omega)).g0 k55).g0 k74)).lt
    have hlt_38 := (((((((hB9.gne k32 (by omega)).g0 k34).gne k49 (by omega)).gne k50 (by omega)).g0 k55).g0 k74)).lt
    have hlt_39 := ((((((hB10.g0 k34).gne k49 (by omega)).gne k50 (by omega)).g0 k55).g0 k74)).lt
    refine op1 (s_alloc zero31 ?_)
    intro g11 w75 hg11 hB17 k75 hs17
    have hz25 := hb65.size
    exact ⟨⟨_, rfl, hB17, by have h0_ := k55.size; have h1_ := k74.size; have h2_ := k75.size; omega⟩, k75, fun _ => ⟨_, rfl, by omega⟩⟩
  · intro w76 k76
    have hb67 := below_g0 hb46 k76
    have hlt_40 := (((hB14.g0 k55).g0 k76)).lt
    have hlt_41 := (((((((((((hB1.g0 k2).g0 k7).g0 k30).gne k31 (by omega)).gne k32 (by omega)).g0 k34).gne k49 (by omega)).gne k50 (by omega)).g0 k55).g0 k76)).lt
    have hlt_42 := ((((((((((hB2.g0 k7).g0 k30).gne k31 (by omega)).gne k32 (by omega)).g0 k34).gne k49 (by omega)).gne k50 (by omega)).g0 k55).g0 k76)).lt
    have hlt_43 := (((((((hB9.gne k32 (by omega)).g0 k34).gne k49 (by omega)).gne k50 (by omega)).g0 k55).g0 k76)).lt
    have hlt_44 := ((((((hB10.g0 k34).gne k49 (by omega)).gne k50 (by omega)).g0 k55).g0 k76)).lt
    refine op1 (s_alloc zero31 ?_)
    intro g12 w77 hg12 hB18 k77 hs18
    have hz26 := hb67.size
    exact ⟨⟨_, rfl, hB18, by have h0_ := k55.size; have h1_ := k76.size; have h2_ := k77.size; omega⟩, k77, fun _ => ⟨_, rfl, by omega⟩⟩
  intro w78 k78
  have hb69 := below_g0 hb46 k78
  rintro _ rfl _ rfl _ rfl _ rfl _ rfl _ rfl _ rfl _ ⟨v11, rfl, hS11⟩ _ rfl _ rfl _ rfl _ rfl _ rfl _ rfl _ rfl _ ⟨v12, rfl, hS12⟩ _ ⟨g13, rfl, hB19, hg13⟩
  have hlt_45 := hB19.lt
  rintro hnf3 _ ⟨g14, rfl, hB20, hg14⟩
  have hlt_46 := hB20.lt
  intro hnf4
  have hne2 : g13 ≠ g14 := fresh_ne (hnf4 _ (by simp))
  refine st0 (s_storeN row31 rfl rfl hB19 (by simp only [List.all_cons, List.all_nil, hS11.one, Bool.and_true, Bool.and_self] <;> rfl) rfl rfl ?_)
  intro w79 hB21 k79 hs19
  have hb70 := below_g hb69 k79 (by first | omega | (have h9 := (hb69).size; omega))
  refine st0 (s_storeN row31 rfl rfl (hB20.gne k79 (by omega)) (by simp only [List.all_cons, List.all_nil, hS12.one, Bool.and_true, Bool.and_self] <;> rfl) rfl rfl ?_)
  intro w80 hB22 k80 hs20
  have hb71 := below_g hb70 k80 (by first | omega | (have h9 := (hb70).size; omega))
  refine r_end (n_then (w_seq (w_seq (w_region (st (s_move rfl (st (s_nilp rfl ?_))))))))
  refine st (s_faddr fld72_0 rfl (st (s_load one4 rfl ((((hB14.g0 k55).g0 k78).gne k79 (by omega)).gne k80 (by omega)).range (j := 0) rfl (r_end (n_then (w_cond rfl (fun h3 => absurd (hso.symm.trans h3) (by decide)) (fun h3 => (w_skip' (n_then ?_)))))))))
  refine w_drawDT 13 (fun a b => a.grownBy b (some g)) (fun a b => a.grownBy b none) (fun a b => a.grownBy b (some g)) [(some 51, Is <| .pointer (some ⟨g, 0, none⟩)), (some 52, Is <| .int .i64 1), (some 53, Is <| .pointer (some ⟨g, 0, none⟩)), (some 54, Is <| .int .i64 1), (some 55, Is <| .agg [.bool (decide ((t.fy + b) < 0)), v11].toArray), (some 56, Is <| .agg [.bool (decide ((t.ty + b) < 0)), v12].toArray), (some 57, Is <| .pointer (some ⟨g, 0, none⟩)), (some 58, Is <| .pointer (some ⟨g, 0 + 1, none⟩)), (some 59, Is <| .pointer (some ⟨g, 0 + 1 + (1 : Int).toNat * 2, none⟩)), (none, fun _ W => Blk W g 72 ([.bool s.some, .bool (decide ((t.fx + a) < 0)), v5, .bool (decide ((t.fy + b) < 0)), v11, .bool (decide ((t.tx + a) < 0)), v6, .bool (decide (s.ty < 0)), uty] : List Value).toArray), (some 60, Is <| .pointer (some ⟨g, 0, none⟩)), (some 61, Is <| .pointer (some ⟨g, 0 + 5, none⟩)), (some 62, Is <| .pointer (some ⟨g, 0 + 5 + (1 : Int).toNat * 2, none⟩))] [[], [], [], [], [], [], [0], [6], [1, 7], [4, 8], [2], [10], [3, 11]] [[], [], [], [], [], [], [0], [0, 6], [0, 1, 4, 6, 7], [0, 1, 4, 6, 7, 8], [2], [2, 10], [0, 1, 2, 3, 4, 5, 6, 7, 8, 9, 10, 11]] [[], [], [], [], [], [], [], [], [], [], [], [], []] [false, false, false, false, false, false, false, false, false, true, false, false, false] [true, true, true, true, true, true, true, true, true, false, true, true, true] [true, true, false, false, true, false, true, true, true, true, false, false, false] [(0, .pointer (some ⟨g, 0, none⟩)), (4, .pointer (some ⟨g1, 0, none⟩)), (5, .pointer (some ⟨g2, 0, none⟩)), (6, .int .i64 1), (7, .pointer (some ⟨g13, 0, none⟩)), (8, .pointer (some ⟨g14, 0, none⟩)), (12, .int .i64 1), (13, .bool true), (14, .int .i64 1), (15, .int .i64 1), (16, .pointer (some ⟨g1, 0 + 1, none⟩)), (17, .pointer (some ⟨g1, 0 + 1 + (1 : Int).toNat * 2, none⟩)), (18, .agg [.bool (decide (t.fy < 0)), vfy].toArray), (19, .int .i64 1), (20, .pointer (some ⟨g2, 0 + (1 : Int).toNat * 2, none⟩)), (21, .agg [.bool (decide (b < 0)), pb].toArray), (22, .agg [.bool (decide ((t.fy + b) < 0)), v11].toArray), (23, .int .i64 1), (24, .pointer (some ⟨g1, 0 + 5, none⟩)), (25, .pointer (some ⟨g1, 0 + 5 + (1 : Int).toNat * 2, none⟩)), (26, .agg [.bool (decide (t.ty < 0)), vty].toArray), (27, .int .i64 1), (28, .pointer (some ⟨g2, 0 + (1 : Int).toNat * 2, none⟩)), (29, .agg [.bool (decide (b < 0)), pb].toArray), (30, .agg [.bool (decide ((t.ty + b) < 0)), v12].toArray), (31, .pointer (some ⟨g, 0, none⟩)), (32, .pointer (some ⟨g, 0, none⟩)), (33, .pointer (some ⟨g, 0 + 0, none⟩)), (34, .bool s.some), (63, .int .i64 1)] (by exact ⟨rfl, rfl, rfl, rfl, rfl, rfl, rfl, rfl, rfl, rfl, rfl, rfl, rfl, rfl, rfl, rfl, rfl, rfl, rfl, rfl, rfl, rfl, rfl, rfl, rfl, rfl, rfl, rfl, rfl, rfl, trivial⟩) (by kernel_rfl) (by kernel_rfl) (by kernel_rfl) rfl (grown_some_refl g) grown_some_trans (fun _ _ h => grown_none_row h) (fun _ _ h => h) ⟨kv, kv, kv, kv, kv, kv, kv, kv, kv, kv, kv, kv, kv, kv, kv, kv, kv, kv, fun _ _ _ h k => h.g0 k, kv, kv, kv, kv, kv, kv, trivial⟩ grown_none_refl (fun _ _ _ => grown_none_trans) rfl ?_
  intro w82 k82 hs22
  have hb72 := below_g0 hb71 k82
  refine ⟨⟨?_, ?_, ?_, ?_, ?_, ?_, ?_, ?_, ?_, ?_, ?_, ?_, ?_, trivial⟩, ?_⟩
  · intro w83 k83
    have hb73 := below_g0 hb72 k83
    have hz27 := hb73.size
    refine op1 (s_move rfl ?_)
    exact ⟨rfl, grown_none_refl _⟩
  · intro w84 k84
    have hb74 := below_g0 hb72 k84
    have hz28 := hb74.size
    refine op1 (s_move rfl ?_)
    exact ⟨rfl, grown_none_refl _⟩
  · intro w85 k85
    have hb75 := below_g hb72 k85 (by first | omega | (have h9 := (hb72).size; omega))
    have hz29 := hb75.size
    refine op1 (s_move rfl ?_)
    exact ⟨rfl, grown_none_refl _⟩
  · intro w86 k86
    have hb76 := below_g hb72 k86 (by first | omega | (have h9 := (hb72).size; omega))
    have hz30 := hb76.size
    refine op1 (s_move rfl ?_)
    exact ⟨rfl, grown_none_refl _⟩
  · intro w87 k87
    have hb77 := below_g0 hb72 k87
    have hz31 := hb77.size
    refine op1 (s_loadW row31 rfl (((hB21.gne k80 (by omega)).g0 k82).g0 k87).range rfl ?_)
    exact ⟨rfl, grown_none_refl _⟩
  · intro w88 k88
    have hb78 := below_g hb72 k88 (by first | omega | (have h9 := (hb72).size; omega))
    have hz32 := hb78.size
    refine op1 (s_loadW row31 rfl ((hB22.g0 k82).gne k88 (by omega)).range rfl ?_)
    exact ⟨rfl, grown_none_refl _⟩
  · intro w89 k89
    have hb79 := below_g0 hb72 k89
    have hz33 := hb79.size
    rintro _ rfl
    refine op1 (s_nilp rfl ?_)
    exact ⟨rfl, grown_none_refl _⟩
  · intro w90 k90
    have hb80 := below_g0 hb72 k90
    have hz34 := hb80.size
    rintro _ rfl
    refine op1 (s_faddr fld72_1 rfl ?_)
    exact ⟨rfl, grown_none_refl _⟩
  · intro w91 k91
    have hb81 := below_g0 hb72 k91
    have hz35 := hb81.size
    rintro _ rfl _ rfl
    refine op1 (s_iaddr arr70 rfl rfl (by omega) (by omega) ?_)
    exact ⟨rfl, grown_none_refl _⟩
  · intro w92 k92
    have hb82 := below_g0 hb72 k92
    have hz36 := hb82.size
    rintro _ rfl _ rfl
    refine op1 (s_storeP (o := 3) row31 rfl rfl ((((((hB14.g0 k55).g0 k78).gne k79 (by omega)).gne k80 (by omega)).g0 k82).g0 k92) (by simp only [List.all_cons, List.all_nil, hS11.one, Bool.and_true, Bool.and_self] <;> rfl) rfl rfl (of_decide_eq_true rfl) ?_)
    intro w93 hB24 k93 hs23
    change Blk w93 g 72 [.bool s.some, .bool (decide ((t.fx + a) < 0)), v5, .bool (decide ((t.fy + b) < 0)), v11, .bool (decide ((t.tx + a) < 0)), v6, .bool (decide (s.ty < 0)), uty].toArray at hB24
    exact ⟨hB24, k93⟩
  · intro w94 k94
    have hb84 := below_g hb72 k94 (by first | omega | (have h9 := (hb72).size; omega))
    have hz37 := hb84.size
    rintro _ rfl
    refine op1 (s_nilp rfl ?_)
    exact ⟨rfl, grown_none_refl _⟩
  · intro w95 k95
    have hb85 := below_g hb72 k95 (by first | omega | (have h9 := (hb72).size; omega))
    have hz38 := hb85.size
    rintro _ rfl
    refine op1 (s_faddr fld72_2 rfl ?_)
    exact ⟨rfl, grown_none_refl _⟩
  · intro w96 k96
    have hb86 := below_g hb72 k96 (by first | omega | (have h9 := (hb72).size; omega))
    have hz39 := hb86.size
    rintro _ rfl _ rfl
    refine op1 (s_iaddr arr70 rfl rfl (by omega) (by omega) ?_)
    exact ⟨rfl, grown_none_refl _⟩
  rintro w97 k97 _ rfl _ rfl _ rfl _ rfl _ rfl _ rfl _ rfl _ rfl _ rfl v_ hB25 _ rfl _ rfl _ rfl
  have hb87 := below_g hb72 k97 (by first | omega | (have h9 := (hb72).size; omega))
  have hz40 := hb87.size
  refine st0 (s_storeP (o := 7) row31 rfl rfl hB25 (by simp only [List.all_cons, List.all_nil, hS12.one, Bool.and_true, Bool.and_self] <;> rfl) rfl rfl (of_decide_eq_true rfl) ?_)
  intro w98 hB26 k98 hs24
  change Blk w98 g 72 [.bool s.some, .bool (decide ((t.fx + a) < 0)), v5, .bool (decide ((t.fy + b) < 0)), v11, .bool (decide ((t.tx + a) < 0)), v6, .bool (decide ((t.ty + b) < 0)), v12].toArray at hB26
  refine r_end (n_block (n_then (w_region (st (s_addl (c := 2) rfl rfl rfl (by decide) (st (s_move rfl (r_end ?_))))))))
  refine n_again (w_seq (w_region (st (s_lt rfl rfl ?_))))
  rw [show decide ((2 : Int) < 2) = false from rfl]
  refine r_end (n_then (w_seq (w_condF rfl (w_exit' (n_then_exit (n_then_exit ?_))))))
  refine n_block_exit (n_then (w_region (st (s_move rfl (st (s_nilp rfl (st (s_faddr fld72_0 rfl (st0 (s_store one4 rfl rfl rfl hB26 (of_decide_eq_true rfl) ?_))))))))))
  intro w99 hB27 k99 hs25
  refine r_end (n_end0 (fn := Try.f75) rfl ?_)
  have q0 : w.grownBy w99 (some g) := (kj_own (kj_own (kj_own (kj_none (kj_new (kj_new (kj_none (kj_none (kj_own (kj_own (kj_none (kj_new (kj_new (kj_none (kj_none (kj_none (kj_none (kj_refl g _) k1) k2) k7) k30) k31 (by omega)) k32 (by omega)) k34) k49) k50) k55) k78) k79 (by omega)) k80 (by omega)) k82) k97) k98) k99)
  have q1 := hB27
  have q2 := (((((((((((((hS5.ggB k31 hB7 (by decide) (by omega)).ggB k32 (hB8.gne k31 (by omega)) (by decide) (by omega)).gg0 k34).ggB k49 (((((((hB.g0 k1).g0 k2).g0 k7).g0 k30).gne k31 (by omega)).gne k32 (by omega)).g0 k34) (by decide) (by omega)).ggB k50 hB13 (by decide) (by omega)).gg0 k55).gg0 k78).ggB k79 hB19 (by decide) (by omega)).ggB k80 (hB20.gne k79 (by omega)) (by decide) (by omega)).gg0 k82).ggB k97 (((((hB14.g0 k55).g0 k78).gne k79 (by omega)).gne k80 (by omega)).g0 k82) (by decide) (by omega)).ggB k98 hB25 (by decide) (by omega)).ggB k99 hB26 (by decide) (by omega))
  have q3 := ((((((hS11.ggB k79 hB19 (by decide) (by omega)).ggB k80 (hB20.gne k79 (by omega)) (by decide) (by omega)).gg0 k82).ggB k97 (((((hB14.g0 k55).g0 k78).gne k79 (by omega)).gne k80 (by omega)).g0 k82) (by decide) (by omega)).ggB k98 hB25 (by decide) (by omega)).ggB k99 hB26 (by decide) (by omega))
  have q4 := (((((((((((((hS6.ggB k31 hB7 (by decide) (by omega)).ggB k32 (hB8.gne k31 (by omega)) (by decide) (by omega)).gg0 k34).ggB k49 (((((((hB.g0 k1).g0 k2).g0 k7).g0 k30).gne k31 (by omega)).gne k32 (by omega)).g0 k34) (by decide) (by omega)).ggB k50 hB13 (by decide) (by omega)).gg0 k55).gg0 k78).ggB k79 hB19 (by decide) (by omega)).ggB k80 (hB20.gne k79 (by omega)) (by decide) (by omega)).gg0 k82).ggB k97 (((((hB14.g0 k55).g0 k78).gne k79 (by omega)).gne k80 (by omega)).g0 k82) (by decide) (by omega)).ggB k98 hB25 (by decide) (by omega)).ggB k99 hB26 (by decide) (by omega))
  have q5 := ((((((hS12.ggB k79 hB19 (by decide) (by omega)).ggB k80 (hB20.gne k79 (by omega)) (by decide) (by omega)).gg0 k82).ggB k97 (((((hB14.g0 k55).g0 k78).gne k79 (by omega)).gne k80 (by omega)).g0 k82) (by decide) (by omega)).ggB k98 hB25 (by decide) (by omega)).ggB k99 hB26 (by decide) (by omega))
  have e : joinS s t a b = ⟨true, (t.fx + a), (t.fy + b), (t.tx + a), (t.ty + b)⟩ := by unfold joinS; rw [show t.some = true by simpa using h1, hso]; rfl
  rw [e]
  exact ⟨_, rfl, rfl, q0, _, _, _, _, q1, q2, q3, q4, q5⟩

theorem join_any {a0 w : World} {n0 : Nat} (hn0 : n0 ≤ a0.heap.size) {g : Nat} {s t : Spn} {a b : Int} {pa pb : Value} (hb0 : Below a0.heap.size a0 w) (hga : a0.heap.size ≤ g) {ufx : Value} {ufy : Value} {utx : Value} {uty : Value} (hufx : Sl Kd.u32 w (G 83 n0 w) ufx (ml s.fx)) (hufy : Sl Kd.u32 w (G 83 n0 w) ufy (ml s.fy)) (hutx : Sl Kd.u32 w (G 83 n0 w) utx (ml s.tx)) (huty : Sl Kd.u32 w (G 83 n0 w) uty (ml s.ty)) {vfx : Value} {vfy : Value} {vtx : Value} {vty : Value} (hvfx : Sl Kd.u32 w (G 83 n0 w) vfx (ml t.fx)) (hvfy : Sl Kd.u32 w (G 83 n0 w) vfy (ml t.fy)) (hvtx : Sl Kd.u32 w (G 83 n0 w) vtx (ml t.tx)) (hvty : Sl Kd.u32 w (G 83 n0 w) vty (ml t.ty)) (hB : Blk w g 72 [.bool s.some, .bool (decide (s.fx < 0)), ufx, .bool (decide (s.fy < 0)), ufy, .bool (decide (s.tx < 0)), utx, .bool (decide (s.ty < 0)), uty].toArray) (hpa : Sl Kd.u32 w (G 83 n0 w) pa (ml a)) (hpb : Sl Kd.u32 w (G 83 n0 w) pb (ml b)) (hsb : SpBd 43 s) (htb : SpBd 43 t) (hab : Bd 43 a) (hbb : Bd 43 b) :
    Calls Try.prog 75 [.pointer (some ⟨g, 0, none⟩), .agg [.bool t.some, .bool (decide (t.fx < 0)), vfx, .bool (decide (t.fy < 0)), vfy, .bool (decide (t.tx < 0)), vtx, .bool (decide (t.ty < 0)), vty].toArray, .agg [.bool (decide (a < 0)), pa, .bool (decide (b < 0)), pb].toArray].toArray w (Ret fun r W => r = .tuple #[] ∧ w.grownBy W (some g) ∧ ∃ a1 a2 a3 a4, Blk W g 72 [.bool (joinS s t a b).some, .bool (decide ((joinS s t a b).fx < 0)), a1, .bool (decide ((joinS s t a b).fy < 0)), a2, .bool (decide ((joinS s t a b).tx < 0)), a3, .bool (decide ((joinS s t a b).ty < 0)), a4].toArray ∧ Sl Kd.u32 W (G 83 n0 W) a1 (ml (joinS s t a b).fx) ∧ Sl Kd.u32 W (G 83 n0 W) a2 (ml (joinS s t a b).fy) ∧ Sl Kd.u32 W (G 83 n0 W) a3 (ml (joinS s t a b).tx) ∧ Sl Kd.u32 W (G 83 n0 W) a4 (ml (joinS s t a b).ty)) := by
  cases hso : s.some with
  | true => exact join_t hn0 hb0 hga hufx hufy hutx huty hvfx hvfy hvtx hvty hB hpa hpb hsb htb hso hab hbb
  | false => exact join_f hn0 hb0 hga hufx hufy hutx huty hvfx hvfy hvtx hvty hB hpa hpb hsb htb hso hab hbb
end Go.Proofs.Ytfljelnfjbbknaa.Lm
