/- Part of the proof: a library for walks, plain laws, and functions' walks. -/
import Derived.Test.YtfljelnfjbbknaaM11
set_option maxRecDepth 20000
set_option linter.unusedSimpArgs false
set_option linter.unusedVariables false
namespace Go.Proofs.Ytfljelnfjbbknaa.Lm
open Go.RowKit Go.Gw
set_option maxHeartbeats 1000000 in
theorem around_any {w : World} {F : Nat → Prop} {va : Value} {l : List RCl} {n0 : Nat} (hn0 : n0 ≤ w.heap.size) (hl : Sl (Kd.rcell 83 n0) w F va l) :
    Calls Try.prog 4 [va].toArray w (Pure w fun v _ => v = .bool true) := by
  have hb0 := Below.refl w.heap.size w
  have hln1 := hl.lenle
  refine enter Try.func4 rfl rfl (w_seq (w_region (st (s_assign rfl (r_end (n_then (w_seq ?_)))))))
  refine w_seq (w_region (st (s_call fn10 rfl (alive9_any (n0 := n0) (below_n0 hn0 hb0)) ?_)))
  rintro _ w1 ⟨hq1, rfl⟩
  have k1 := grown_of_below hq1 none
  have hz1 := hq1.size
  have hb1 := below_g0 hb0 k1
  have hz2 := hb1.size
  refine st (s_not rfl (r_end (n_then (w_condF rfl (w_skip' (n_then (w_seq ?_)))))))
  refine w_region (st (s_move rfl (st (s_call fn18 rfl (quad_any (m := 30) (n0 := n0) (below_n0 hn0 hb1) (hl.at0 hb1) (by omega)) ?_))))
  rintro _ w2 ⟨hq2, sv1, rfl, hS1⟩
  have hS2 := hS1.loc
  have k2 := grown_of_below hq2 none
  have hz3 := hq2.size
  have hb2 := below_g0 hb1 k2
  have hz4 := hb2.size
  refine st (s_move rfl (st (s_extract rfl rfl (st (s_extract rfl rfl (st (s_alloc zero25 ?_)))))))
  intro g1 w3 hg1 hB1 k3 hs1
  have hz5 := hb2.size
  have hb3 := below_g0 hb2 k3
  refine st0 (s_storeN row25 rfl rfl hB1 (by simp only [List.all_cons, List.all_nil, hS2.one, Bool.and_true, Bool.and_self] <;> rfl) rfl rfl ?_)
  intro w4 hB2 k4 hs2
  have hb4 := below_g hb3 k4 (by first | omega | (have h9 := (hb3).size; omega))
  refine st (s_assign rfl (r_end (n_then (w_seq (w_seq (w_region (st (s_move rfl ?_))))))))
  refine st (s_not rfl (r_end (n_then ?_)))
  refine w_cond rfl (fun h1 => ?_) (fun h1 => ?_)
  · refine w_seq (w_region (st (s_assign rfl (r_end (n_then (w_ret1 rfl rfl ?_))))))
    exact ⟨_, rfl, hb4, rfl⟩
  have hq := quad_ok (m := 30) hl (by simpa using h1)
  have hlc := cells_right hl hq.all
  refine w_skip' (n_then (w_seq (w_region (st (s_move rfl (st (s_call fn19 rfl (last_any (n0 := n0) (below_n0 hn0 hb4) (hlc.at0 hb4) hq.cb (by have := hq.len; simp; omega)) ?_)))))))
  rintro v1 w5 ⟨hq3, hO1⟩
  have k5 := grown_of_below hq3 none
  have hz6 := hq3.size
  have hb5 := below_g0 hb4 k5
  have hz7 := hb5.size
  have hO2 := hO1.rebase (b' := w.heap.size) hb4.size
  have hcs := cbd_lastL hq.cb
  have hls := lastL_len (l.map toCl)
  rw [List.length_map] at hls
  have hqn := hq.len
  refine st (s_assign rfl (r_end (n_then (w_seq (w_region (st (s_loadW row25 rfl (hB2.g0 k5).range rfl (st (s_call fn12 rfl (bof_any (n0 := n0) (below_n0 hn0 hb5) ((Sl.gSmall node_flat (hS2.g0 k3) k4 hB1 (by decide)).g0 k5) hq.can.ok (by have := hq.nodes; have := hq.len; omega)) ?_)))))))))
  rintro _ w6 ⟨hq4, _, rfl, v2, v3, v4, v5, rfl, hS3, hS4, hS5, hS6⟩
  have k6 := grown_of_below hq4 none
  have hz8 := hq4.size
  have hb6 := below_g0 hb5 k6
  have hz9 := hb6.size
  have hO3 := hO2.g0 k6
  refine st (s_move rfl (st (s_extract rfl rfl (st (s_extract rfl rfl ?_)))))
  have hlt_1 := (((hB2.g0 k5).g0 k6)).lt
  refine st (s_alloc zero33 ?_)
  intro g2 w7 hg2 hB3 k7 hs3
  have hz10 := hb6.size
  have hb7 := below_g0 hb6 k7
  have hO4 := hO3.g0 k7
  refine st0 (s_storeN row33 rfl rfl hB3 (by simp only [List.all_cons, List.all_nil, hS3.one, hS4.one, hS5.one, hS6.one, Bool.and_true, Bool.and_self] <;> rfl) rfl rfl ?_)
  intro w8 hB4 k8 hs4
  have hb8 := below_g hb7 k8 (by first | omega | (have h9 := (hb7).size; omega))
  have hO5 := Own.keptG (cell_gk 83 n0) hO4 k8 (Blk.isG hB3 (by decide) (by omega)) (hO4.neB hB3 (by decide))
  refine st (s_assign rfl (r_end (n_then (w_seq (w_seq (w_region (st (s_move rfl ?_))))))))
  refine st (s_len sl39 rfl hO5.sl.loc (st (s_eq rfl rfl (r_end (n_then ?_)))))
  refine w_condP rfl (fun h2 => ?_) (fun h2 => ?_)
  · have hQ0 := hq.nil h2
    refine w_seq (w_region (st (s_move rfl (st (s_not rfl (st (s_move rfl ?_)))))))
    refine r_case 35 rfl (fun h3 => ?_) (fun h3 => absurd ((show (!(bxs ((quadR l 30).1)).some) = true by rw [hQ0]; rfl).symm.trans h3) (by decide))
    refine stg (s_loadW row33 rfl hB4.range rfl (stg (s_build (ps := []) (ccs := []) (cells := [.bool false, .slice none 0 0, .bool false, .slice none 0 0, .bool false, .slice none 0 0, .bool false, .slice none 0 0]) rfl rfl (by kernel_rfl) ?_)))
    refine stg (s_call fn14 rfl (rbxsame_any (a := (bxOf ((quadR l 30).1))) (b := (⟨0, 0, 0, 0⟩ : Bx)) (((hS3.gg0 k7).ggB k8 hB3 (by decide) (by omega))).none (((hS4.gg0 k7).ggB k8 hB3 (by decide) (by omega))).none (((hS5.gg0 k7).ggB k8 hB3 (by decide) (by omega))).none (((hS6.gg0 k7).ggB k8 hB3 (by decide) (by omega))).none (show Sl Kd.u32 _ (fun _ => False) (.slice none 0 0) (ml 0) by rw [ml_zero]; exact ⟨none, 0, rfl, by simp, by simp [maxLen], fun i x hx => by simp at hx⟩) (show Sl Kd.u32 _ (fun _ => False) (.slice none 0 0) (ml 0) by rw [ml_zero]; exact ⟨none, 0, rfl, by simp, by simp [maxLen], fun i x hx => by simp at hx⟩) (show Sl Kd.u32 _ (fun _ => False) (.slice none 0 0) (ml 0) by rw [ml_zero]; exact ⟨none, 0, rfl, by simp, by simp [maxLen], fun i x hx => by simp at hx⟩) (show Sl Kd.u32 _ (fun _ => False) (.slice none 0 0) (ml 0) by rw [ml_zero]; exact ⟨none, 0, rfl, by simp, by simp [maxLen], fun i x hx => by simp at hx⟩)) ?_)
    rintro v6 w9 ⟨hq5, hv1⟩
    rw [show (decide ((bxOf ((quadR l 30).1)) = (⟨0, 0, 0, 0⟩ : Bx))) = true from (by rw [hQ0]; decide)] at hv1
    subst hv1
    have k9 := grown_of_below hq5 none
    have hz11 := hq5.size
    have hb9 := below_g0 hb8 k9
    have hz12 := hb9.size
    refine st (s_pick rfl rfl (st (s_assign rfl (r_end (n_then (w_ret1 rfl rfl ?_))))))
    exact ⟨_, rfl, hb9, rfl⟩
  have hsm := hq.some h2
  have harr := box_around hq.can hsm
  refine w_skip' (n_then (w_seq (w_region (st (s_call fn20 rfl (rof2_any (n0 := n0) (below_n0 hn0 hb8) (by omega)) ?_)))))
  rintro _ w10 ⟨hq6, v7, rfl, hS7⟩
  have k10 := grown_of_below hq6 none
  have hz13 := hq6.size
  have hb10 := below_g0 hb8 k10
  have hz14 := hb10.size
  have hO7 := hO5.g0 k10
  have hlt_2 := ((((((hB2.g0 k5).g0 k6).g0 k7).gne k8 (by omega)).g0 k10)).lt
  have hlt_3 := ((hB4.g0 k10)).lt
  refine st (s_alloc zero31 ?_)
  intro g3 w11 hg3 hB5 k11 hs5
  have hz15 := hb10.size
  have hb11 := below_g0 hb10 k11
  have hO8 := hO7.g0 k11
  refine st0 (s_storeN row31 rfl rfl hB5 (by simp only [List.all_cons, List.all_nil, hS7.one, Bool.and_true, Bool.and_self] <;> rfl) rfl rfl ?_)
  intro w12 hB6 k12 hs6
  have hb12 := below_g hb11 k12 (by first | omega | (have h9 := (hb11).size; omega))
  have hO9 := Own.keptG (cell_gk 83 n0) hO8 k12 (Blk.isG hB5 (by decide) (by omega)) (hO8.neB hB5 (by decide))
  refine r_end (n_then (w_seq ?_))
  have hlt_11 := ((((((((hB2.g0 k5).g0 k6).g0 k7).gne k8 (by omega)).g0 k10).g0 k11).gne k12 (by omega))).lt
  have hlt_12 := ((((hB4.g0 k10).g0 k11).gne k12 (by omega))).lt
  have hlt_13 := (hB6).lt
  refine w_drawF 16 (fun a b => a.grownBy b none) [(some 41, Is <| .pointer (some ⟨g2, 0 + 0, none⟩)), (some 42, Is <| .agg [.bool (decide ((bxOf ((quadR l 30).1)).x < 0)), v2].toArray), (some 43, Is <| .pointer (some ⟨g2, 0 + 4, none⟩)), (some 44, Is <| .agg [.bool (decide ((bxOf ((quadR l 30).1)).w < 0)), v4].toArray), (some 45, fun v W => IsBig 83 n0 W v ((((bxOf ((quadR l 30).1)).x) + ((bxOf ((quadR l 30).1)).w)))), (some 46, Is <| .agg [.bool (decide ((1 : Int) < 0)), v7].toArray), (some 47, fun v W => IsBig 83 n0 W v (((((bxOf ((quadR l 30).1)).x) + ((bxOf ((quadR l 30).1)).w)) - (1 : Int)))), (some 48, Is <| .pointer (some ⟨g2, 0 + 2, none⟩)), (some 49, Is <| .agg [.bool (decide ((bxOf ((quadR l 30).1)).y < 0)), v3].toArray), (some 50, Is <| .pointer (some ⟨g2, 0 + 6, none⟩)), (some 51, Is <| .agg [.bool (decide ((bxOf ((quadR l 30).1)).h < 0)), v5].toArray), (some 52, fun v W => IsBig 83 n0 W v ((((bxOf ((quadR l 30).1)).y) + ((bxOf ((quadR l 30).1)).h)))), (some 53, Is <| .agg [.bool (decide ((1 : Int) < 0)), v7].toArray), (some 54, fun v W => IsBig 83 n0 W v (((((bxOf ((quadR l 30).1)).y) + ((bxOf ((quadR l 30).1)).h)) - (1 : Int)))), (some 9, fun v W => ∃ g, v = .pointer (some ⟨g, 0, none⟩) ∧ Blk W g 31 #[.bool false, .slice none 0 0] ∧ w12.heap.size ≤ g), (some 10, fun v W => ∃ g, v = .pointer (some ⟨g, 0, none⟩) ∧ Blk W g 31 #[.bool false, .slice none 0 0] ∧ w12.heap.size ≤ g)] [[], [0], [], [2], [1, 3], [], [4, 5], [], [7], [], [9], [8, 10], [], [11, 12], [], []] [false, false, false, false, false, false, false, false, false, false, false, false, false, false, true, true] [(2, .bool false), (5, v1), (6, .pointer (some ⟨g2, 0, none⟩)), (7, .bool ((bxs ((quadR l 30).1)).some)), (8, .pointer (some ⟨g3, 0, none⟩))] (by exact ⟨rfl, rfl, rfl, rfl, rfl, trivial⟩) (by kernel_rfl) (by kernel_rfl) grown_none_refl (fun _ _ _ => grown_none_trans) ⟨kv, kv, kv, kv, fun _ _ _ h k => h.g0 k, kv, fun _ _ _ h k => h.g0 k, kv, kv, kv, kv, fun _ _ _ h k => h.g0 k, kv, fun _ _ _ h k => h.g0 k, fun _ _ _ h k => by obtain ⟨g, e, hB, hg⟩ := h; exact ⟨g, e, hB.g0 k, hg⟩, fun _ _ _ h k => by obtain ⟨g, e, hB, hg⟩ := h; exact ⟨g, e, hB.g0 k, hg⟩, trivial⟩ ⟨(fun h => by cases h), (fun h => by cases h), (fun h => by cases h), (fun h => by cases h), (fun h => by cases h), (fun h => by cases h), (fun h => by cases h), (fun h => by cases h), (fun h => by cases h), (fun h => by cases h), (fun h => by cases h), (fun h => by cases h), (fun h => by cases h), (fun h => by cases h), fun _ _ _ ⟨g, e, hB, _⟩ => ⟨g, e, hB.lt⟩, fun _ _ _ ⟨g, e, hB, _⟩ => ⟨g, e, hB.lt⟩, trivial⟩ ?_
  intro w19 k19 hs9
  have hb13 := below_g0 hb12 k19
  have hO10 := hO9.g0 k19
  refine ⟨⟨?_, ?_, ?_, ?_, ?_, ?_, ?_, ?_, ?_, ?_, ?_, ?_, ?_, ?_, ?_, ?_, trivial⟩, ?_⟩
  · intro w20 k20
    refine op1 (s_faddr fld33_0 rfl ?_)
    exact ⟨rfl, grown_none_refl _, fun h => by cases h⟩
  · intro w21 k21
    rintro _ rfl
    refine op1 (s_loadN (us := [.bool (decide ((bxOf ((quadR l 30).1)).x < 0)), v2]) row31 rfl (((((hB4.g0 k10).g0 k11).gne k12 (by omega)).g0 k19).g0 k21).range (j := 0) rfl rfl ?_)
    exact ⟨rfl, grown_none_refl _, fun h => by cases h⟩
  · intro w22 k22
    refine op1 (s_faddr fld33_2 rfl ?_)
    exact ⟨rfl, grown_none_refl _, fun h => by cases h⟩
  · intro w23 k23
    rintro _ rfl
    refine op1 (s_loadN (us := [.bool (decide ((bxOf ((quadR l 30).1)).w < 0)), v4]) row31 rfl (((((hB4.g0 k10).g0 k11).gne k12 (by omega)).g0 k19).g0 k23).range (j := 4) rfl rfl ?_)
    exact ⟨rfl, grown_none_refl _, fun h => by cases h⟩
  · intro w24 k24
    have hb18 := below_g0 hb13 k24
    rintro _ rfl _ rfl
    refine op1 (s_call fn22 rfl (rbadd_any (n0 := n0) (below_n0 hn0 hb18) (big_of rfl (((((((hS3.gg0 k7).ggB k8 hB3 (by decide) (by omega)).gg0 k10).gg0 k11).ggB k12 hB5 (by decide) (by omega)).gg0 k19).gg0 k24)) (big_of rfl (((((((hS5.gg0 k7).ggB k8 hB3 (by decide) (by omega)).gg0 k10).gg0 k11).ggB k12 hB5 (by decide) (by omega)).gg0 k19).gg0 k24)) (Bd.le (bxOf_bd (l := (quadR l 30).1) hq.can.ok).x (show 44 ≤ 90000 by decide)) (Bd.le (bxOf_bd (l := (quadR l 30).1) hq.can.ok).w (show 44 ≤ 90000 by decide))) ?_)
    rintro _ w25 ⟨hq11, v12, rfl, hS12⟩
    have k25 := grown_of_below hq11 none
    have hz16 := hq11.size
    have hb19 := below_g0 hb18 k25
    have hz17 := hb19.size
    exact ⟨⟨_, rfl, hS12⟩, k25, fun h => by cases h⟩
  · intro w26 k26
    refine op1 (s_loadW row31 rfl ((hB6.g0 k19).g0 k26).range rfl ?_)
    exact ⟨rfl, grown_none_refl _, fun h => by cases h⟩
  · intro w27 k27
    have hb21 := below_g0 hb13 k27
    rintro _ ⟨v13, rfl, hS13⟩ _ rfl
    refine op1 (s_call fn21 rfl (rbsub_any (n0 := n0) (below_n0 hn0 hb21) (big_of rfl hS13) (big_of rfl ((((hS7.gg0 k11).ggB k12 hB5 (by decide) (by omega)).gg0 k19).gg0 k27)) (Bd.le (bd_add (bxOf_bd (l := (quadR l 30).1) hq.can.ok).x (bxOf_bd (l := (quadR l 30).1) hq.can.ok).w (show 44 < 45 by decide) (show 44 < 45 by decide)) (show 45 ≤ 90000 by decide)) (Bd.le (bd_small (by omega)) (show 2 ≤ 90000 by decide))) ?_)
    rintro _ w28 ⟨hq12, v14, rfl, hS14⟩
    have k28 := grown_of_below hq12 none
    have hz18 := hq12.size
    have hb22 := below_g0 hb21 k28
    have hz19 := hb22.size
    exact ⟨⟨_, rfl, hS14⟩, k28, fun h => by cases h⟩
  · intro w29 k29
    refine op1 (s_faddr fld33_1 rfl ?_)
    exact ⟨rfl, grown_none_refl _, fun h => by cases h⟩
  · intro w30 k30
    rintro _ rfl
    refine op1 (s_loadN (us := [.bool (decide ((bxOf ((quadR l 30).1)).y < 0)), v3]) row31 rfl (((((hB4.g0 k10).g0 k11).gne k12 (by omega)).g0 k19).g0 k30).range (j := 2) rfl rfl ?_)
    exact ⟨rfl, grown_none_refl _, fun h => by cases h⟩
  · intro w31 k31
    refine op1 (s_faddr fld33_3 rfl ?_)
    exact ⟨rfl, grown_none_refl _, fun h => by cases h⟩
  · intro w32 k32
    rintro _ rfl
    refine op1 (s_loadN (us := [.bool (decide ((bxOf ((quadR l 30).1)).h < 0)), v5]) row31 rfl (((((hB4.g0 k10).g0 k11).gne k12 (by omega)).g0 k19).g0 k32).range (j := 6) rfl rfl ?_)
    exact ⟨rfl, grown_none_refl _, fun h => by cases h⟩
  · intro w33 k33
    have hb27 := below_g0 hb13 k33
    rintro _ rfl _ rfl
    refine op1 (s_call fn22 rfl (rbadd_any (n0 := n0) (below_n0 hn0 hb27) (big_of rfl (((((((hS4.gg0 k7).ggB k8 hB3 (by decide) (by omega)).gg0 k10).gg0 k11).ggB k12 hB5 (by decide) (by omega)).gg0 k19).gg0 k33)) (big_of rfl (((((((hS6.gg0 k7).ggB k8 hB3 (by decide) (by omega)).gg0 k10).gg0 k11).ggB k12 hB5 (by decide) (by omega)).gg0 k19).gg0 k33)) (Bd.le (bxOf_bd (l := (quadR l 30).1) hq.can.ok).y (show 44 ≤ 90000 by decide)) (Bd.le (bxOf_bd (l := (quadR l 30).1) hq.can.ok).h (show 44 ≤ 90000 by decide))) ?_)
    rintro _ w34 ⟨hq13, v15, rfl, hS15⟩
    have k34 := grown_of_below hq13 none
    have hz20 := hq13.size
    have hb28 := below_g0 hb27 k34
    have hz21 := hb28.size
    exact ⟨⟨_, rfl, hS15⟩, k34, fun h => by cases h⟩
  · intro w35 k35
    refine op1 (s_loadW row31 rfl ((hB6.g0 k19).g0 k35).range rfl ?_)
    exact ⟨rfl, grown_none_refl _, fun h => by cases h⟩
  · intro w36 k36
    have hb30 := below_g0 hb13 k36
    rintro _ ⟨v16, rfl, hS16⟩ _ rfl
    refine op1 (s_call fn21 rfl (rbsub_any (n0 := n0) (below_n0 hn0 hb30) (big_of rfl hS16) (big_of rfl ((((hS7.gg0 k11).ggB k12 hB5 (by decide) (by omega)).gg0 k19).gg0 k36)) (Bd.le (bd_add (bxOf_bd (l := (quadR l 30).1) hq.can.ok).y (bxOf_bd (l := (quadR l 30).1) hq.can.ok).h (show 44 < 45 by decide) (show 44 < 45 by decide)) (show 45 ≤ 90000 by decide)) (Bd.le (bd_small (by omega)) (show 2 ≤ 90000 by decide))) ?_)
    rintro _ w37 ⟨hq14, v17, rfl, hS17⟩
    have k37 := grown_of_below hq14 none
    have hz22 := hq14.size
    have hb31 := below_g0 hb30 k37
    have hz23 := hb31.size
    exact ⟨⟨_, rfl, hS17⟩, k37, fun h => by cases h⟩
  · intro w38 k38
    have hb32 := below_g0 hb13 k38
    have hlt_14 := ((((((((((hB2.g0 k5).g0 k6).g0 k7).gne k8 (by omega)).g0 k10).g0 k11).gne k12 (by omega)).g0 k19).g0 k38)).lt
    have hlt_15 := ((((((hB4.g0 k10).g0 k11).gne k12 (by omega)).g0 k19).g0 k38)).lt
    have hlt_16 := (((hB6.g0 k19).g0 k38)).lt
    refine op1 (s_alloc zero31 ?_)
    intro g6 w39 hg6 hB9 k39 hs10
    have hz24 := hb32.size
    exact ⟨⟨_, rfl, hB9, by have h0_ := k19.size; have h1_ := k38.size; have h2_ := k39.size; omega⟩, k39, fun _ => ⟨_, rfl, by omega⟩⟩
  · intro w40 k40
    have hb34 := below_g0 hb13 k40
    have hlt_17 := ((((((((((hB2.g0 k5).g0 k6).g0 k7).gne k8 (by omega)).g0 k10).g0 k11).gne k12 (by omega)).g0 k19).g0 k40)).lt
    have hlt_18 := ((((((hB4.g0 k10).g0 k11).gne k12 (by omega)).g0 k19).g0 k40)).lt
    have hlt_19 := (((hB6.g0 k19).g0 k40)).lt
    refine op1 (s_alloc zero31 ?_)
    intro g7 w41 hg7 hB10 k41 hs11
    have hz25 := hb34.size
    exact ⟨⟨_, rfl, hB10, by have h0_ := k19.size; have h1_ := k40.size; have h2_ := k41.size; omega⟩, k41, fun _ => ⟨_, rfl, by omega⟩⟩
  intro w42 k42
  have hb36 := below_g0 hb13 k42
  have hO33 := hO10.g0 k42
  have hz26 := k19.size
  have hz27 := k42.size
  rintro _ rfl _ rfl _ rfl _ rfl _ ⟨v18, rfl, hS18⟩ _ rfl _ ⟨v19, rfl, hS19⟩ _ rfl _ rfl _ rfl _ rfl _ ⟨v20, rfl, hS20⟩ _ rfl _ ⟨v21, rfl, hS21⟩ _ ⟨g8, rfl, hB11, hg8⟩
  have hlt_20 := hB11.lt
  rintro hnf1 _ ⟨g9, rfl, hB12, hg9⟩
  have hlt_21 := hB12.lt
  intro hnf2
  have hne1 : g8 ≠ g9 := fresh_ne (hnf2 _ (by simp))
  refine st0 (s_storeN row31 rfl rfl hB11 (by simp only [List.all_cons, List.all_nil, hS19.one, Bool.and_true, Bool.and_self] <;> rfl) rfl rfl ?_)
  intro w43 hB13 k43 hs12
  have hb37 := below_g hb36 k43 (by first | omega | (have h9 := (hb36).size; omega))
  have hO34 := Own.keptG (cell_gk 83 n0) hO33 k43 (Blk.isG hB11 (by decide) (by omega)) (hO33.neB hB11 (by decide))
  refine st0 (s_storeN row31 rfl rfl (hB12.gne k43 (by omega)) (by simp only [List.all_cons, List.all_nil, hS21.one, Bool.and_true, Bool.and_self] <;> rfl) rfl rfl ?_)
  intro w44 hB14 k44 hs13
  have hb38 := below_g hb37 k44 (by first | omega | (have h9 := (hb37).size; omega))
  have hO35 := Own.keptG (cell_gk 83 n0) hO34 k44 (Blk.isG (hB12.gne k43 (by omega)) (by decide) (by omega)) (hO34.neB (hB12.gne k43 (by omega)) (by decide))
  refine r_end (n_then (w_seq (w_region ?_)))
  have hlt_22 := ((((((((((((hB2.g0 k5).g0 k6).g0 k7).gne k8 (by omega)).g0 k10).g0 k11).gne k12 (by omega)).g0 k19).g0 k42).gne k43 (by omega)).gne k44 (by omega))).lt
  have hlt_23 := ((((((((hB4.g0 k10).g0 k11).gne k12 (by omega)).g0 k19).g0 k42).gne k43 (by omega)).gne k44 (by omega))).lt
  have hlt_24 := (((((hB6.g0 k19).g0 k42).gne k43 (by omega)).gne k44 (by omega))).lt
  have hlt_25 := ((hB13.gne k44 (by omega))).lt
  have hlt_26 := (hB14).lt
  refine st (s_alloc zero45 ?_)
  intro g10 w45 hg10 hB15 k45 hs14
  have hz28 := hb38.size
  have hb39 := below_g0 hb38 k45
  have hO36 := hO35.g0 k45
  refine r_end (n_then (w_seq (w_seq (w_region (st (s_assign rfl (r_end ?_)))))))
  refine n_then (w_block ?_)
  refine w_loop (α := Int × Bool × Bool × Bool × Bool) (fun ((i, t0, t1, t2, t3) : Int × Bool × Bool × Bool × Bool) => [(5, v1), (6, .pointer (some ⟨g2, 0, none⟩)), (7, .bool ((bxs ((quadR l 30).1)).some)), (9, .pointer (some ⟨g8, 0, none⟩)), (10, .pointer (some ⟨g9, 0, none⟩)), (11, .pointer (some ⟨g10, 0, none⟩)), (12, .int .i64 i)]) (fun ((i, t0, t1, t2, t3) : Int × Bool × Bool × Bool × Bool) W => Below w.heap.size w W ∧ (0 ≤ i ∧ i ≤ (lastL (l.map toCl)).length) ∧ (t0 = ((lastL (l.map toCl)).take i.toNat).any (fun c => decide ((c).x = (bxOf ((quadR l 30).1)).x))) ∧ (t1 = ((lastL (l.map toCl)).take i.toNat).any (fun c => decide ((c).x = (bxOf ((quadR l 30).1)).x + (bxOf ((quadR l 30).1)).w - 1))) ∧ (t2 = ((lastL (l.map toCl)).take i.toNat).any (fun c => decide ((c).y = (bxOf ((quadR l 30).1)).y))) ∧ (t3 = ((lastL (l.map toCl)).take i.toNat).any (fun c => decide ((c).y = (bxOf ((quadR l 30).1)).y + (bxOf ((quadR l 30).1)).h - 1))) ∧ (Gw.Own (Kd.cell 83 n0) 47 w.heap.size W (fun _ => False) v1 (lastL (l.map toCl))) ∧ (Blk W g2 33 [.bool (decide ((bxOf ((quadR l 30).1)).x < 0)), v2, .bool (decide ((bxOf ((quadR l 30).1)).y < 0)), v3, .bool (decide ((bxOf ((quadR l 30).1)).w < 0)), v4, .bool (decide ((bxOf ((quadR l 30).1)).h < 0)), v5].toArray) ∧ (Blk W g3 31 [.bool (decide ((1 : Int) < 0)), v7].toArray) ∧ (Blk W g8 31 [.bool (decide (((((bxOf ((quadR l 30).1)).x) + ((bxOf ((quadR l 30).1)).w)) - (1 : Int)) < 0)), v19].toArray) ∧ (Blk W g9 31 [.bool (decide (((((bxOf ((quadR l 30).1)).y) + ((bxOf ((quadR l 30).1)).h)) - (1 : Int)) < 0)), v21].toArray) ∧ (Blk W g10 45 [.bool t0, .bool t1, .bool t2, .bool t3].toArray) ∧ (Sl Kd.u32 W (G 83 n0 W) v2 (ml ((bxOf ((quadR l 30).1)).x))) ∧ (Sl Kd.u32 W (G 83 n0 W) v3 (ml ((bxOf ((quadR l 30).1)).y))) ∧ (Sl Kd.u32 W (G 83 n0 W) v4 (ml ((bxOf ((quadR l 30).1)).w))) ∧ (Sl Kd.u32 W (G 83 n0 W) v5 (ml ((bxOf ((quadR l 30).1)).h))) ∧ (Sl Kd.u32 W (G 83 n0 W) v7 (ml (1 : Int))) ∧ (Sl Kd.u32 W (G 83 n0 W) v19 (ml ((((bxOf ((quadR l 30).1)).x) + ((bxOf ((quadR l 30).1)).w)) - (1 : Int)))) ∧ (Sl Kd.u32 W (G 83 n0 W) v21 (ml ((((bxOf ((quadR l 30).1)).y) + ((bxOf ((quadR l 30).1)).h)) - (1 : Int))))) (fun ((i, t0, t1, t2, t3) : Int × Bool × Bool × Bool × Bool) => ((lastL (l.map toCl)).length - i).toNat) ((0), (false), (false), (false), (false)) ⟨hb39, by omega, rfl, rfl, rfl, rfl, hO36, ((((((((hB4.g0 k10).g0 k11).gne k12 (by omega)).g0 k19).g0 k42).gne k43 (by omega)).gne k44 (by omega)).g0 k45), (((((hB6.g0 k19).g0 k42).gne k43 (by omega)).gne k44 (by omega)).g0 k45), ((hB13.gne k44 (by omega)).g0 k45), (hB14.g0 k45), hB15, ((((((((((hS3.gg0 k7).ggB k8 hB3 (by decide) (by omega)).gg0 k10).gg0 k11).ggB k12 hB5 (by decide) (by omega)).gg0 k19).gg0 k42).ggB k43 hB11 (by decide) (by omega)).ggB k44 (hB12.gne k43 (by omega)) (by decide) (by omega)).gg0 k45), ((((((((((hS4.gg0 k7).ggB k8 hB3 (by decide) (by omega)).gg0 k10).gg0 k11).ggB k12 hB5 (by decide) (by omega)).gg0 k19).gg0 k42).ggB k43 hB11 (by decide) (by omega)).ggB k44 (hB12.gne k43 (by omega)) (by decide) (by omega)).gg0 k45), ((((((((((hS5.gg0 k7).ggB k8 hB3 (by decide) (by omega)).gg0 k10).gg0 k11).ggB k12 hB5 (by decide) (by omega)).gg0 k19).gg0 k42).ggB k43 hB11 (by decide) (by omega)).ggB k44 (hB12.gne k43 (by omega)) (by decide) (by omega)).gg0 k45), ((((((((((hS6.gg0 k7).ggB k8 hB3 (by decide) (by omega)).gg0 k10).gg0 k11).ggB k12 hB5 (by decide) (by omega)).gg0 k19).gg0 k42).ggB k43 hB11 (by decide) (by omega)).ggB k44 (hB12.gne k43 (by omega)) (by decide) (by omega)).gg0 k45), (((((((hS7.gg0 k11).ggB k12 hB5 (by decide) (by omega)).gg0 k19).gg0 k42).ggB k43 hB11 (by decide) (by omega)).ggB k44 (hB12.gne k43 (by omega)) (by decide) (by omega)).gg0 k45), (((hS19.ggB k43 hB11 (by decide) (by omega)).ggB k44 (hB12.gne k43 (by omega)) (by decide) (by omega)).gg0 k45), (((hS21.ggB k43 hB11 (by decide) (by omega)).ggB k44 (hB12.gne k43 (by omega)) (by decide) (by omega)).gg0 k45)⟩ (by exact ⟨rfl, rfl, rfl, rfl, rfl, rfl, rfl, trivial⟩) ?_
  rintro ⟨i, t0, t1, t2, t3⟩ w46 ⟨hb40, hi, ht0, ht1, ht2, ht3, hOl, hbl1, hbl2, hbl3, hbl4, hbl5, hsl1_1, hsl1_3, hsl1_5, hsl1_7, hsl2_1, hsl3_1, hsl4_1⟩
  dsimp only at *
  have hz29 := hb40.size
  have hbl1l := hbl1.lt
  have hbl2l := hbl2.lt
  have hbl3l := hbl3.lt
  have hbl4l := hbl4.lt
  have hbl5l := hbl5.lt
  refine w_seq (w_seq (w_region (st (s_move rfl (st (s_move rfl (st (s_len sl39 rfl hOl.sl.loc (st (s_lt rfl rfl ?_))))))))))
  refine r_end (n_then ?_)
  refine w_condP rfl (fun h4 => ?_) (fun h4 => ?_)
  rotate_left
  · have e0 : t0 = true := any_all (by omega) ht0 (hq.west harr)
    have e1 : t1 = true := any_all (by omega) ht1 (hq.east harr)
    have e2 : t2 = true := any_all (by omega) ht2 (hq.north harr)
    have e3 : t3 = true := any_all (by omega) ht3 (hq.south harr)
    refine w_exit' (n_then_exit (n_then_exit (n_block_exit (n_then (w_seq (w_region ?_))))))
    refine st (s_move rfl (st (s_move rfl ?_)))
    refine r_case 132 rfl (fun h13 => ?_) (fun h13 => absurd (hsm.symm.trans h13) (by decide))
    refine stg (s_iaddr arr45 rfl rfl (by omega) (by omega) (stg (s_load one4 rfl hbl5.range (j := 0) rfl (st (s_pick rfl rfl (st (s_move rfl ?_)))))))
    refine r_case 136 rfl (fun h14 => ?_) (fun h14 => absurd (e0.symm.trans h14) (by decide))
    refine stg (s_iaddr arr45 rfl rfl (by omega) (by omega) (stg (s_load one4 rfl hbl5.range (j := 1) rfl (st (s_pick rfl rfl (st (s_move rfl ?_)))))))
    refine r_case 140 rfl (fun h15 => ?_) (fun h15 => absurd (e1.symm.trans h15) (by decide))
    refine stg (s_iaddr arr45 rfl rfl (by omega) (by omega) (stg (s_load one4 rfl hbl5.range (j := 2) rfl (st (s_pick rfl rfl (st (s_move rfl ?_)))))))
    refine r_case 144 rfl (fun h16 => ?_) (fun h16 => absurd (e2.symm.trans h16) (by decide))
    refine stg (s_iaddr arr45 rfl rfl (by omega) (by omega) (stg (s_load one4 rfl hbl5.range (j := 3) rfl (st (s_pick rfl rfl (st (s_assign rfl (r_end (n_then (w_ret1 rfl rfl ?_))))))))))
    exact ⟨_, rfl, hb40, by rw [e3]⟩
  have hlt := h4
  have hrg := hq.rng harr hi.1 hlt
  refine w_skip' (n_then (w_seq (w_block (w_seq (w_region (st (s_move rfl ?_)))))))
  refine st (s_move rfl (st (s_idx sl39 rfl rfl hOl.sl.loc (by omega) (by omega) ?_)))
  rintro b1 o1 _ ⟨ca1, cb1, rfl, hca1, hcb1, hcs1⟩ hc1 hF1 hlt1
  replace hca1 := hca1.ofGF
  replace hcb1 := hcb1.ofGF
  refine st (s_loadW row47 rfl hc1 rfl ?_)
  have hlt_27 := (hbl1).lt
  have hlt_28 := (hbl2).lt
  have hlt_29 := (hbl3).lt
  have hlt_30 := (hbl4).lt
  have hlt_31 := (hbl5).lt
  refine st (s_alloc zero47 ?_)
  intro g11 w47 hg11 hB16 k46 hs15
  have hz30 := hb40.size
  have hn1 := own_new hOl hg11
  have hb41 := below_g0 hb40 k46
  have hO37 := hOl.g0 k46
  refine st0 (s_storeN row47 rfl rfl hB16 (by simp only [List.all_cons, List.all_nil, hca1.one, hcb1.one, Bool.and_true, Bool.and_self] <;> rfl) rfl rfl ?_)
  intro w48 hB17 k47 hs16
  have hb42 := below_g hb41 k47 (by first | omega | (have h9 := (hb41).size; omega))
  have hO38 := Own.keptG (cell_gk 83 n0) hO37 k47 (Blk.isG hB16 (by decide) (by omega)) hn1
  refine r_end (n_then (w_seq (w_seq (w_region (st (s_faddr fld47_0 rfl (st (s_loadN (us := [.bool (decide ((ix (lastL (l.map toCl)) i).x < 0)), ca1]) row31 rfl hB17.range (j := 0) rfl rfl ?_))))))))
  refine st (s_faddr fld33_0 rfl (st (s_loadN (us := [.bool (decide ((bxOf ((quadR l 30).1)).x < 0)), v2]) row31 rfl ((hbl1.g0 k46).gne k47 (by omega)).range (j := 0) rfl rfl (st (s_call fn23 rfl (rbcmp_any (n0 := n0) (below_n0 hn0 hb42) (big_of rfl ((hca1.gg0 k46).ggB k47 hB16 (by decide) (by omega))) (big_of rfl ((hsl1_1.gg0 k46).ggB k47 hB16 (by decide) (by omega))) (Bd.le (cbd_ix hcs (by omega) (by omega)).1 (show 50 ≤ 90000 by decide)) (Bd.le (bxOf_bd (l := (quadR l 30).1) hq.can.ok).x (show 44 ≤ 90000 by decide))) ?_)))))
  rintro _ w49 ⟨hq15, rfl⟩
  have k48 := grown_of_below hq15 none
  have hz31 := hq15.size
  have hb43 := below_g0 hb42 k48
  have hz32 := hb43.size
  have hO39 := hO38.g0 k48
  refine st (s_lt rfl rfl (st (s_move rfl (r_caseP 71 rfl (fun h5 => absurd (cmpI_lti.1 h5) (by omega)) (fun h5 => (stg (s_faddr fld47_0 rfl (stg (s_loadN (us := [.bool (decide ((ix (lastL (l.map toCl)) i).x < 0)), ca1]) row31 rfl (hB17.g0 k48).range (j := 0) rfl rfl (stg (s_loadW row31 rfl (((hbl3.g0 k46).gne k47 (by omega)).g0 k48).range rfl ?_)))))))))))
  refine stg (s_call fn23 rfl (rbcmp_any (n0 := n0) (below_n0 hn0 hb43) (big_of rfl (((hca1.gg0 k46).ggB k47 hB16 (by decide) (by omega)).gg0 k48)) (big_of rfl (((hsl3_1.gg0 k46).ggB k47 hB16 (by decide) (by omega)).gg0 k48)) (Bd.le (cbd_ix hcs (by omega) (by omega)).1 (show 50 ≤ 90000 by decide)) (Bd.le (bd_sub (bd_add (bxOf_bd (l := (quadR l 30).1) hq.can.ok).x (bxOf_bd (l := (quadR l 30).1) hq.can.ok).w (show 44 < 45 by decide) (show 44 < 45 by decide)) (bd_small (by omega)) (show 45 < 46 by decide) (show 2 < 46 by decide)) (show 46 ≤ 90000 by decide))) ?_)
  rintro _ w50 ⟨hq16, rfl⟩
  have k49 := grown_of_below hq16 none
  have hz33 := hq16.size
  have hb44 := below_g0 hb43 k49
  have hz34 := hb44.size
  have hO40 := hO39.g0 k49
  refine stg (s_gt rfl rfl (st (s_pick rfl rfl (st (s_move rfl (r_caseP 78 rfl (fun h6 => absurd (cmpI_gt0 h6) (by omega)) (fun h6 => (stg (s_faddr fld47_1 rfl (stg (s_loadN (us := [.bool (decide ((ix (lastL (l.map toCl)) i).y < 0)), cb1]) row31 rfl ((hB17.g0 k48).g0 k49).range (j := 2) rfl rfl (stg (s_faddr fld33_1 rfl ?_)))))))))))))
  refine stg (s_loadN (us := [.bool (decide ((bxOf ((quadR l 30).1)).y < 0)), v3]) row31 rfl ((((hbl1.g0 k46).gne k47 (by omega)).g0 k48).g0 k49).range (j := 2) rfl rfl (stg (s_call fn23 rfl (rbcmp_any (n0 := n0) (below_n0 hn0 hb44) (big_of rfl ((((hcb1.gg0 k46).ggB k47 hB16 (by decide) (by omega)).gg0 k48).gg0 k49)) (big_of rfl ((((hsl1_3.gg0 k46).ggB k47 hB16 (by decide) (by omega)).gg0 k48).gg0 k49)) (Bd.le (cbd_ix hcs (by omega) (by omega)).2 (show 50 ≤ 90000 by decide)) (Bd.le (bxOf_bd (l := (quadR l 30).1) hq.can.ok).y (show 44 ≤ 90000 by decide))) ?_)))
  rintro _ w51 ⟨hq17, rfl⟩
  have k50 := grown_of_below hq17 none
  have hz35 := hq17.size
  have hb45 := below_g0 hb44 k50
  have hz36 := hb45.size
  have hO41 := hO40.g0 k50
  refine stg (s_lt rfl rfl (st (s_pick rfl rfl (st (s_move rfl (r_caseP 86 rfl (fun h7 => absurd (cmpI_lti.1 h7) (by omega)) (fun h7 => (stg (s_faddr fld47_1 rfl (stg (s_loadN (us := [.bool (decide ((ix (lastL (l.map toCl)) i).y < 0)), cb1]) row31 rfl (((hB17.g0 k48).g0 k49).g0 k50).range (j := 2) rfl rfl (stg (s_loadW row31 rfl (((((hbl4.g0 k46).gne k47 (by omega)).g0 k48).g0 k49).g0 k50).range rfl ?_)))))))))))))
  refine stg (s_call fn23 rfl (rbcmp_any (n0 := n0) (below_n0 hn0 hb45) (big_of rfl (((((hcb1.gg0 k46).ggB k47 hB16 (by decide) (by omega)).gg0 k48).gg0 k49).gg0 k50)) (big_of rfl (((((hsl4_1.gg0 k46).ggB k47 hB16 (by decide) (by omega)).gg0 k48).gg0 k49).gg0 k50)) (Bd.le (cbd_ix hcs (by omega) (by omega)).2 (show 50 ≤ 90000 by decide)) (Bd.le (bd_sub (bd_add (bxOf_bd (l := (quadR l 30).1) hq.can.ok).y (bxOf_bd (l := (quadR l 30).1) hq.can.ok).h (show 44 < 45 by decide) (show 44 < 45 by decide)) (bd_small (by omega)) (show 45 < 46 by decide) (show 2 < 46 by decide)) (show 46 ≤ 90000 by decide))) ?_)
  rintro _ w52 ⟨hq18, rfl⟩
  have k51 := grown_of_below hq18 none
  have hz37 := hq18.size
  have hb46 := below_g0 hb45 k51
  have hz38 := hb46.size
  have hO42 := hO41.g0 k51
  refine stg (s_gt rfl rfl (st (s_pick rfl rfl (r_end (n_then (w_condP rfl (fun h8 => absurd (cmpI_gt0 h8) (by omega)) (fun h8 => (w_skip' (n_then ?_)))))))))
  refine w_cut (α := Bool) (fun (u0 : Bool) => [(5, v1), (6, .pointer (some ⟨g2, 0, none⟩)), (7, .bool ((bxs ((quadR l 30).1)).some)), (9, .pointer (some ⟨g8, 0, none⟩)), (10, .pointer (some ⟨g9, 0, none⟩)), (11, .pointer (some ⟨g10, 0, none⟩)), (12, .int .i64 i), (13, .pointer (some ⟨g11, 0, none⟩))]) (fun (u0 : Bool) W => Below w.heap.size w W ∧ (u0 = (t0 || decide (((ix (lastL (l.map toCl)) i)).x = (bxOf ((quadR l 30).1)).x))) ∧ (Gw.Own (Kd.cell 83 n0) 47 w.heap.size W (fun _ => False) v1 (lastL (l.map toCl))) ∧ (Blk W g2 33 [.bool (decide ((bxOf ((quadR l 30).1)).x < 0)), v2, .bool (decide ((bxOf ((quadR l 30).1)).y < 0)), v3, .bool (decide ((bxOf ((quadR l 30).1)).w < 0)), v4, .bool (decide ((bxOf ((quadR l 30).1)).h < 0)), v5].toArray) ∧ (Blk W g3 31 [.bool (decide ((1 : Int) < 0)), v7].toArray) ∧ (Blk W g8 31 [.bool (decide (((((bxOf ((quadR l 30).1)).x) + ((bxOf ((quadR l 30).1)).w)) - (1 : Int)) < 0)), v19].toArray) ∧ (Blk W g9 31 [.bool (decide (((((bxOf ((quadR l 30).1)).y) + ((bxOf ((quadR l 30).1)).h)) - (1 : Int)) < 0)), v21].toArray) ∧ (Blk W g10 45 [.bool u0, .bool t1, .bool t2, .bool t3].toArray) ∧ (Blk W g11 47 [.bool (decide ((ix (lastL (l.map toCl)) i).x < 0)), ca1, .bool (decide ((ix (lastL (l.map toCl)) i).y < 0)), cb1, .int .u8 ((ix (lastL (l.map toCl)) i).st)].toArray) ∧ (Sl Kd.u32 W (G 83 n0 W) v2 (ml ((bxOf ((quadR l 30).1)).x))) ∧ (Sl Kd.u32 W (G 83 n0 W) v3 (ml ((bxOf ((quadR l 30).1)).y))) ∧ (Sl Kd.u32 W (G 83 n0 W) v4 (ml ((bxOf ((quadR l 30).1)).w))) ∧ (Sl Kd.u32 W (G 83 n0 W) v5 (ml ((bxOf ((quadR l 30).1)).h))) ∧ (Sl Kd.u32 W (G 83 n0 W) v7 (ml (1 : Int))) ∧ (Sl Kd.u32 W (G 83 n0 W) v19 (ml ((((bxOf ((quadR l 30).1)).x) + ((bxOf ((quadR l 30).1)).w)) - (1 : Int)))) ∧ (Sl Kd.u32 W (G 83 n0 W) v21 (ml ((((bxOf ((quadR l 30).1)).y) + ((bxOf ((quadR l 30).1)).h)) - (1 : Int)))) ∧ (Sl Kd.u32 W (G 83 n0 W) ca1 (ml ((ix (lastL (l.map toCl)) i).x))) ∧ (Sl Kd.u32 W (G 83 n0 W) cb1 (ml ((ix (lastL (l.map toCl)) i).y)))) ?_ ?_
  · refine w_region (st (s_iaddr arr45 rfl rfl (by omega) (by omega) (st (s_load one4 rfl ((((((hbl5.g0 k46).gne k47 (by omega)).g0 k48).g0 k49).g0 k50).g0 k51).range (j := 0) rfl (st (s_move rfl ?_))))))
    refine r_case 95 rfl (fun h9 => ?_) (fun h9 => ?_)
    · refine s_pass rfl rfl (s_pass rfl rfl (s_pass rfl rfl (s_pass rfl rfl (s_pass rfl rfl (st (s_pick rfl rfl (st (s_iaddr arr45 rfl rfl (by omega) (by omega) ?_))))))))
      refine st0 (s_store one4 rfl rfl rfl ((((((hbl5.g0 k46).gne k47 (by omega)).g0 k48).g0 k49).g0 k50).g0 k51) (of_decide_eq_true rfl) ?_)
      intro w53 hB18 k52 hs17
      have hb47 := below_g hb46 k52 (by first | omega | (have h9 := (hb46).size; omega))
      have hO43 := Own.keptG (cell_gk 83 n0) hO42 k52 (Blk.isG ((((((hbl5.g0 k46).gne k47 (by omega)).g0 k48).g0 k49).g0 k50).g0 k51) (by decide) (by omega)) (hO42.neB ((((((hbl5.g0 k46).gne k47 (by omega)).g0 k48).g0 k49).g0 k50).g0 k51) (by decide))
      refine r_end ?_
      exact n_meet (true) ⟨hb47, by rw [h9]; rfl, hO43, (((((((hbl1.g0 k46).gne k47 (by omega)).g0 k48).g0 k49).g0 k50).g0 k51).gne k52 (by omega)), (((((((hbl2.g0 k46).gne k47 (by omega)).g0 k48).g0 k49).g0 k50).g0 k51).gne k52 (by omega)), (((((((hbl3.g0 k46).gne k47 (by omega)).g0 k48).g0 k49).g0 k50).g0 k51).gne k52 (by omega)), (((((((hbl4.g0 k46).gne k47 (by omega)).g0 k48).g0 k49).g0 k50).g0 k51).gne k52 (by omega)), hB18, (((((hB17.g0 k48).g0 k49).g0 k50).g0 k51).gne k52 (by omega)), (((((((hsl1_1.gg0 k46).ggB k47 hB16 (by decide) (by omega)).gg0 k48).gg0 k49).gg0 k50).gg0 k51).ggB k52 ((((((hbl5.g0 k46).gne k47 (by omega)).g0 k48).g0 k49).g0 k50).g0 k51) (by decide) (by omega)), (((((((hsl1_3.gg0 k46).ggB k47 hB16 (by decide) (by omega)).gg0 k48).gg0 k49).gg0 k50).gg0 k51).ggB k52 ((((((hbl5.g0 k46).gne k47 (by omega)).g0 k48).g0 k49).g0 k50).g0 k51) (by decide) (by omega)), (((((((hsl1_5.gg0 k46).ggB k47 hB16 (by decide) (by omega)).gg0 k48).gg0 k49).gg0 k50).gg0 k51).ggB k52 ((((((hbl5.g0 k46).gne k47 (by omega)).g0 k48).g0 k49).g0 k50).g0 k51) (by decide) (by omega)), (((((((hsl1_7.gg0 k46).ggB k47 hB16 (by decide) (by omega)).gg0 k48).gg0 k49).gg0 k50).gg0 k51).ggB k52 ((((((hbl5.g0 k46).gne k47 (by omega)).g0 k48).g0 k49).g0 k50).g0 k51) (by decide) (by omega)), (((((((hsl2_1.gg0 k46).ggB k47 hB16 (by decide) (by omega)).gg0 k48).gg0 k49).gg0 k50).gg0 k51).ggB k52 ((((((hbl5.g0 k46).gne k47 (by omega)).g0 k48).g0 k49).g0 k50).g0 k51) (by decide) (by omega)), (((((((hsl3_1.gg0 k46).ggB k47 hB16 (by decide) (by omega)).gg0 k48).gg0 k49).gg0 k50).gg0 k51).ggB k52 ((((((hbl5.g0 k46).gne k47 (by omega)).g0 k48).g0 k49).g0 k50).g0 k51) (by decide) (by omega)), (((((((hsl4_1.gg0 k46).ggB k47 hB16 (by decide) (by omega)).gg0 k48).gg0 k49).gg0 k50).gg0 k51).ggB k52 ((((((hbl5.g0 k46).gne k47 (by omega)).g0 k48).g0 k49).g0 k50).g0 k51) (by decide) (by omega)), (((((((hca1.gg0 k46).ggB k47 hB16 (by decide) (by omega)).gg0 k48).gg0 k49).gg0 k50).gg0 k51).ggB k52 ((((((hbl5.g0 k46).gne k47 (by omega)).g0 k48).g0 k49).g0 k50).g0 k51) (by decide) (by omega)), (((((((hcb1.gg0 k46).ggB k47 hB16 (by decide) (by omega)).gg0 k48).gg0 k49).gg0 k50).gg0 k51).ggB k52 ((((((hbl5.g0 k46).gne k47 (by omega)).g0 k48).g0 k49).g0 k50).g0 k51) (by decide) (by omega))⟩ (by exact ⟨rfl, rfl, rfl, rfl, rfl, rfl, rfl, rfl, trivial⟩)
    refine stg (s_faddr fld47_0 rfl (stg (s_loadN (us := [.bool (decide ((ix (lastL (l.map toCl)) i).x < 0)), ca1]) row31 rfl ((((hB17.g0 k48).g0 k49).g0 k50).g0 k51).range (j := 0) rfl rfl (stg (s_faddr fld33_0 rfl (stg (s_loadN (us := [.bool (decide ((bxOf ((quadR l 30).1)).x < 0)), v2]) row31 rfl ((((((hbl1.g0 k46).gne k47 (by omega)).g0 k48).g0 k49).g0 k50).g0 k51).range (j := 0) rfl rfl (stg (s_call fn24 rfl (rbsame_any (((((((hca1.gg0 k46).ggB k47 hB16 (by decide) (by omega)).gg0 k48).gg0 k49).gg0 k50).gg0 k51)).none (((((((hsl1_1.gg0 k46).ggB k47 hB16 (by decide) (by omega)).gg0 k48).gg0 k49).gg0 k50).gg0 k51)).none) ?_)))))))))
    rintro v22 w54 ⟨hq19, hv2⟩
    rw [show decide (decide ((ix (lastL (l.map toCl)) i).x < 0) = decide ((bxOf ((quadR l 30).1)).x < 0) ∧ ml ((ix (lastL (l.map toCl)) i).x) = ml ((bxOf ((quadR l 30).1)).x)) = decide (((ix (lastL (l.map toCl)) i).x) = ((bxOf ((quadR l 30).1)).x)) from decide_eq_decide.2 same_big] at hv2
    subst hv2
    have k53 := grown_of_below hq19 none
    have hz39 := hq19.size
    have hb48 := below_g0 hb46 k53
    have hz40 := hb48.size
    have hO44 := hO42.g0 k53
    refine st (s_pick rfl rfl (st (s_iaddr arr45 rfl rfl (by omega) (by omega) (st0 (s_store one4 rfl rfl rfl (((((((hbl5.g0 k46).gne k47 (by omega)).g0 k48).g0 k49).g0 k50).g0 k51).g0 k53) (of_decide_eq_true rfl) ?_)))))
    intro w55 hB19 k54 hs18
    have hb49 := below_g hb48 k54 (by first | omega | (have h9 := (hb48).size; omega))
    have hO45 := Own.keptG (cell_gk 83 n0) hO44 k54 (Blk.isG (((((((hbl5.g0 k46).gne k47 (by omega)).g0 k48).g0 k49).g0 k50).g0 k51).g0 k53) (by decide) (by omega)) (hO44.neB (((((((hbl5.g0 k46).gne k47 (by omega)).g0 k48).g0 k49).g0 k50).g0 k51).g0 k53) (by decide))
    refine r_end ?_
    exact n_meet (decide (((ix (lastL (l.map toCl)) i).x) = ((bxOf ((quadR l 30).1)).x))) ⟨hb49, by rw [h9]; rfl, hO45, ((((((((hbl1.g0 k46).gne k47 (by omega)).g0 k48).g0 k49).g0 k50).g0 k51).g0 k53).gne k54 (by omega)), ((((((((hbl2.g0 k46).gne k47 (by omega)).g0 k48).g0 k49).g0 k50).g0 k51).g0 k53).gne k54 (by omega)), ((((((((hbl3.g0 k46).gne k47 (by omega)).g0 k48).g0 k49).g0 k50).g0 k51).g0 k53).gne k54 (by omega)), ((((((((hbl4.g0 k46).gne k47 (by omega)).g0 k48).g0 k49).g0 k50).g0 k51).g0 k53).gne k54 (by omega)), hB19, ((((((hB17.g0 k48).g0 k49).g0 k50).g0 k51).g0 k53).gne k54 (by omega)), ((((((((hsl1_1.gg0 k46).ggB k47 hB16 (by decide) (by omega)).gg0 k48).gg0 k49).gg0 k50).gg0 k51).gg0 k53).ggB k54 (((((((hbl5.g0 k46).gne k47 (by omega)).g0 k48).g0 k49).g0 k50).g0 k51).g0 k53) (by decide) (by omega)), ((((((((hsl1_3.gg0 k46).ggB k47 hB16 (by decide) (by omega)).gg0 k48).gg0 k49).gg0 k50).gg0 k51).gg0 k53).ggB k54 (((((((hbl5.g0 k46).gne k47 (by omega)).g0 k48).g0 k49).g0 k50).g0 k51).g0 k53) (by decide) (by omega)), ((((((((hsl1_5.gg0 k46).ggB k47 hB16 (by decide) (by omega)).gg0 k48).gg0 k49).gg0 k50).gg0 k51).gg0 k53).ggB k54 (((((((hbl5.g0 k46).gne k47 (by omega)).g0 k48).g0 k49).g0 k50).g0 k51).g0 k53) (by decide) (by omega)), ((((((((hsl1_7.gg0 k46).ggB k47 hB16 (by decide) (by omega)).gg0 k48).gg0 k49).gg0 k50).gg0 k51).gg0 k53).ggB k54 (((((((hbl5.g0 k46).gne k47 (by omega)).g0 k48).g0 k49).g0 k50).g0 k51).g0 k53) (by decide) (by omega)), ((((((((hsl2_1.gg0 k46).ggB k47 hB16 (by decide) (by omega)).gg0 k48).gg0 k49).gg0 k50).gg0 k51).gg0 k53).ggB k54 (((((((hbl5.g0 k46).gne k47 (by omega)).g0 k48).g0 k49).g0 k50).g0 k51).g0 k53) (by decide) (by omega)), ((((((((hsl3_1.gg0 k46).ggB k47 hB16 (by decide) (by omega)).gg0 k48).gg0 k49).gg0 k50).gg0 k51).gg0 k53).ggB k54 (((((((hbl5.g0 k46).gne k47 (by omega)).g0 k48).g0 k49).g0 k50).g0 k51).g0 k53) (by decide) (by omega)), ((((((((hsl4_1.gg0 k46).ggB k47 hB16 (by decide) (by omega)).gg0 k48).gg0 k49).gg0 k50).gg0 k51).gg0 k53).ggB k54 (((((((hbl5.g0 k46).gne k47 (by omega)).g0 k48).g0 k49).g0 k50).g0 k51).g0 k53) (by decide) (by omega)), ((((((((hca1.gg0 k46).ggB k47 hB16 (by decide) (by omega)).gg0 k48).gg0 k49).gg0 k50).gg0 k51).gg0 k53).ggB k54 (((((((hbl5.g0 k46).gne k47 (by omega)).g0 k48).g0 k49).g0 k50).g0 k51).g0 k53) (by decide) (by omega)), ((((((((hcb1.gg0 k46).ggB k47 hB16 (by decide) (by omega)).gg0 k48).gg0 k49).gg0 k50).gg0 k51).gg0 k53).ggB k54 (((((((hbl5.g0 k46).gne k47 (by omega)).g0 k48).g0 k49).g0 k50).g0 k51).g0 k53) (by decide) (by omega))⟩ (by exact ⟨rfl, rfl, rfl, rfl, rfl, rfl, rfl, rfl, trivial⟩)
  rintro u0 w56 ⟨hb50, hu0, hOa, hba0, hba1, hba2, hba3, hba4, hba5, hsa0_1, hsa0_3, hsa0_5, hsa0_7, hsa1_1, hsa2_1, hsa3_1, hsa5_1, hsa5_3⟩
  have hz41 := hb50.size
  have hba0l := hba0.lt
  have hba1l := hba1.lt
  have hba2l := hba2.lt
  have hba3l := hba3.lt
  have hba4l := hba4.lt
  have hba5l := hba5.lt
  refine w_cut (α := Bool) (fun (u1 : Bool) => [(5, v1), (6, .pointer (some ⟨g2, 0, none⟩)), (7, .bool ((bxs ((quadR l 30).1)).some)), (9, .pointer (some ⟨g8, 0, none⟩)), (10, .pointer (some ⟨g9, 0, none⟩)), (11, .pointer (some ⟨g10, 0, none⟩)), (12, .int .i64 i), (13, .pointer (some ⟨g11, 0, none⟩))]) (fun (u1 : Bool) W => Below w.heap.size w W ∧ (u1 = (t1 || decide (((ix (lastL (l.map toCl)) i)).x = (bxOf ((quadR l 30).1)).x + (bxOf ((quadR l 30).1)).w - 1))) ∧ (Gw.Own (Kd.cell 83 n0) 47 w.heap.size W (fun _ => False) v1 (lastL (l.map toCl))) ∧ (Blk W g2 33 [.bool (decide ((bxOf ((quadR l 30).1)).x < 0)), v2, .bool (decide ((bxOf ((quadR l 30).1)).y < 0)), v3, .bool (decide ((bxOf ((quadR l 30).1)).w < 0)), v4, .bool (decide ((bxOf ((quadR l 30).1)).h < 0)), v5].toArray) ∧ (Blk W g3 31 [.bool (decide ((1 : Int) < 0)), v7].toArray) ∧ (Blk W g8 31 [.bool (decide (((((bxOf ((quadR l 30).1)).x) + ((bxOf ((quadR l 30).1)).w)) - (1 : Int)) < 0)), v19].toArray) ∧ (Blk W g9 31 [.bool (decide (((((bxOf ((quadR l 30).1)).y) + ((bxOf ((quadR l 30).1)).h)) - (1 : Int)) < 0)), v21].toArray) ∧ (Blk W g10 45 [.bool u0, .bool u1, .bool t2, .bool t3].toArray) ∧ (Blk W g11 47 [.bool (decide ((ix (lastL (l.map toCl)) i).x < 0)), ca1, .bool (decide ((ix (lastL (l.map toCl)) i).y < 0)), cb1, .int .u8 ((ix (lastL (l.map toCl)) i).st)].toArray) ∧ (Sl Kd.u32 W (G 83 n0 W) v2 (ml ((bxOf ((quadR l 30).1)).x))) ∧ (Sl Kd.u32 W (G 83 n0 W) v3 (ml ((bxOf ((quadR l 30).1)).y))) ∧ (Sl Kd.u32 W (G 83 n0 W) v4 (ml ((bxOf ((quadR l 30).1)).w))) ∧ (Sl Kd.u32 W (G 83 n0 W) v5 (ml ((bxOf ((quadR l 30).1)).h))) ∧ (Sl Kd.u32 W (G 83 n0 W) v7 (ml (1 : Int))) ∧ (Sl Kd.u32 W (G 83 n0 W) v19 (ml ((((bxOf ((quadR l 30).1)).x) + ((bxOf ((quadR l 30).1)).w)) - (1 : Int)))) ∧ (Sl Kd.u32 W (G 83 n0 W) v21 (ml ((((bxOf ((quadR l 30).1)).y) + ((bxOf ((quadR l 30).1)).h)) - (1 : Int)))) ∧ (Sl Kd.u32 W (G 83 n0 W) ca1 (ml ((ix (lastL (l.map toCl)) i).x))) ∧ (Sl Kd.u32 W (G 83 n0 W) cb1 (ml ((ix (lastL (l.map toCl)) i).y)))) ?_ ?_
  · refine w_region (st (s_iaddr arr45 rfl rfl (by omega) (by omega) (st (s_load one4 rfl hba4.range (j := 1) rfl (st (s_move rfl ?_))))))
    refine r_case 105 rfl (fun h10 => ?_) (fun h10 => ?_)
    · refine s_pass rfl rfl (s_pass rfl rfl (s_pass rfl rfl (s_pass rfl rfl (st (s_pick rfl rfl (st (s_iaddr arr45 rfl rfl (by omega) (by omega) (st0 (s_store one4 rfl rfl rfl hba4 (of_decide_eq_true rfl) ?_)))))))))
      intro w57 hB20 k55 hs19
      have hb51 := below_g hb50 k55 (by first | omega | (have h9 := (hb50).size; omega))
      have hO46 := Own.keptG (cell_gk 83 n0) hOa k55 (Blk.isG hba4 (by decide) (by omega)) (hOa.neB hba4 (by decide))
      refine r_end ?_
      exact n_meet (true) ⟨hb51, by rw [h10]; rfl, hO46, (hba0.gne k55 (by omega)), (hba1.gne k55 (by omega)), (hba2.gne k55 (by omega)), (hba3.gne k55 (by omega)), hB20, (hba5.gne k55 (by omega)), (hsa0_1.ggB k55 hba4 (by decide) (by omega)), (hsa0_3.ggB k55 hba4 (by decide) (by omega)), (hsa0_5.ggB k55 hba4 (by decide) (by omega)), (hsa0_7.ggB k55 hba4 (by decide) (by omega)), (hsa1_1.ggB k55 hba4 (by decide) (by omega)), (hsa2_1.ggB k55 hba4 (by decide) (by omega)), (hsa3_1.ggB k55 hba4 (by decide) (by omega)), (hsa5_1.ggB k55 hba4 (by decide) (by omega)), (hsa5_3.ggB k55 hba4 (by decide) (by omega))⟩ (by exact ⟨rfl, rfl, rfl, rfl, rfl, rfl, rfl, rfl, trivial⟩)
    refine stg (s_faddr fld47_0 rfl (stg (s_loadN (us := [.bool (decide ((ix (lastL (l.map toCl)) i).x < 0)), ca1]) row31 rfl hba5.range (j := 0) rfl rfl (stg (s_loadW row31 rfl hba2.range rfl (stg (s_call fn24 rfl (rbsame_any (hsa5_1).none (hsa2_1).none) ?_)))))))
    rintro v23 w58 ⟨hq20, hv3⟩
    rw [show decide (decide ((ix (lastL (l.map toCl)) i).x < 0) = decide (((((bxOf ((quadR l 30).1)).x) + ((bxOf ((quadR l 30).1)).w)) - (1 : Int)) < 0) ∧ ml ((ix (lastL (l.map toCl)) i).x) = ml ((((bxOf ((quadR l 30).1)).x) + ((bxOf ((quadR l 30).1)).w)) - (1 : Int))) = decide (((ix (lastL (l.map toCl)) i).x) = ((((bxOf ((quadR l 30).1)).x) + ((bxOf ((quadR l 30).1)).w)) - (1 : Int))) from decide_eq_decide.2 same_big] at hv3
    subst hv3
    have k56 := grown_of_below hq20 none
    have hz42 := hq20.size
    have hb52 := below_g0 hb50 k56
    have hz43 := hb52.size
    have hO47 := hOa.g0 k56
    refine st (s_pick rfl rfl (st (s_iaddr arr45 rfl rfl (by omega) (by omega) (st0 (s_store one4 rfl rfl rfl (hba4.g0 k56) (of_decide_eq_true rfl) ?_)))))
    intro w59 hB21 k57 hs20
    have hb53 := below_g hb52 k57 (by first | omega | (have h9 := (hb52).size; omega))
    have hO48 := Own.keptG (cell_gk 83 n0) hO47 k57 (Blk.isG (hba4.g0 k56) (by decide) (by omega)) (hO47.neB (hba4.g0 k56) (by decide))
    refine r_end ?_
    exact n_meet (decide (((ix (lastL (l.map toCl)) i).x) = ((((bxOf ((quadR l 30).1)).x) + ((bxOf ((quadR l 30).1)).w)) - (1 : Int)))) ⟨hb53, by rw [h10]; rfl, hO48, ((hba0.g0 k56).gne k57 (by omega)), ((hba1.g0 k56).gne k57 (by omega)), ((hba2.g0 k56).gne k57 (by omega)), ((hba3.g0 k56).gne k57 (by omega)), hB21, ((hba5.g0 k56).gne k57 (by omega)), ((hsa0_1.gg0 k56).ggB k57 (hba4.g0 k56) (by decide) (by omega)), ((hsa0_3.gg0 k56).ggB k57 (hba4.g0 k56) (by decide) (by omega)), ((hsa0_5.gg0 k56).ggB k57 (hba4.g0 k56) (by decide) (by omega)), ((hsa0_7.gg0 k56).ggB k57 (hba4.g0 k56) (by decide) (by omega)), ((hsa1_1.gg0 k56).ggB k57 (hba4.g0 k56) (by decide) (by omega)), ((hsa2_1.gg0 k56).ggB k57 (hba4.g0 k56) (by decide) (by omega)), ((hsa3_1.gg0 k56).ggB k57 (hba4.g0 k56) (by decide) (by omega)), ((hsa5_1.gg0 k56).ggB k57 (hba4.g0 k56) (by decide) (by omega)), ((hsa5_3.gg0 k56).ggB k57 (hba4.g0 k56) (by decide) (by omega))⟩ (by exact ⟨rfl, rfl, rfl, rfl, rfl, rfl, rfl, rfl, trivial⟩)
  rintro u1 w60 ⟨hb54, hu1, hOb, hbb0, hbb1, hbb2, hbb3, hbb4, hbb5, hsb0_1, hsb0_3, hsb0_5, hsb0_7, hsb1_1, hsb2_1, hsb3_1, hsb5_1, hsb5_3⟩
  have hz44 := hb54.size
  have hbb0l := hbb0.lt
  have hbb1l := hbb1.lt
  have hbb2l := hbb2.lt
  have hbb3l := hbb3.lt
  have hbb4l := hbb4.lt
  have hbb5l := hbb5.lt
  refine w_cut (α := Bool) (fun (u2 : Bool) => [(5, v1), (6, .pointer (some ⟨g2, 0, none⟩)), (7, .bool ((bxs ((quadR l 30).1)).some)), (9, .pointer (some ⟨g8, 0, none⟩)), (10, .pointer (some ⟨g9, 0, none⟩)), (11, .pointer (some ⟨g10, 0, none⟩)), (12, .int .i64 i), (13, .pointer (some ⟨g11, 0, none⟩))]) (fun (u2 : Bool) W => Below w.heap.size w W ∧ (u2 = (t2 || decide (((ix (lastL (l.map toCl)) i)).y = (bxOf ((quadR l 30).1)).y))) ∧ (Gw.Own (Kd.cell 83 n0) 47 w.heap.size W (fun _ => False) v1 (lastL (l.map toCl))) ∧ (Blk W g2 33 [.bool (decide ((bxOf ((quadR l 30).1)).x < 0)), v2, .bool (decide ((bxOf ((quadR l 30).1)).y < 0)), v3, .bool (decide ((bxOf ((quadR l 30).1)).w < 0)), v4, .bool (decide ((bxOf ((quadR l 30).1)).h < 0)), v5].toArray) ∧ (Blk W g3 31 [.bool (decide ((1 : Int) < 0)), v7].toArray) ∧ (Blk W g8 31 [.bool (decide (((((bxOf ((quadR l 30).1)).x) + ((bxOf ((quadR l 30).1)).w)) - (1 : Int)) < 0)), v19].toArray) ∧ (Blk W g9 31 [.bool (decide (((((bxOf ((quadR l 30).1)).y) + ((bxOf ((quadR l 30).1)).h)) - (1 : Int)) < 0)), v21].toArray) ∧ (Blk W g10 45 [.bool u0, .bool u1, .bool u2, .bool t3].toArray) ∧ (Blk W g11 47 [.bool (decide ((ix (lastL (l.map toCl)) i).x < 0)), ca1, .bool (decide ((ix (lastL (l.map toCl)) i).y < 0)), cb1, .int .u8 ((ix (lastL (l.map toCl)) i).st)].toArray) ∧ (Sl Kd.u32 W (G 83 n0 W) v2 (ml ((bxOf ((quadR l 30).1)).x))) ∧ (Sl Kd.u32 W (G 83 n0 W) v3 (ml ((bxOf ((quadR l 30).1)).y))) ∧ (Sl Kd.u32 W (G 83 n0 W) v4 (ml ((bxOf ((quadR l 30).1)).w))) ∧ (Sl Kd.u32 W (G 83 n0 W) v5 (ml ((bxOf ((quadR l 30).1)).h))) ∧ (Sl Kd.u32 W (G 83 n0 W) v7 (ml (1 : Int))) ∧ (Sl Kd.u32 W (G 83 n0 W) v19 (ml ((((bxOf ((quadR l 30).1)).x) + ((bxOf ((quadR l 30).1)).w)) - (1 : Int)))) ∧ (Sl Kd.u32 W (G 83 n0 W) v21 (ml ((((bxOf ((quadR l 30).1)).y) + ((bxOf ((quadR l 30).1)).h)) - (1 : Int)))) ∧ (Sl Kd.u32 W (G 83 n0 W) ca1 (ml ((ix (lastL (l.map toCl)) i).x))) ∧ (Sl Kd.u32 W (G 83 n0 W) cb1 (ml ((ix (lastL (l.map toCl)) i).y)))) ?_ ?_
  · refine w_region (st (s_iaddr arr45 rfl rfl (by omega) (by omega) (st (s_load one4 rfl hbb4.range (j := 2) rfl (st (s_move rfl ?_))))))
    refine r_case 114 rfl (fun h11 => ?_) (fun h11 => ?_)
    · refine s_pass rfl rfl (s_pass rfl rfl (s_pass rfl rfl (s_pass rfl rfl (s_pass rfl rfl (st (s_pick rfl rfl (st (s_iaddr arr45 rfl rfl (by omega) (by omega) ?_))))))))
      refine st0 (s_store one4 rfl rfl rfl hbb4 (of_decide_eq_true rfl) ?_)
      intro w61 hB22 k58 hs21
      have hb55 := below_g hb54 k58 (by first | omega | (have h9 := (hb54).size; omega))
      have hO49 := Own.keptG (cell_gk 83 n0) hOb k58 (Blk.isG hbb4 (by decide) (by omega)) (hOb.neB hbb4 (by decide))
      refine r_end ?_
      exact n_meet (true) ⟨hb55, by rw [h11]; rfl, hO49, (hbb0.gne k58 (by omega)), (hbb1.gne k58 (by omega)), (hbb2.gne k58 (by omega)), (hbb3.gne k58 (by omega)), hB22, (hbb5.gne k58 (by omega)), (hsb0_1.ggB k58 hbb4 (by decide) (by omega)), (hsb0_3.ggB k58 hbb4 (by decide) (by omega)), (hsb0_5.ggB k58 hbb4 (by decide) (by omega)), (hsb0_7.ggB k58 hbb4 (by decide) (by omega)), (hsb1_1.ggB k58 hbb4 (by decide) (by omega)), (hsb2_1.ggB k58 hbb4 (by decide) (by omega)), (hsb3_1.ggB k58 hbb4 (by decide) (by omega)), (hsb5_1.ggB k58 hbb4 (by decide) (by omega)), (hsb5_3.ggB k58 hbb4 (by decide) (by omega))⟩ (by exact ⟨rfl, rfl, rfl, rfl, rfl, rfl, rfl, rfl, trivial⟩)
    refine stg (s_faddr fld47_1 rfl (stg (s_loadN (us := [.bool (decide ((ix (lastL (l.map toCl)) i).y < 0)), cb1]) row31 rfl hbb5.range (j := 2) rfl rfl (stg (s_faddr fld33_1 rfl (stg (s_loadN (us := [.bool (decide ((bxOf ((quadR l 30).1)).y < 0)), v3]) row31 rfl hbb0.range (j := 2) rfl rfl (stg (s_call fn24 rfl (rbsame_any (hsb5_3).none (hsb0_3).none) ?_)))))))))
    rintro v24 w62 ⟨hq21, hv4⟩
    rw [show decide (decide ((ix (lastL (l.map toCl)) i).y < 0) = decide ((bxOf ((quadR l 30).1)).y < 0) ∧ ml ((ix (lastL (l.map toCl)) i).y) = ml ((bxOf ((quadR l 30).1)).y)) = decide (((ix (lastL (l.map toCl)) i).y) = ((bxOf ((quadR l 30).1)).y)) from decide_eq_decide.2 same_big] at hv4
    subst hv4
    have k59 := grown_of_below hq21 none
    have hz45 := hq21.size
    have hb56 := below_g0 hb54 k59
    have hz46 := hb56.size
    have hO50 := hOb.g0 k59
    refine st (s_pick rfl rfl (st (s_iaddr arr45 rfl rfl (by omega) (by omega) (st0 (s_store one4 rfl rfl rfl (hbb4.g0 k59) (of_decide_eq_true rfl) ?_)))))
    intro w63 hB23 k60 hs22
    have hb57 := below_g hb56 k60 (by first | omega | (have h9 := (hb56).size; omega))
    have hO51 := Own.keptG (cell_gk 83 n0) hO50 k60 (Blk.isG (hbb4.g0 k59) (by decide) (by omega)) (hO50.neB (hbb4.g0 k59) (by decide))
    refine r_end ?_
    exact n_meet (decide (((ix (lastL (l.map toCl)) i).y) = ((bxOf ((quadR l 30).1)).y))) ⟨hb57, by rw [h11]; rfl, hO51, ((hbb0.g0 k59).gne k60 (by omega)), ((hbb1.g0 k59).gne k60 (by omega)), ((hbb2.g0 k59).gne k60 (by omega)), ((hbb3.g0 k59).gne k60 (by omega)), hB23, ((hbb5.g0 k59).gne k60 (by omega)), ((hsb0_1.gg0 k59).ggB k60 (hbb4.g0 k59) (by decide) (by omega)), ((hsb0_3.gg0 k59).ggB k60 (hbb4.g0 k59) (by decide) (by omega)), ((hsb0_5.gg0 k59).ggB k60 (hbb4.g0 k59) (by decide) (by omega)), ((hsb0_7.gg0 k59).ggB k60 (hbb4.g0 k59) (by decide) (by omega)), ((hsb1_1.gg0 k59).ggB k60 (hbb4.g0 k59) (by decide) (by omega)), ((hsb2_1.gg0 k59).ggB k60 (hbb4.g0 k59) (by decide) (by omega)), ((hsb3_1.gg0 k59).ggB k60 (hbb4.g0 k59) (by decide) (by omega)), ((hsb5_1.gg0 k59).ggB k60 (hbb4.g0 k59) (by decide) (by omega)), ((hsb5_3.gg0 k59).ggB k60 (hbb4.g0 k59) (by decide) (by omega))⟩ (by exact ⟨rfl, rfl, rfl, rfl, rfl, rfl, rfl, rfl, trivial⟩)
  rintro u2 w64 ⟨hb58, hu2, hOc, hbc0, hbc1, hbc2, hbc3, hbc4, hbc5, hsc0_1, hsc0_3, hsc0_5, hsc0_7, hsc1_1, hsc2_1, hsc3_1, hsc5_1, hsc5_3⟩
  have hz47 := hb58.size
  have hbc0l := hbc0.lt
  have hbc1l := hbc1.lt
  have hbc2l := hbc2.lt
  have hbc3l := hbc3.lt
  have hbc4l := hbc4.lt
  have hbc5l := hbc5.lt
  refine w_region (st (s_iaddr arr45 rfl rfl (by omega) (by omega) (st (s_load one4 rfl hbc4.range (j := 3) rfl (st (s_move rfl ?_))))))
  refine r_case 124 rfl (fun h12 => ?_) (fun h12 => ?_)
  · refine s_pass rfl rfl (s_pass rfl rfl (s_pass rfl rfl (s_pass rfl rfl (st (s_pick rfl rfl (st (s_iaddr arr45 rfl rfl (by omega) (by omega) (st0 (s_store one4 rfl rfl rfl hbc4 (of_decide_eq_true rfl) ?_)))))))))
    intro w65 hB24 k61 hs23
    have hb59 := below_g hb58 k61 (by first | omega | (have h9 := (hb58).size; omega))
    have hO52 := Own.keptG (cell_gk 83 n0) hOc k61 (Blk.isG hbc4 (by decide) (by omega)) (hOc.neB hbc4 (by decide))
    refine r_end (n_block (n_then (w_region (st (s_move rfl (st (s_add rfl rfl (by omega) (st (s_assign rfl ?_)))))))))
    refine r_end ?_
    exact n_round (((i + 1)), (u0), (u1), (u2), (true)) ⟨hb59, by omega, any_next hi.1 hlt ht0 hu0, any_next hi.1 hlt ht1 hu1, any_next hi.1 hlt ht2 hu2, any_next hi.1 hlt ht3 (by rw [h12]; rfl), hO52, (hbc0.gne k61 (by omega)), (hbc1.gne k61 (by omega)), (hbc2.gne k61 (by omega)), (hbc3.gne k61 (by omega)), hB24, (hsc0_1.ggB k61 hbc4 (by decide) (by omega)), (hsc0_3.ggB k61 hbc4 (by decide) (by omega)), (hsc0_5.ggB k61 hbc4 (by decide) (by omega)), (hsc0_7.ggB k61 hbc4 (by decide) (by omega)), (hsc1_1.ggB k61 hbc4 (by decide) (by omega)), (hsc2_1.ggB k61 hbc4 (by decide) (by omega)), (hsc3_1.ggB k61 hbc4 (by decide) (by omega))⟩ (by dsimp only; omega) (by exact ⟨rfl, rfl, rfl, rfl, rfl, rfl, rfl, trivial⟩)
  refine stg (s_faddr fld47_1 rfl (stg (s_loadN (us := [.bool (decide ((ix (lastL (l.map toCl)) i).y < 0)), cb1]) row31 rfl hbc5.range (j := 2) rfl rfl (stg (s_loadW row31 rfl hbc3.range rfl (stg (s_call fn24 rfl (rbsame_any (hsc5_3).none (hsc3_1).none) ?_)))))))
  rintro v25 w66 ⟨hq22, hv5⟩
  rw [show decide (decide ((ix (lastL (l.map toCl)) i).y < 0) = decide (((((bxOf ((quadR l 30).1)).y) + ((bxOf ((quadR l 30).1)).h)) - (1 : Int)) < 0) ∧ ml ((ix (lastL (l.map toCl)) i).y) = ml ((((bxOf ((quadR l 30).1)).y) + ((bxOf ((quadR l 30).1)).h)) - (1 : Int))) = decide (((ix (lastL (l.map toCl)) i).y) = ((((bxOf ((quadR l 30).1)).y) + ((bxOf ((quadR l 30).1)).h)) - (1 : Int))) from decide_eq_decide.2 same_big] at hv5
  subst hv5
  have k62 := grown_of_below hq22 none
  have hz48 := hq22.size
  have hb60 := below_g0 hb58 k62
  have hz49 := hb60.size
  have hO53 := hOc.g0 k62
  refine st (s_pick rfl rfl (st (s_iaddr arr45 rfl rfl (by omega) (by omega) (st0 (s_store one4 rfl rfl rfl (hbc4.g0 k62) (of_decide_eq_true rfl) ?_)))))
  intro w67 hB25 k63 hs24
  have hb61 := below_g hb60 k63 (by first | omega | (have h9 := (hb60).size; omega))
  have hO54 := Own.keptG (cell_gk 83 n0) hO53 k63 (Blk.isG (hbc4.g0 k62) (by decide) (by omega)) (hO53.neB (hbc4.g0 k62) (by decide))
  refine r_end (n_block (n_then (w_region (st (s_move rfl (st (s_add rfl rfl (by omega) (st (s_assign rfl ?_)))))))))
  refine r_end ?_
  exact n_round (((i + 1)), (u0), (u1), (u2), (decide (((ix (lastL (l.map toCl)) i).y) = ((((bxOf ((quadR l 30).1)).y) + ((bxOf ((quadR l 30).1)).h)) - (1 : Int))))) ⟨hb61, by omega, any_next hi.1 hlt ht0 hu0, any_next hi.1 hlt ht1 hu1, any_next hi.1 hlt ht2 hu2, any_next hi.1 hlt ht3 (by rw [h12]; rfl), hO54, ((hbc0.g0 k62).gne k63 (by omega)), ((hbc1.g0 k62).gne k63 (by omega)), ((hbc2.g0 k62).gne k63 (by omega)), ((hbc3.g0 k62).gne k63 (by omega)), hB25, ((hsc0_1.gg0 k62).ggB k63 (hbc4.g0 k62) (by decide) (by omega)), ((hsc0_3.gg0 k62).ggB k63 (hbc4.g0 k62) (by decide) (by omega)), ((hsc0_5.gg0 k62).ggB k63 (hbc4.g0 k62) (by decide) (by omega)), ((hsc0_7.gg0 k62).ggB k63 (hbc4.g0 k62) (by decide) (by omega)), ((hsc1_1.gg0 k62).ggB k63 (hbc4.g0 k62) (by decide) (by omega)), ((hsc2_1.gg0 k62).ggB k63 (hbc4.g0 k62) (by decide) (by omega)), ((hsc3_1.gg0 k62).ggB k63 (hbc4.g0 k62) (by decide) (by omega))⟩ (by dsimp only; omega) (by exact ⟨rfl, rfl, rfl, rfl, rfl, rfl, rfl, trivial⟩)
end Go.Proofs.Ytfljelnfjbbknaa.Lm
