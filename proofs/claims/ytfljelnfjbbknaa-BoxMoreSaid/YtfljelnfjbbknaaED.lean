/- Part of the proof: a library for walks, plain laws, and functions' walks. -/
import Derived.Test.YtfljelnfjbbknaaM11
import Derived.Test.YtfljelnfjbbknaaM9
set_option maxRecDepth 20000
set_option linter.unusedSimpArgs false
set_option linter.unusedVariables false
namespace Go.Proofs.Ytfljelnfjbbknaa.Lm
open Go.RowKit Go.Gw
set_option maxHeartbeats 1000000 in
theorem more_any {w : World} {F : Nat → Prop} {va ca cb : Value} {l : List RCl} {c : RCl} {n0 : Nat} (hn0 : n0 ≤ w.heap.size) (hl : Sl (Kd.rcell 83 n0) w F va l) (hca : Sl Kd.u32 w (G 83 n0 w) ca c.xs) (hcb : Sl Kd.u32 w (G 83 n0 w) cb c.ys) (hst : 0 ≤ c.st ∧ c.st ≤ 255) (hll : 72 * l.length ≤ 140737488351232) :
    Calls Try.prog 5 [va, .agg [.bool c.xn, ca, .bool c.yn, cb, .int .u8 c.st].toArray].toArray w (Pure w fun v _ => v = .bool true) := by
  have hb0 := Below.refl w.heap.size w
  have hln1 := hl.lenle
  refine enter Try.func5 rfl rfl (w_seq (w_region (st (s_box rfl ?_))))
  intro g1 w1 hg1 hB1 k1 hs1
  change Blk w1 g1 47 [.bool c.xn, ca, .bool c.yn, cb, .int .u8 c.st].toArray at hB1
  have hb1 := below_g0 hb0 k1
  refine st (s_assign rfl (r_end (n_then (w_seq (w_seq (w_region (st (s_call fn10 rfl (alive9_any (n0 := n0) (below_n0 hn0 hb1)) ?_))))))))
  rintro _ w2 ⟨hq1, rfl⟩
  have k2 := grown_of_below hq1 none
  have hz1 := hq1.size
  have hb2 := below_g0 hb1 k2
  have hz2 := hb2.size
  refine st (s_not rfl (r_end (n_then (w_condF rfl (w_skip' (n_then (w_seq ?_)))))))
  refine w_region (st (s_move rfl (st (s_call fn18 rfl (quad_any (m := 30) (n0 := n0) (below_n0 hn0 hb2) (hl.at0 hb2) (by omega)) ?_))))
  rintro _ w3 ⟨hq2, sv1, rfl, hS1⟩
  have hS2 := hS1.loc
  have k3 := grown_of_below hq2 none
  have hz3 := hq2.size
  have hb3 := below_g0 hb2 k3
  have hz4 := hb3.size
  refine st (s_move rfl (st (s_extract rfl rfl (st (s_extract rfl rfl ?_)))))
  have hlt_1 := (((hB1.g0 k2).g0 k3)).lt
  refine st (s_alloc zero25 ?_)
  intro g2 w4 hg2 hB2 k4 hs2
  have hz5 := hb3.size
  have hb4 := below_g0 hb3 k4
  refine st0 (s_storeN row25 rfl rfl hB2 (by simp only [List.all_cons, List.all_nil, hS2.one, Bool.and_true, Bool.and_self] <;> rfl) rfl rfl ?_)
  intro w5 hB3 k5 hs3
  have hb5 := below_g hb4 k5 (by first | omega | (have h9 := (hb4).size; omega))
  refine st (s_assign rfl (r_end (n_then (w_seq ?_))))
  have hz6 := hb5.size
  have hlt1 := (((((hB1.g0 k2).g0 k3).g0 k4).gne k5 (by omega))).lt
  refine w_drawT 5 (fun a b => a.grownBy b none) [(some 24, fun v W => ∃ g, v = .slice (some ⟨g, 0, none⟩) 0 0 ∧ Blk W g 47 #[] ∧ Gw.Own (Kd.rcell 83 n0) 47 w5.heap.size W (fun _ => False) v []), (some 25, Is <| va), (some 26, fun v W => Gw.Own (Kd.rcell 83 n0) 47 w5.heap.size W (fun _ => False) v (l)), (some 27, Is <| .agg [.bool c.xn, ca, .bool c.yn, cb, .int .u8 c.st].toArray), (some 28, fun v W => Sl (Kd.rcell 83 n0) W (fun _ => False) v [c])] [[], [], [0, 1], [], [3]] [(0, va), (3, .pointer (some ⟨g1, 0, none⟩)), (4, .bool false), (5, .pointer (some ⟨g2, 0, none⟩)), (6, .bool ((quadR l 30).2))] (by exact ⟨rfl, rfl, rfl, rfl, rfl, trivial⟩) (by kernel_rfl) (by kernel_rfl) grown_none_refl (fun _ _ _ => grown_none_trans) ⟨fun _ _ _ h k => by obtain ⟨g, e, h0, h⟩ := h; exact ⟨g, e, h0.g0 k, h.g0 k⟩, kv, fun _ _ _ h k => h.g0 k, kv, fun _ _ _ h k => h.g0 k, trivial⟩ ?_
  intro w9 k9 hs5
  have hb6 := below_g0 hb5 k9
  refine ⟨⟨?_, ?_, ?_, ?_, ?_, trivial⟩, ?_⟩
  · intro w10 k10
    have hb7 := below_g0 hb6 k10
    refine op1 (s_bslice0b (K := (Kd.rcell 83 n0)) (base := w5.heap.size) (F := (fun _ => False)) sl39 (by first | exact Nat.le_refl _ | omega | (have h0_ := k1.size; have h1_ := k2.size; have h2_ := k3.size; have h3_ := k4.size; have h4_ := k5.size; have h5_ := k9.size; have h6_ := k10.size; omega)) (fun _ h => h.elim) ?_)
    intro g5 w11 hB6 hO3 k11
    have hb8 := below_g0 hb7 k11
    have hz7 := hb8.size
    exact ⟨⟨_, rfl, hB6, hO3⟩, k11⟩
  · intro w12 k12
    refine op1 (s_move rfl ?_)
    exact ⟨rfl, grown_none_refl _⟩
  · intro w13 k13
    have hb10 := below_g0 hb6 k13
    rintro _ ⟨g6, rfl, hB7, hO4⟩
    intro v_ hv_; subst v_
    refine op1 (s_append0H sl39 rfl rfl hO4 hB7 (fun _ _ h_ => (rcell_free 83 n0) _ _ _ _ _ h_ (fun _ _ hO_ => hO_.elim (fun h_ => h_.elim) fun hO_ => hO4.isG hO_ (by decide) (by omega))) ((hl.at0 hb10)).none (rcell_gk 83 n0).ones (by first | omega | (simp; omega)) (by first | omega | (simp; omega)) (by first | exact Nat.le_refl _ | omega | (have h0_ := k1.size; have h1_ := k2.size; have h2_ := k3.size; have h3_ := k4.size; have h4_ := k5.size; have h5_ := k9.size; have h6_ := k13.size; omega)) ?_)
    intro v2 w14 hO5 k14
    have hb11 := below_g0 hb10 k14
    have hz8 := hb11.size
    exact ⟨hO5, k14⟩
  · intro w15 k15
    refine op1 (s_loadW row47 rfl ((((((hB1.g0 k2).g0 k3).g0 k4).gne k5 (by omega)).g0 k9).g0 k15).range rfl ?_)
    exact ⟨rfl, grown_none_refl _⟩
  · intro w16 k16
    have hb13 := below_g0 hb6 k16
    rintro _ rfl
    refine op1 (s_bslice (ps := [(0, .tmp 27)]) (ccs := [#[.bool c.xn, ca, .bool c.yn, cb, .int .u8 c.st]]) (e := 47) (cells := [.bool c.xn, ca, .bool c.yn, cb, .int .u8 c.st]) rfl rfl (by kernel_rfl) (by decide) nz47 ?_)
    intro g7 w17 hg4 hB8 k17 hs6
    have hb14 := below_g0 hb13 k17
    have hz9 := hb14.size
    have hS4 : Sl (Kd.rcell 83 n0) w17 (fun _ => False) (.slice (some ⟨g7, 0, none⟩) 1 1) [c] := lit_rcell (c := c) hB8 ((((((((hca.gg0 k1).gg0 k2).gg0 k3).gg0 k4).ggB k5 hB2 (by decide) (by omega)).gg0 k9).gg0 k16).gg0 k17) ((((((((hcb.gg0 k1).gg0 k2).gg0 k3).gg0 k4).ggB k5 hB2 (by decide) (by omega)).gg0 k9).gg0 k16).gg0 k17) hst
    exact ⟨hS4, k17⟩
  intro w18 k18
  have hb15 := below_g0 hb6 k18
  have hz10 := k9.size
  have hz11 := k18.size
  rintro _ ⟨g8, rfl, hB9, hO6⟩
  intro v_ hv_; subst v_
  intro v3 hO7
  have hn1 := own_fresh hO7 (g := g1) hlt1
  rintro _ rfl v4 hS5
  refine st (s_appendH (K := (Kd.rcell 83 n0)) sl39 rfl rfl hO7 (fun _ _ h_ => (rcell_free 83 n0) _ _ _ _ _ h_ (fun _ _ hO_ => hO_.elim (fun h_ => h_.elim) fun hO_ => hO7.isG hO_ (by decide) (by omega))) hS5 (rcell_gk 83 n0).ones (by first | omega | (simp; omega)) (by first | omega | (simp; omega)) (by first | exact Nat.le_refl _ | omega | (have h0_ := k1.size; have h1_ := k2.size; have h2_ := k3.size; have h3_ := k4.size; have h4_ := k5.size; have h5_ := k9.size; have h6_ := k18.size; omega)) (fun _ h => h.elim) ?_)
  intro v5 w19 hO9 k19 hr1 _
  have hn2 := own_app hn1 hr1 (by have := ((((((hB1.g0 k2).g0 k3).g0 k4).gne k5 (by omega)).g0 k9).g0 k18).lt; omega)
  have hb16 := hb15.grown k19 hb15.size (fun k_ hk_ => by have h9_ := (hO7.lt k_ hk_).1; omega)
  have hz12 := hb16.size
  refine st (s_assign rfl (r_end (n_then (w_seq (w_region (st (s_move rfl (st (s_call fn18 rfl (quad_any (m := 31) (n0 := n0) (below_n0 hn0 hb16) hO9.sl (by omega)) ?_)))))))))
  rintro _ w20 ⟨hq3, sv2, rfl, hS6⟩
  have hS7 := hS6.loc
  have hmk : (quadR (l ++ [c]) 31).2 = true → QuadOk (l ++ [c]) 31 := quad_ok (hO9.sl)
  have k20 := grown_of_below hq3 none
  have hz13 := hq3.size
  have hb17 := below_g0 hb16 k20
  have hz14 := hb17.size
  refine st (s_move rfl (st (s_extract rfl rfl (st (s_extract rfl rfl ?_)))))
  have hlt_2 := (((((((((hB1.g0 k2).g0 k3).g0 k4).gne k5 (by omega)).g0 k9).g0 k18).grown k19 (fun e => hn1 e.symm)).g0 k20)).lt
  have hlt_3 := (((((hB3.g0 k9).g0 k18).grown k19 (fun e => by have := hO7.ne_blk ((hB3.g0 k9).g0 k18) (by decide); simp_all)).g0 k20)).lt
  refine st (s_alloc zero25 ?_)
  intro g9 w21 hg5 hB10 k21 hs7
  have hz15 := hb17.size
  have hb18 := below_g0 hb17 k21
  refine st0 (s_storeN row25 rfl rfl hB10 (by simp only [List.all_cons, List.all_nil, hS7.one, Bool.and_true, Bool.and_self] <;> rfl) rfl rfl ?_)
  intro w22 hB11 k22 hs8
  have hb19 := below_g hb18 k22 (by first | omega | (have h9 := (hb18).size; omega))
  refine st (s_assign rfl (r_end (n_then (w_seq (w_seq (w_region (st (s_move rfl ?_))))))))
  refine st (s_not rfl (st (s_move rfl ?_)))
  refine r_case 37 rfl (fun h1 => ?_) (fun h1 => ?_)
  · refine s_pass rfl rfl (s_pass rfl rfl (st (s_pick rfl rfl (st (s_move rfl (s_pass rfl rfl (s_pass rfl rfl (s_pass rfl rfl ?_))))))))
    refine st (s_pick rfl rfl (r_end (n_then (w_condT rfl (w_seq (w_region (st (s_assign rfl ?_))))))))
    refine r_end (n_then (w_ret1 rfl rfl ?_))
    exact ⟨_, rfl, hb19, rfl⟩
  have hq := quad_ok (m := 30) hl (by simpa using h1)
  refine stg (s_move rfl (stg (s_not rfl (st (s_pick rfl rfl (st (s_move rfl ?_)))))))
  refine r_case 41 rfl (fun h2 => ?_) (fun h2 => ?_)
  · refine s_pass rfl rfl (s_pass rfl rfl (s_pass rfl rfl (st (s_pick rfl rfl (r_end (n_then (w_condT rfl ?_)))))))
    refine w_seq (w_region (st (s_assign rfl (r_end (n_then (w_ret1 rfl rfl ?_))))))
    exact ⟨_, rfl, hb19, rfl⟩
  have hk : QuadOk (l ++ [c]) 31 := hmk (by simpa using h2)
  have hcr := hk.all c (by simp)
  have hcb2 := hk.cb (toCl c) (by rw [List.map_append]; simp)
  unfold rightR at hcr
  rw [Bool.and_eq_true] at hcr
  obtain ⟨hxn, hxs⟩ := sg_right (lim_sl hca) hcr.1
  obtain ⟨hyn, hys⟩ := sg_right (lim_sl hcb) hcr.2
  change c.xn = decide ((toCl c).x < 0) at hxn
  change c.xs = ml (toCl c).x at hxs
  change c.yn = decide ((toCl c).y < 0) at hyn
  change c.ys = ml (toCl c).y at hys
  have hB12 := ((((((((((hB1.g0 k2).g0 k3).g0 k4).gne k5 (by omega)).g0 k9).g0 k18).grown k19 (fun e => hn1 e.symm)).g0 k20).g0 k21).gne k22 (by omega))
  rw [hxn, hyn] at hB12
  have hS8 := (((((((((((hca.gg0 k1).gg0 k2).gg0 k3).gg0 k4).ggB k5 hB2 (by decide) (by omega)).gg0 k9).gg0 k18).ggO k19 hO7 (by decide) (by omega)).gg0 k20).gg0 k21).ggB k22 hB10 (by decide) (by omega))
  rw [hxs] at hS8
  have hS9 := (((((((((((hcb.gg0 k1).gg0 k2).gg0 k3).gg0 k4).ggB k5 hB2 (by decide) (by omega)).gg0 k9).gg0 k18).ggO k19 hO7 (by decide) (by omega)).gg0 k20).gg0 k21).ggB k22 hB10 (by decide) (by omega))
  rw [hys] at hS9
  refine stg (s_faddr fld47_2 rfl (stg (s_load one5 rfl hB12.range (j := 4) rfl (stg (s_eq rfl rfl (st (s_pick rfl rfl (r_end (n_then ?_)))))))))
  refine w_condP rfl (fun h3 => ?_) (fun h3 => ?_)
  · refine w_seq (w_region (st (s_assign rfl (r_end (n_then (w_ret1 rfl rfl ?_))))))
    exact ⟨_, rfl, hb19, rfl⟩
  have hsm := more_some hq hk h3
  have hin := more_in hq hk h3
  refine w_skip' (n_then (w_seq (w_region (st (s_loadW row25 rfl ((((((hB3.g0 k9).g0 k18).grown k19 (fun e => by have := hO7.ne_blk ((hB3.g0 k9).g0 k18) (by decide); simp_all)).g0 k20).g0 k21).gne k22 (by omega)).range rfl (st (s_call fn12 rfl (bof_any (n0 := n0) (below_n0 hn0 hb19) (Sl.gSmall node_flat (((Sl.gO (((Sl.gSmall node_flat (hS2.g0 k4) k5 hB2 (by decide)).g0 k9).g0 k18) k19 (fun g_ h_ => by have h9_ := (hO7.lt g_ h_).1; have h0_ := k4.size; have h1_ := k5.size; have h2_ := k9.size; have h3_ := k18.size; omega)).g0 k20).g0 k21) k22 hB10 (by decide)) hq.can.ok (by have := hq.nodes; have := hq.len; omega)) ?_)))))))
  rintro _ w23 ⟨hq4, _, rfl, v6, v7, v8, v9, rfl, hS10, hS11, hS12, hS13⟩
  have k23 := grown_of_below hq4 none
  have hz16 := hq4.size
  have hb20 := below_g0 hb19 k23
  have hz17 := hb20.size
  refine st (s_move rfl (st (s_extract rfl rfl (st (s_extract rfl rfl ?_)))))
  have hlt_4 := ((hB12.g0 k23)).lt
  have hlt_5 := ((((((((hB3.g0 k9).g0 k18).grown k19 (fun e => by have := hO7.ne_blk ((hB3.g0 k9).g0 k18) (by decide); simp_all)).g0 k20).g0 k21).gne k22 (by omega)).g0 k23)).lt
  have hlt_6 := ((hB11.g0 k23)).lt
  refine st (s_alloc zero33 ?_)
  intro g10 w24 hg6 hB13 k24 hs9
  have hz18 := hb20.size
  have hb21 := below_g0 hb20 k24
  refine st0 (s_storeN row33 rfl rfl hB13 (by simp only [List.all_cons, List.all_nil, hS10.one, hS11.one, hS12.one, hS13.one, Bool.and_true, Bool.and_self] <;> rfl) rfl rfl ?_)
  intro w25 hB14 k25 hs10
  have hb22 := below_g hb21 k25 (by first | omega | (have h9 := (hb21).size; omega))
  refine st (s_assign rfl (r_end (n_then (w_seq (w_region (st (s_loadW row25 rfl (((hB11.g0 k23).g0 k24).gne k25 (by omega)).range rfl (st (s_call fn12 rfl (bof_any (n0 := n0) (below_n0 hn0 hb22) ((((Sl.gSmall node_flat (hS7.g0 k21) k22 hB10 (by decide)).g0 k23).g0 k24).g k25 (.inr (by omega))) hk.can.ok (by have := hk.nodes; have := hk.len; omega)) ?_)))))))))
  rintro _ w26 ⟨hq5, _, rfl, v10, v11, v12, v13, rfl, hS14, hS15, hS16, hS17⟩
  have k26 := grown_of_below hq5 none
  have hz19 := hq5.size
  have hb23 := below_g0 hb22 k26
  have hz20 := hb23.size
  refine st (s_move rfl (st (s_extract rfl rfl (st (s_extract rfl rfl ?_)))))
  have hlt_7 := (((((hB12.g0 k23).g0 k24).gne k25 (by omega)).g0 k26)).lt
  have hlt_8 := (((((((((((hB3.g0 k9).g0 k18).grown k19 (fun e => by have := hO7.ne_blk ((hB3.g0 k9).g0 k18) (by decide); simp_all)).g0 k20).g0 k21).gne k22 (by omega)).g0 k23).g0 k24).gne k25 (by omega)).g0 k26)).lt
  have hlt_9 := (((((hB11.g0 k23).g0 k24).gne k25 (by omega)).g0 k26)).lt
  have hlt_10 := ((hB14.g0 k26)).lt
  refine st (s_alloc zero33 ?_)
  intro g11 w27 hg7 hB15 k27 hs11
  have hz21 := hb23.size
  have hb24 := below_g0 hb23 k27
  refine st0 (s_storeN row33 rfl rfl hB15 (by simp only [List.all_cons, List.all_nil, hS14.one, hS15.one, hS16.one, hS17.one, Bool.and_true, Bool.and_self] <;> rfl) rfl rfl ?_)
  intro w28 hB16 k28 hs12
  have hb25 := below_g hb24 k28 (by first | omega | (have h9 := (hb24).size; omega))
  refine st (s_assign rfl (r_end (n_then (w_seq ?_))))
  have hlt_22 := (((((((hB12.g0 k23).g0 k24).gne k25 (by omega)).g0 k26).g0 k27).gne k28 (by omega))).lt
  have hlt_23 := (((((((((((((hB3.g0 k9).g0 k18).grown k19 (fun e => by have := hO7.ne_blk ((hB3.g0 k9).g0 k18) (by decide); simp_all)).g0 k20).g0 k21).gne k22 (by omega)).g0 k23).g0 k24).gne k25 (by omega)).g0 k26).g0 k27).gne k28 (by omega))).lt
  have hlt_24 := (((((((hB11.g0 k23).g0 k24).gne k25 (by omega)).g0 k26).g0 k27).gne k28 (by omega))).lt
  have hlt_25 := ((((hB14.g0 k26).g0 k27).gne k28 (by omega))).lt
  have hlt_26 := (hB16).lt
  refine w_drawF 12 (fun a b => a.grownBy b none) [(some 56, Is <| .pointer (some ⟨g11, 0 + 0, none⟩)), (some 57, Is <| .agg [.bool (decide ((bxOf ((quadR (l ++ [c]) 31).1)).x < 0)), v10].toArray), (some 58, Is <| .pointer (some ⟨g11, 0 + 4, none⟩)), (some 59, Is <| .agg [.bool (decide ((bxOf ((quadR (l ++ [c]) 31).1)).w < 0)), v12].toArray), (some 60, fun v W => IsBig 83 n0 W v ((((bxOf ((quadR (l ++ [c]) 31).1)).x) + ((bxOf ((quadR (l ++ [c]) 31).1)).w)))), (some 61, Is <| .pointer (some ⟨g11, 0 + 2, none⟩)), (some 62, Is <| .agg [.bool (decide ((bxOf ((quadR (l ++ [c]) 31).1)).y < 0)), v11].toArray), (some 63, Is <| .pointer (some ⟨g11, 0 + 6, none⟩)), (some 64, Is <| .agg [.bool (decide ((bxOf ((quadR (l ++ [c]) 31).1)).h < 0)), v13].toArray), (some 65, fun v W => IsBig 83 n0 W v ((((bxOf ((quadR (l ++ [c]) 31).1)).y) + ((bxOf ((quadR (l ++ [c]) 31).1)).h)))), (some 14, fun v W => ∃ g, v = .pointer (some ⟨g, 0, none⟩) ∧ Blk W g 31 #[.bool false, .slice none 0 0] ∧ w28.heap.size ≤ g), (some 15, fun v W => ∃ g, v = .pointer (some ⟨g, 0, none⟩) ∧ Blk W g 31 #[.bool false, .slice none 0 0] ∧ w28.heap.size ≤ g)] [[], [0], [], [2], [1, 3], [], [5], [], [7], [6, 8], [], []] [false, false, false, false, false, false, false, false, false, false, true, true] [(3, .pointer (some ⟨g1, 0, none⟩)), (4, .bool false), (10, .pointer (some ⟨g10, 0, none⟩)), (11, .bool ((bxs ((quadR l 30).1)).some)), (12, .pointer (some ⟨g11, 0, none⟩)), (13, .bool ((bxs ((quadR (l ++ [c]) 31).1)).some))] (by exact ⟨rfl, rfl, rfl, rfl, rfl, rfl, trivial⟩) (by kernel_rfl) (by kernel_rfl) grown_none_refl (fun _ _ _ => grown_none_trans) ⟨kv, kv, kv, kv, fun _ _ _ h k => h.g0 k, kv, kv, kv, kv, fun _ _ _ h k => h.g0 k, fun _ _ _ h k => by obtain ⟨g, e, hB, hg⟩ := h; exact ⟨g, e, hB.g0 k, hg⟩, fun _ _ _ h k => by obtain ⟨g, e, hB, hg⟩ := h; exact ⟨g, e, hB.g0 k, hg⟩, trivial⟩ ⟨(fun h => by cases h), (fun h => by cases h), (fun h => by cases h), (fun h => by cases h), (fun h => by cases h), (fun h => by cases h), (fun h => by cases h), (fun h => by cases h), (fun h => by cases h), (fun h => by cases h), fun _ _ _ ⟨g, e, hB, _⟩ => ⟨g, e, hB.lt⟩, fun _ _ _ ⟨g, e, hB, _⟩ => ⟨g, e, hB.lt⟩, trivial⟩ ?_
  intro w33 k33 hs15
  have hb26 := below_g0 hb25 k33
  refine ⟨⟨?_, ?_, ?_, ?_, ?_, ?_, ?_, ?_, ?_, ?_, ?_, ?_, trivial⟩, ?_⟩
  · intro w34 k34
    refine op1 (s_faddr fld33_0 rfl ?_)
    exact ⟨rfl, grown_none_refl _, fun h => by cases h⟩
  · intro w35 k35
    rintro _ rfl
    refine op1 (s_loadN (us := [.bool (decide ((bxOf ((quadR (l ++ [c]) 31).1)).x < 0)), v10]) row31 rfl ((hB16.g0 k33).g0 k35).range (j := 0) rfl rfl ?_)
    exact ⟨rfl, grown_none_refl _, fun h => by cases h⟩
  · intro w36 k36
    refine op1 (s_faddr fld33_2 rfl ?_)
    exact ⟨rfl, grown_none_refl _, fun h => by cases h⟩
  · intro w37 k37
    rintro _ rfl
    refine op1 (s_loadN (us := [.bool (decide ((bxOf ((quadR (l ++ [c]) 31).1)).w < 0)), v12]) row31 rfl ((hB16.g0 k33).g0 k37).range (j := 4) rfl rfl ?_)
    exact ⟨rfl, grown_none_refl _, fun h => by cases h⟩
  · intro w38 k38
    have hb31 := below_g0 hb26 k38
    rintro _ rfl _ rfl
    refine op1 (s_call fn22 rfl (rbadd_any (n0 := n0) (below_n0 hn0 hb31) (big_of rfl ((((hS14.gg0 k27).ggB k28 hB15 (by decide) (by omega)).gg0 k33).gg0 k38)) (big_of rfl ((((hS16.gg0 k27).ggB k28 hB15 (by decide) (by omega)).gg0 k33).gg0 k38)) (Bd.le (bxOf_bd (l := (quadR (l ++ [c]) 31).1) hk.can.ok).x (show 44 ≤ 90000 by decide)) (Bd.le (bxOf_bd (l := (quadR (l ++ [c]) 31).1) hk.can.ok).w (show 44 ≤ 90000 by decide))) ?_)
    rintro _ w39 ⟨hq8, v16, rfl, hS20⟩
    have k39 := grown_of_below hq8 none
    have hz22 := hq8.size
    have hb32 := below_g0 hb31 k39
    have hz23 := hb32.size
    exact ⟨⟨_, rfl, hS20⟩, k39, fun h => by cases h⟩
  · intro w40 k40
    refine op1 (s_faddr fld33_1 rfl ?_)
    exact ⟨rfl, grown_none_refl _, fun h => by cases h⟩
  · intro w41 k41
    rintro _ rfl
    refine op1 (s_loadN (us := [.bool (decide ((bxOf ((quadR (l ++ [c]) 31).1)).y < 0)), v11]) row31 rfl ((hB16.g0 k33).g0 k41).range (j := 2) rfl rfl ?_)
    exact ⟨rfl, grown_none_refl _, fun h => by cases h⟩
  · intro w42 k42
    refine op1 (s_faddr fld33_3 rfl ?_)
    exact ⟨rfl, grown_none_refl _, fun h => by cases h⟩
  · intro w43 k43
    rintro _ rfl
    refine op1 (s_loadN (us := [.bool (decide ((bxOf ((quadR (l ++ [c]) 31).1)).h < 0)), v13]) row31 rfl ((hB16.g0 k33).g0 k43).range (j := 6) rfl rfl ?_)
    exact ⟨rfl, grown_none_refl _, fun h => by cases h⟩
  · intro w44 k44
    have hb37 := below_g0 hb26 k44
    rintro _ rfl _ rfl
    refine op1 (s_call fn22 rfl (rbadd_any (n0 := n0) (below_n0 hn0 hb37) (big_of rfl ((((hS15.gg0 k27).ggB k28 hB15 (by decide) (by omega)).gg0 k33).gg0 k44)) (big_of rfl ((((hS17.gg0 k27).ggB k28 hB15 (by decide) (by omega)).gg0 k33).gg0 k44)) (Bd.le (bxOf_bd (l := (quadR (l ++ [c]) 31).1) hk.can.ok).y (show 44 ≤ 90000 by decide)) (Bd.le (bxOf_bd (l := (quadR (l ++ [c]) 31).1) hk.can.ok).h (show 44 ≤ 90000 by decide))) ?_)
    rintro _ w45 ⟨hq9, v17, rfl, hS21⟩
    have k45 := grown_of_below hq9 none
    have hz24 := hq9.size
    have hb38 := below_g0 hb37 k45
    have hz25 := hb38.size
    exact ⟨⟨_, rfl, hS21⟩, k45, fun h => by cases h⟩
  · intro w46 k46
    have hb39 := below_g0 hb26 k46
    have hlt_27 := (((((((((hB12.g0 k23).g0 k24).gne k25 (by omega)).g0 k26).g0 k27).gne k28 (by omega)).g0 k33).g0 k46)).lt
    have hlt_28 := (((((((((((((((hB3.g0 k9).g0 k18).grown k19 (fun e => by have := hO7.ne_blk ((hB3.g0 k9).g0 k18) (by decide); simp_all)).g0 k20).g0 k21).gne k22 (by omega)).g0 k23).g0 k24).gne k25 (by omega)).g0 k26).g0 k27).gne k28 (by omega)).g0 k33).g0 k46)).lt
    have hlt_29 := (((((((((hB11.g0 k23).g0 k24).gne k25 (by omega)).g0 k26).g0 k27).gne k28 (by omega)).g0 k33).g0 k46)).lt
    have hlt_30 := ((((((hB14.g0 k26).g0 k27).gne k28 (by omega)).g0 k33).g0 k46)).lt
    have hlt_31 := (((hB16.g0 k33).g0 k46)).lt
    refine op1 (s_alloc zero31 ?_)
    intro g14 w47 hg10 hB19 k47 hs16
    have hz26 := hb39.size
    exact ⟨⟨_, rfl, hB19, by have h0_ := k33.size; have h1_ := k46.size; have h2_ := k47.size; omega⟩, k47, fun _ => ⟨_, rfl, by omega⟩⟩
  · intro w48 k48
    have hb41 := below_g0 hb26 k48
    have hlt_32 := (((((((((hB12.g0 k23).g0 k24).gne k25 (by omega)).g0 k26).g0 k27).gne k28 (by omega)).g0 k33).g0 k48)).lt
    have hlt_33 := (((((((((((((((hB3.g0 k9).g0 k18).grown k19 (fun e => by have := hO7.ne_blk ((hB3.g0 k9).g0 k18) (by decide); simp_all)).g0 k20).g0 k21).gne k22 (by omega)).g0 k23).g0 k24).gne k25 (by omega)).g0 k26).g0 k27).gne k28 (by omega)).g0 k33).g0 k48)).lt
    have hlt_34 := (((((((((hB11.g0 k23).g0 k24).gne k25 (by omega)).g0 k26).g0 k27).gne k28 (by omega)).g0 k33).g0 k48)).lt
    have hlt_35 := ((((((hB14.g0 k26).g0 k27).gne k28 (by omega)).g0 k33).g0 k48)).lt
    have hlt_36 := (((hB16.g0 k33).g0 k48)).lt
    refine op1 (s_alloc zero31 ?_)
    intro g15 w49 hg11 hB20 k49 hs17
    have hz27 := hb41.size
    exact ⟨⟨_, rfl, hB20, by have h0_ := k33.size; have h1_ := k48.size; have h2_ := k49.size; omega⟩, k49, fun _ => ⟨_, rfl, by omega⟩⟩
  intro w50 k50
  have hb43 := below_g0 hb26 k50
  have hz28 := k33.size
  have hz29 := k50.size
  rintro _ rfl _ rfl _ rfl _ rfl _ ⟨v18, rfl, hS22⟩ _ rfl _ rfl _ rfl _ rfl _ ⟨v19, rfl, hS23⟩ _ ⟨g16, rfl, hB21, hg12⟩
  have hlt_37 := hB21.lt
  rintro hnf1 _ ⟨g17, rfl, hB22, hg13⟩
  have hlt_38 := hB22.lt
  intro hnf2
  have hne1 : g16 ≠ g17 := fresh_ne (hnf2 _ (by simp))
  refine st0 (s_storeN row31 rfl rfl hB21 (by simp only [List.all_cons, List.all_nil, hS22.one, Bool.and_true, Bool.and_self] <;> rfl) rfl rfl ?_)
  intro w51 hB23 k51 hs18
  have hb44 := below_g hb43 k51 (by first | omega | (have h9 := (hb43).size; omega))
  refine st0 (s_storeN row31 rfl rfl (hB22.gne k51 (by omega)) (by simp only [List.all_cons, List.all_nil, hS23.one, Bool.and_true, Bool.and_self] <;> rfl) rfl rfl ?_)
  intro w52 hB24 k52 hs19
  have hb45 := below_g hb44 k52 (by first | omega | (have h9 := (hb44).size; omega))
  refine r_end (n_then (w_seq (w_region (st (s_move rfl (st (s_move rfl ?_)))))))
  refine r_case 67 rfl (fun h4 => ?_) (fun h4 => absurd (hsm.symm.trans h4) (by decide))
  refine stg (s_faddr fld33_0 rfl (stg (s_loadN (us := [.bool (decide ((bxOf ((quadR (l ++ [c]) 31).1)).x < 0)), v10]) row31 rfl ((((hB16.g0 k33).g0 k50).gne k51 (by omega)).gne k52 (by omega)).range (j := 0) rfl rfl (stg (s_faddr fld47_0 rfl (stg (s_loadN (us := [.bool (decide ((toCl c).x < 0)), ca]) row31 rfl ((((((((((hB12.g0 k23).g0 k24).gne k25 (by omega)).g0 k26).g0 k27).gne k28 (by omega)).g0 k33).g0 k50).gne k51 (by omega)).gne k52 (by omega)).range (j := 0) rfl rfl ?_)))))))
  refine stg (s_call fn23 rfl (rbcmp_any (n0 := n0) (below_n0 hn0 hb45) (big_of rfl ((((((hS14.gg0 k27).ggB k28 hB15 (by decide) (by omega)).gg0 k33).gg0 k50).ggB k51 hB21 (by decide) (by omega)).ggB k52 (hB22.gne k51 (by omega)) (by decide) (by omega))) (big_of rfl ((((((((((hS8.gg0 k23).gg0 k24).ggB k25 hB13 (by decide) (by omega)).gg0 k26).gg0 k27).ggB k28 hB15 (by decide) (by omega)).gg0 k33).gg0 k50).ggB k51 hB21 (by decide) (by omega)).ggB k52 (hB22.gne k51 (by omega)) (by decide) (by omega))) (Bd.le (bxOf_bd (l := (quadR (l ++ [c]) 31).1) hk.can.ok).x (show 44 ≤ 90000 by decide)) (Bd.le hcb2.1 (show 50 ≤ 90000 by decide))) ?_)
  rintro _ w53 ⟨hq10, rfl⟩
  have k53 := grown_of_below hq10 none
  have hz30 := hq10.size
  have hb46 := below_g0 hb45 k53
  have hz31 := hb46.size
  refine stg (s_le rfl rfl (st (s_pick rfl rfl (st (s_move rfl ?_)))))
  refine r_caseP 75 rfl (fun h5 => ?_) (fun h5 => absurd (cmpI_le.2 (by omega)) h5)
  refine stg (s_faddr fld47_0 rfl (stg (s_loadN (us := [.bool (decide ((toCl c).x < 0)), ca]) row31 rfl (((((((((((hB12.g0 k23).g0 k24).gne k25 (by omega)).g0 k26).g0 k27).gne k28 (by omega)).g0 k33).g0 k50).gne k51 (by omega)).gne k52 (by omega)).g0 k53).range (j := 0) rfl rfl (stg (s_loadW row31 rfl ((hB23.gne k52 (by omega)).g0 k53).range rfl ?_)))))
  refine stg (s_call fn23 rfl (rbcmp_any (n0 := n0) (below_n0 hn0 hb46) (big_of rfl (((((((((((hS8.gg0 k23).gg0 k24).ggB k25 hB13 (by decide) (by omega)).gg0 k26).gg0 k27).ggB k28 hB15 (by decide) (by omega)).gg0 k33).gg0 k50).ggB k51 hB21 (by decide) (by omega)).ggB k52 (hB22.gne k51 (by omega)) (by decide) (by omega)).gg0 k53)) (big_of rfl (((hS22.ggB k51 hB21 (by decide) (by omega)).ggB k52 (hB22.gne k51 (by omega)) (by decide) (by omega)).gg0 k53)) (Bd.le hcb2.1 (show 50 ≤ 90000 by decide)) (Bd.le (bd_add (bxOf_bd (l := (quadR (l ++ [c]) 31).1) hk.can.ok).x (bxOf_bd (l := (quadR (l ++ [c]) 31).1) hk.can.ok).w (show 44 < 45 by decide) (show 44 < 45 by decide)) (show 45 ≤ 90000 by decide))) ?_)
  rintro _ w54 ⟨hq11, rfl⟩
  have k54 := grown_of_below hq11 none
  have hz32 := hq11.size
  have hb47 := below_g0 hb46 k54
  have hz33 := hb47.size
  refine stg (s_lt rfl rfl (st (s_pick rfl rfl (st (s_move rfl ?_)))))
  refine r_caseP 82 rfl (fun h6 => ?_) (fun h6 => absurd (cmpI_lti.2 (by omega)) h6)
  refine stg (s_faddr fld33_1 rfl (stg (s_loadN (us := [.bool (decide ((bxOf ((quadR (l ++ [c]) 31).1)).y < 0)), v11]) row31 rfl ((((((hB16.g0 k33).g0 k50).gne k51 (by omega)).gne k52 (by omega)).g0 k53).g0 k54).range (j := 2) rfl rfl (stg (s_faddr fld47_1 rfl (stg (s_loadN (us := [.bool (decide ((toCl c).y < 0)), cb]) row31 rfl ((((((((((((hB12.g0 k23).g0 k24).gne k25 (by omega)).g0 k26).g0 k27).gne k28 (by omega)).g0 k33).g0 k50).gne k51 (by omega)).gne k52 (by omega)).g0 k53).g0 k54).range (j := 2) rfl rfl ?_)))))))
  refine stg (s_call fn23 rfl (rbcmp_any (n0 := n0) (below_n0 hn0 hb47) (big_of rfl ((((((((hS15.gg0 k27).ggB k28 hB15 (by decide) (by omega)).gg0 k33).gg0 k50).ggB k51 hB21 (by decide) (by omega)).ggB k52 (hB22.gne k51 (by omega)) (by decide) (by omega)).gg0 k53).gg0 k54)) (big_of rfl ((((((((((((hS9.gg0 k23).gg0 k24).ggB k25 hB13 (by decide) (by omega)).gg0 k26).gg0 k27).ggB k28 hB15 (by decide) (by omega)).gg0 k33).gg0 k50).ggB k51 hB21 (by decide) (by omega)).ggB k52 (hB22.gne k51 (by omega)) (by decide) (by omega)).gg0 k53).gg0 k54)) (Bd.le (bxOf_bd (l := (quadR (l ++ [c]) 31).1) hk.can.ok).y (show 44 ≤ 90000 by decide)) (Bd.le hcb2.2 (show 50 ≤ 90000 by decide))) ?_)
  rintro _ w55 ⟨hq12, rfl⟩
  have k55 := grown_of_below hq12 none
  have hz34 := hq12.size
  have hb48 := below_g0 hb47 k55
  have hz35 := hb48.size
  refine stg (s_le rfl rfl (st (s_pick rfl rfl (st (s_move rfl ?_)))))
  refine r_caseP 90 rfl (fun h7 => ?_) (fun h7 => absurd (cmpI_le.2 (by omega)) h7)
  refine stg (s_faddr fld47_1 rfl (stg (s_loadN (us := [.bool (decide ((toCl c).y < 0)), cb]) row31 rfl (((((((((((((hB12.g0 k23).g0 k24).gne k25 (by omega)).g0 k26).g0 k27).gne k28 (by omega)).g0 k33).g0 k50).gne k51 (by omega)).gne k52 (by omega)).g0 k53).g0 k54).g0 k55).range (j := 2) rfl rfl (stg (s_loadW row31 rfl (((hB24.g0 k53).g0 k54).g0 k55).range rfl ?_)))))
  refine stg (s_call fn23 rfl (rbcmp_any (n0 := n0) (below_n0 hn0 hb48) (big_of rfl (((((((((((((hS9.gg0 k23).gg0 k24).ggB k25 hB13 (by decide) (by omega)).gg0 k26).gg0 k27).ggB k28 hB15 (by decide) (by omega)).gg0 k33).gg0 k50).ggB k51 hB21 (by decide) (by omega)).ggB k52 (hB22.gne k51 (by omega)) (by decide) (by omega)).gg0 k53).gg0 k54).gg0 k55)) (big_of rfl (((((hS23.ggB k51 hB21 (by decide) (by omega)).ggB k52 (hB22.gne k51 (by omega)) (by decide) (by omega)).gg0 k53).gg0 k54).gg0 k55)) (Bd.le hcb2.2 (show 50 ≤ 90000 by decide)) (Bd.le (bd_add (bxOf_bd (l := (quadR (l ++ [c]) 31).1) hk.can.ok).y (bxOf_bd (l := (quadR (l ++ [c]) 31).1) hk.can.ok).h (show 44 < 45 by decide) (show 44 < 45 by decide)) (show 45 ≤ 90000 by decide))) ?_)
  rintro _ w56 ⟨hq13, rfl⟩
  have k56 := grown_of_below hq13 none
  have hz36 := hq13.size
  have hb49 := below_g0 hb48 k56
  have hz37 := hb49.size
  refine stg (s_lt rfl rfl (st (s_pick rfl rfl (st (s_assign rfl (r_end (n_then (w_seq (w_seq ?_)))))))))
  refine w_region (st (s_move rfl (st (s_not rfl (r_end (n_then ?_))))))
  refine w_cond rfl (fun h8 => ?_) (fun h8 => ?_)
  · have hone := more_one hq hk h3 (by simpa using h8)
    refine w_seq ?_
    have h9 : ((cmpI ((toCl c).y) (((bxOf ((quadR (l ++ [c]) 31).1)).y) + ((bxOf ((quadR (l ++ [c]) 31).1)).h))) < 0) := Classical.byContradiction fun h9 => absurd (cmpI_lti.2 (by omega)) h9
    have h10 : (((bxOf ((quadR (l ++ [c]) 31).1)).w) = (1 : Int)) := Classical.byContradiction fun h10 => absurd hone.1 h10
    refine w_draw 13 (fun a b => a.grownBy b none) [(some 99, Is <| .bool (decide ((cmpI ((toCl c).y) (((bxOf ((quadR (l ++ [c]) 31).1)).y) + ((bxOf ((quadR (l ++ [c]) 31).1)).h))) < 0))), (some 100, Is <| .bool true), (some 101, Is <| .pointer (some ⟨g11, 0 + 4, none⟩)), (some 102, Is <| .agg [.bool (decide ((bxOf ((quadR (l ++ [c]) 31).1)).w < 0)), v12].toArray), (some 103, fun v W => IsBig 83 n0 W v ((1 : Int))), (some 104, Is <| .bool (decide (((bxOf ((quadR (l ++ [c]) 31).1)).w) = (1 : Int)))), (some 105, Is <| .bool (decide (((bxOf ((quadR (l ++ [c]) 31).1)).w) = (1 : Int)))), (some 106, Is <| .bool true), (some 107, Is <| .pointer (some ⟨g11, 0 + 6, none⟩)), (some 108, Is <| .agg [.bool (decide ((bxOf ((quadR (l ++ [c]) 31).1)).h < 0)), v13].toArray), (some 109, fun v W => IsBig 83 n0 W v ((1 : Int))), (some 110, Is <| .bool (decide (((bxOf ((quadR (l ++ [c]) 31).1)).h) = (1 : Int)))), (some 111, Is <| .bool (decide (((bxOf ((quadR (l ++ [c]) 31).1)).h) = (1 : Int))))] [[], [0], [1], [1, 2], [1], [1, 3, 4], [1, 5], [6], [7], [7, 8], [7], [7, 9, 10], [7, 11]] [(4, .bool false), (10, .pointer (some ⟨g10, 0, none⟩)), (12, .pointer (some ⟨g11, 0, none⟩)), (14, .pointer (some ⟨g16, 0, none⟩)), (15, .pointer (some ⟨g17, 0, none⟩)), (16, .bool (decide ((cmpI ((toCl c).y) (((bxOf ((quadR (l ++ [c]) 31).1)).y) + ((bxOf ((quadR (l ++ [c]) 31).1)).h))) < 0)))] (by exact ⟨rfl, rfl, rfl, rfl, rfl, rfl, trivial⟩) (by kernel_rfl) (by kernel_rfl) grown_none_refl (fun _ _ _ => grown_none_trans) ⟨kv, kv, kv, kv, fun _ _ _ h k => h.g0 k, kv, kv, kv, kv, kv, fun _ _ _ h k => h.g0 k, kv, kv, trivial⟩ ?_
    intro w61 k61 hs20
    have hb50 := below_g0 hb49 k61
    refine ⟨⟨?_, ?_, ?_, ?_, ?_, ?_, ?_, ?_, ?_, ?_, ?_, ?_, ?_, trivial⟩, ?_⟩
    · intro w62 k62
      refine op1 (s_move rfl ?_)
      exact ⟨rfl, grown_none_refl _⟩
    · intro w63 k63
      rintro _ rfl
      refine op1 (s_move rfl ?_)
      exact ⟨(by rw [decide_eq_true h9]), grown_none_refl _⟩
    · intro w64 k64
      rintro _ rfl
      refine op1g (s_faddr fld33_2 rfl ?_)
      exact ⟨rfl, grown_none_refl _⟩
    · intro w65 k65
      rintro _ rfl _ rfl
      refine op1g (s_loadN (us := [.bool (decide ((bxOf ((quadR (l ++ [c]) 31).1)).w < 0)), v12]) row31 rfl ((((((((((hB16.g0 k33).g0 k50).gne k51 (by omega)).gne k52 (by omega)).g0 k53).g0 k54).g0 k55).g0 k56).g0 k61).g0 k65).range (j := 4) rfl rfl ?_)
      exact ⟨rfl, grown_none_refl _⟩
    · intro w66 k66
      have hb55 := below_g0 hb50 k66
      rintro _ rfl
      refine op1g (s_call fn20 rfl (rof2_any (n0 := n0) (below_n0 hn0 hb55) (by omega)) ?_)
      rintro _ w67 ⟨hq18, v24, rfl, hS26⟩
      have k67 := grown_of_below hq18 none
      have hz38 := hq18.size
      have hb56 := below_g0 hb55 k67
      have hz39 := hb56.size
      exact ⟨⟨_, rfl, hS26⟩, k67⟩
    · intro w68 k68
      have hb57 := below_g0 hb50 k68
      rintro _ rfl _ rfl _ ⟨v25, rfl, hS27⟩
      refine op1g (s_call fn24 rfl (rbsame_any (((((((((((((hS16.gg0 k27).ggB k28 hB15 (by decide) (by omega)).gg0 k33).gg0 k50).ggB k51 hB21 (by decide) (by omega)).ggB k52 (hB22.gne k51 (by omega)) (by decide) (by omega)).gg0 k53).gg0 k54).gg0 k55).gg0 k56).gg0 k61).gg0 k68)).none (hS27).none) ?_)
      rintro v26 w69 ⟨hq19, hv3⟩
      rw [show decide (decide ((bxOf ((quadR (l ++ [c]) 31).1)).w < 0) = decide ((1 : Int) < 0) ∧ ml ((bxOf ((quadR (l ++ [c]) 31).1)).w) = ml (1 : Int)) = decide (((bxOf ((quadR (l ++ [c]) 31).1)).w) = (1 : Int)) from decide_eq_decide.2 same_big] at hv3
      subst hv3
      have k69 := grown_of_below hq19 none
      have hz40 := hq19.size
      have hb58 := below_g0 hb57 k69
      have hz41 := hb58.size
      exact ⟨rfl, k69⟩
    · intro w70 k70
      rintro _ rfl _ rfl
      refine op1 (s_pick rfl rfl ?_)
      exact ⟨rfl, grown_none_refl _⟩
    · intro w71 k71
      rintro _ rfl
      refine op1 (s_move rfl ?_)
      exact ⟨(by rw [decide_eq_true h10]), grown_none_refl _⟩
    · intro w72 k72
      rintro _ rfl
      refine op1g (s_faddr fld33_3 rfl ?_)
      exact ⟨rfl, grown_none_refl _⟩
    · intro w73 k73
      rintro _ rfl _ rfl
      refine op1g (s_loadN (us := [.bool (decide ((bxOf ((quadR (l ++ [c]) 31).1)).h < 0)), v13]) row31 rfl ((((((((((hB16.g0 k33).g0 k50).gne k51 (by omega)).gne k52 (by omega)).g0 k53).g0 k54).g0 k55).g0 k56).g0 k61).g0 k73).range (j := 6) rfl rfl ?_)
      exact ⟨rfl, grown_none_refl _⟩
    · intro w74 k74
      have hb63 := below_g0 hb50 k74
      rintro _ rfl
      refine op1g (s_call fn20 rfl (rof2_any (n0 := n0) (below_n0 hn0 hb63) (by omega)) ?_)
      rintro _ w75 ⟨hq20, v27, rfl, hS28⟩
      have k75 := grown_of_below hq20 none
      have hz42 := hq20.size
      have hb64 := below_g0 hb63 k75
      have hz43 := hb64.size
      exact ⟨⟨_, rfl, hS28⟩, k75⟩
    · intro w76 k76
      have hb65 := below_g0 hb50 k76
      rintro _ rfl _ rfl _ ⟨v28, rfl, hS29⟩
      refine op1g (s_call fn24 rfl (rbsame_any (((((((((((((hS17.gg0 k27).ggB k28 hB15 (by decide) (by omega)).gg0 k33).gg0 k50).ggB k51 hB21 (by decide) (by omega)).ggB k52 (hB22.gne k51 (by omega)) (by decide) (by omega)).gg0 k53).gg0 k54).gg0 k55).gg0 k56).gg0 k61).gg0 k76)).none (hS29).none) ?_)
      rintro v29 w77 ⟨hq21, hv4⟩
      rw [show decide (decide ((bxOf ((quadR (l ++ [c]) 31).1)).h < 0) = decide ((1 : Int) < 0) ∧ ml ((bxOf ((quadR (l ++ [c]) 31).1)).h) = ml (1 : Int)) = decide (((bxOf ((quadR (l ++ [c]) 31).1)).h) = (1 : Int)) from decide_eq_decide.2 same_big] at hv4
      subst hv4
      have k77 := grown_of_below hq21 none
      have hz44 := hq21.size
      have hb66 := below_g0 hb65 k77
      have hz45 := hb66.size
      exact ⟨rfl, k77⟩
    · intro w78 k78
      rintro _ rfl _ rfl
      refine op1 (s_pick rfl rfl ?_)
      exact ⟨rfl, grown_none_refl _⟩
    intro w79 k79
    have hb68 := below_g0 hb50 k79
    have hz46 := k61.size
    have hz47 := k79.size
    rintro _ rfl _ rfl _ rfl _ rfl _ ⟨v30, rfl, hS30⟩ _ rfl _ rfl _ rfl _ rfl _ rfl _ ⟨v31, rfl, hS31⟩ _ rfl _ rfl
    refine st (s_assign rfl (r_end (n_then (w_ret1 rfl rfl ?_))))
    exact ⟨_, rfl, hb68, congrArg Value.bool (decide_eq_true hone.2)⟩
  have hle := more_le hq hk h3 (by simpa using h8)
  refine w_skip' (n_then (w_seq ?_))
  have h11 : ((cmpI ((toCl c).y) (((bxOf ((quadR (l ++ [c]) 31).1)).y) + ((bxOf ((quadR (l ++ [c]) 31).1)).h))) < 0) := Classical.byContradiction fun h11 => absurd (cmpI_lti.2 (by omega)) h11
  have h12 : ((cmpI ((bxOf ((quadR (l ++ [c]) 31).1)).x) ((bxOf ((quadR l 30).1)).x)) ≤ 0) := Classical.byContradiction fun h12 => absurd (cmpI_le.2 (by omega)) h12
  have h13 : ((cmpI ((bxOf ((quadR (l ++ [c]) 31).1)).y) ((bxOf ((quadR l 30).1)).y)) ≤ 0) := Classical.byContradiction fun h13 => absurd (cmpI_le.2 (by omega)) h13
  have h14 : ((cmpI (((bxOf ((quadR l 30).1)).x) + ((bxOf ((quadR l 30).1)).w)) (((bxOf ((quadR (l ++ [c]) 31).1)).x) + ((bxOf ((quadR (l ++ [c]) 31).1)).w))) ≤ 0) := Classical.byContradiction fun h14 => absurd (cmpI_le.2 (by omega)) h14
  refine w_draw 37 (fun a b => a.grownBy b none) [(some 112, Is <| .bool (decide ((cmpI ((toCl c).y) (((bxOf ((quadR (l ++ [c]) 31).1)).y) + ((bxOf ((quadR (l ++ [c]) 31).1)).h))) < 0))), (some 113, Is <| .bool true), (some 114, Is <| .pointer (some ⟨g11, 0 + 0, none⟩)), (some 115, Is <| .agg [.bool (decide ((bxOf ((quadR (l ++ [c]) 31).1)).x < 0)), v10].toArray), (some 116, Is <| .pointer (some ⟨g10, 0 + 0, none⟩)), (some 117, Is <| .agg [.bool (decide ((bxOf ((quadR l 30).1)).x < 0)), v6].toArray), (some 118, Is <| .int .i64 (cmpI ((bxOf ((quadR (l ++ [c]) 31).1)).x) ((bxOf ((quadR l 30).1)).x))), (some 119, Is <| .bool (decide ((cmpI ((bxOf ((quadR (l ++ [c]) 31).1)).x) ((bxOf ((quadR l 30).1)).x)) ≤ 0))), (some 120, Is <| .bool (decide ((cmpI ((bxOf ((quadR (l ++ [c]) 31).1)).x) ((bxOf ((quadR l 30).1)).x)) ≤ 0))), (some 121, Is <| .bool true), (some 122, Is <| .pointer (some ⟨g11, 0 + 2, none⟩)), (some 123, Is <| .agg [.bool (decide ((bxOf ((quadR (l ++ [c]) 31).1)).y < 0)), v11].toArray), (some 124, Is <| .pointer (some ⟨g10, 0 + 2, none⟩)), (some 125, Is <| .agg [.bool (decide ((bxOf ((quadR l 30).1)).y < 0)), v7].toArray), (some 126, Is <| .int .i64 (cmpI ((bxOf ((quadR (l ++ [c]) 31).1)).y) ((bxOf ((quadR l 30).1)).y))), (some 127, Is <| .bool (decide ((cmpI ((bxOf ((quadR (l ++ [c]) 31).1)).y) ((bxOf ((quadR l 30).1)).y)) ≤ 0))), (some 128, Is <| .bool (decide ((cmpI ((bxOf ((quadR (l ++ [c]) 31).1)).y) ((bxOf ((quadR l 30).1)).y)) ≤ 0))), (some 129, Is <| .bool true), (some 130, Is <| .pointer (some ⟨g10, 0 + 0, none⟩)), (some 131, Is <| .agg [.bool (decide ((bxOf ((quadR l 30).1)).x < 0)), v6].toArray), (some 132, Is <| .pointer (some ⟨g10, 0 + 4, none⟩)), (some 133, Is <| .agg [.bool (decide ((bxOf ((quadR l 30).1)).w < 0)), v8].toArray), (some 134, fun v W => IsBig 83 n0 W v ((((bxOf ((quadR l 30).1)).x) + ((bxOf ((quadR l 30).1)).w)))), (some 135, Is <| .agg [.bool (decide ((((bxOf ((quadR (l ++ [c]) 31).1)).x) + ((bxOf ((quadR (l ++ [c]) 31).1)).w)) < 0)), v18].toArray), (some 136, Is <| .int .i64 (cmpI (((bxOf ((quadR l 30).1)).x) + ((bxOf ((quadR l 30).1)).w)) (((bxOf ((quadR (l ++ [c]) 31).1)).x) + ((bxOf ((quadR (l ++ [c]) 31).1)).w)))), (some 137, Is <| .bool (decide ((cmpI (((bxOf ((quadR l 30).1)).x) + ((bxOf ((quadR l 30).1)).w)) (((bxOf ((quadR (l ++ [c]) 31).1)).x) + ((bxOf ((quadR (l ++ [c]) 31).1)).w))) ≤ 0))), (some 138, Is <| .bool (decide ((cmpI (((bxOf ((quadR l 30).1)).x) + ((bxOf ((quadR l 30).1)).w)) (((bxOf ((quadR (l ++ [c]) 31).1)).x) + ((bxOf ((quadR (l ++ [c]) 31).1)).w))) ≤ 0))), (some 139, Is <| .bool true), (some 140, Is <| .pointer (some ⟨g10, 0 + 2, none⟩)), (some 141, Is <| .agg [.bool (decide ((bxOf ((quadR l 30).1)).y < 0)), v7].toArray), (some 142, Is <| .pointer (some ⟨g10, 0 + 6, none⟩)), (some 143, Is <| .agg [.bool (decide ((bxOf ((quadR l 30).1)).h < 0)), v9].toArray), (some 144, fun v W => IsBig 83 n0 W v ((((bxOf ((quadR l 30).1)).y) + ((bxOf ((quadR l 30).1)).h)))), (some 145, Is <| .agg [.bool (decide ((((bxOf ((quadR (l ++ [c]) 31).1)).y) + ((bxOf ((quadR (l ++ [c]) 31).1)).h)) < 0)), v19].toArray), (some 146, Is <| .int .i64 (cmpI (((bxOf ((quadR l 30).1)).y) + ((bxOf ((quadR l 30).1)).h)) (((bxOf ((quadR (l ++ [c]) 31).1)).y) + ((bxOf ((quadR (l ++ [c]) 31).1)).h)))), (some 147, Is <| .bool (decide ((cmpI (((bxOf ((quadR l 30).1)).y) + ((bxOf ((quadR l 30).1)).h)) (((bxOf ((quadR (l ++ [c]) 31).1)).y) + ((bxOf ((quadR (l ++ [c]) 31).1)).h))) ≤ 0))), (some 148, Is <| .bool (decide ((cmpI (((bxOf ((quadR l 30).1)).y) + ((bxOf ((quadR l 30).1)).h)) (((bxOf ((quadR (l ++ [c]) 31).1)).y) + ((bxOf ((quadR (l ++ [c]) 31).1)).h))) ≤ 0)))] [[], [0], [1], [1, 2], [1], [1, 4], [1, 3, 5], [1, 6], [1, 7], [8], [9], [9, 10], [9], [9, 12], [9, 11, 13], [9, 14], [9, 15], [16], [17], [17, 18], [17], [17, 20], [17, 19, 21], [17], [17, 22, 23], [17, 24], [17, 25], [26], [27], [27, 28], [27], [27, 30], [27, 29, 31], [27], [27, 32, 33], [27, 34], [27, 35]] [(4, .bool false), (10, .pointer (some ⟨g10, 0, none⟩)), (12, .pointer (some ⟨g11, 0, none⟩)), (14, .pointer (some ⟨g16, 0, none⟩)), (15, .pointer (some ⟨g17, 0, none⟩)), (16, .bool (decide ((cmpI ((toCl c).y) (((bxOf ((quadR (l ++ [c]) 31).1)).y) + ((bxOf ((quadR (l ++ [c]) 31).1)).h))) < 0)))] (by exact ⟨rfl, rfl, rfl, rfl, rfl, rfl, trivial⟩) (by kernel_rfl) (by kernel_rfl) grown_none_refl (fun _ _ _ => grown_none_trans) ⟨kv, kv, kv, kv, kv, kv, kv, kv, kv, kv, kv, kv, kv, kv, kv, kv, kv, kv, kv, kv, kv, kv, fun _ _ _ h k => h.g0 k, kv, kv, kv, kv, kv, kv, kv, kv, kv, fun _ _ _ h k => h.g0 k, kv, kv, kv, kv, trivial⟩ ?_
  intro w86 k86 hs21
  have hb69 := below_g0 hb49 k86
  refine ⟨⟨?_, ?_, ?_, ?_, ?_, ?_, ?_, ?_, ?_, ?_, ?_, ?_, ?_, ?_, ?_, ?_, ?_, ?_, ?_, ?_, ?_, ?_, ?_, ?_, ?_, ?_, ?_, ?_, ?_, ?_, ?_, ?_, ?_, ?_, ?_, ?_, ?_, trivial⟩, ?_⟩
  · intro w87 k87
    refine op1 (s_move rfl ?_)
    exact ⟨rfl, grown_none_refl _⟩
  · intro w88 k88
    rintro _ rfl
    refine op1 (s_move rfl ?_)
    exact ⟨(by rw [decide_eq_true h11]), grown_none_refl _⟩
  · intro w89 k89
    rintro _ rfl
    refine op1g (s_faddr fld33_0 rfl ?_)
    exact ⟨rfl, grown_none_refl _⟩
  · intro w90 k90
    rintro _ rfl _ rfl
    refine op1g (s_loadN (us := [.bool (decide ((bxOf ((quadR (l ++ [c]) 31).1)).x < 0)), v10]) row31 rfl ((((((((((hB16.g0 k33).g0 k50).gne k51 (by omega)).gne k52 (by omega)).g0 k53).g0 k54).g0 k55).g0 k56).g0 k86).g0 k90).range (j := 0) rfl rfl ?_)
    exact ⟨rfl, grown_none_refl _⟩
  · intro w91 k91
    rintro _ rfl
    refine op1g (s_faddr fld33_0 rfl ?_)
    exact ⟨rfl, grown_none_refl _⟩
  · intro w92 k92
    rintro _ rfl _ rfl
    refine op1g (s_loadN (us := [.bool (decide ((bxOf ((quadR l 30).1)).x < 0)), v6]) row31 rfl (((((((((((((hB14.g0 k26).g0 k27).gne k28 (by omega)).g0 k33).g0 k50).gne k51 (by omega)).gne k52 (by omega)).g0 k53).g0 k54).g0 k55).g0 k56).g0 k86).g0 k92).range (j := 0) rfl rfl ?_)
    exact ⟨rfl, grown_none_refl _⟩
  · intro w93 k93
    have hb76 := below_g0 hb69 k93
    rintro _ rfl _ rfl _ rfl
    refine op1g (s_call fn23 rfl (rbcmp_any (n0 := n0) (below_n0 hn0 hb76) (big_of rfl ((((((((((((hS14.gg0 k27).ggB k28 hB15 (by decide) (by omega)).gg0 k33).gg0 k50).ggB k51 hB21 (by decide) (by omega)).ggB k52 (hB22.gne k51 (by omega)) (by decide) (by omega)).gg0 k53).gg0 k54).gg0 k55).gg0 k56).gg0 k86).gg0 k93)) (big_of rfl (((((((((((((((hS10.gg0 k24).ggB k25 hB13 (by decide) (by omega)).gg0 k26).gg0 k27).ggB k28 hB15 (by decide) (by omega)).gg0 k33).gg0 k50).ggB k51 hB21 (by decide) (by omega)).ggB k52 (hB22.gne k51 (by omega)) (by decide) (by omega)).gg0 k53).gg0 k54).gg0 k55).gg0 k56).gg0 k86).gg0 k93)) (Bd.le (bxOf_bd (l := (quadR (l ++ [c]) 31).1) hk.can.ok).x (show 44 ≤ 90000 by decide)) (Bd.le (bxOf_bd (l := (quadR l 30).1) hq.can.ok).x (show 44 ≤ 90000 by decide))) ?_)
    rintro _ w94 ⟨hq28, rfl⟩
    have k94 := grown_of_below hq28 none
    have hz48 := hq28.size
    have hb77 := below_g0 hb76 k94
    have hz49 := hb77.size
    exact ⟨rfl, k94⟩
  · intro w95 k95
    rintro _ rfl _ rfl
    refine op1g (s_le rfl rfl ?_)
    exact ⟨rfl, grown_none_refl _⟩
  · intro w96 k96
    rintro _ rfl _ rfl
    refine op1 (s_pick rfl rfl ?_)
    exact ⟨rfl, grown_none_refl _⟩
  · intro w97 k97
    rintro _ rfl
    refine op1 (s_move rfl ?_)
    exact ⟨(by rw [decide_eq_true h12]), grown_none_refl _⟩
  · intro w98 k98
    rintro _ rfl
    refine op1g (s_faddr fld33_1 rfl ?_)
    exact ⟨rfl, grown_none_refl _⟩
  · intro w99 k99
    rintro _ rfl _ rfl
    refine op1g (s_loadN (us := [.bool (decide ((bxOf ((quadR (l ++ [c]) 31).1)).y < 0)), v11]) row31 rfl ((((((((((hB16.g0 k33).g0 k50).gne k51 (by omega)).gne k52 (by omega)).g0 k53).g0 k54).g0 k55).g0 k56).g0 k86).g0 k99).range (j := 2) rfl rfl ?_)
    exact ⟨rfl, grown_none_refl _⟩
  · intro w100 k100
    rintro _ rfl
    refine op1g (s_faddr fld33_1 rfl ?_)
    exact ⟨rfl, grown_none_refl _⟩
  · intro w101 k101
    rintro _ rfl _ rfl
    refine op1g (s_loadN (us := [.bool (decide ((bxOf ((quadR l 30).1)).y < 0)), v7]) row31 rfl (((((((((((((hB14.g0 k26).g0 k27).gne k28 (by omega)).g0 k33).g0 k50).gne k51 (by omega)).gne k52 (by omega)).g0 k53).g0 k54).g0 k55).g0 k56).g0 k86).g0 k101).range (j := 2) rfl rfl ?_)
    exact ⟨rfl, grown_none_refl _⟩
  · intro w102 k102
    have hb85 := below_g0 hb69 k102
    rintro _ rfl _ rfl _ rfl
    refine op1g (s_call fn23 rfl (rbcmp_any (n0 := n0) (below_n0 hn0 hb85) (big_of rfl ((((((((((((hS15.gg0 k27).ggB k28 hB15 (by decide) (by omega)).gg0 k33).gg0 k50).ggB k51 hB21 (by decide) (by omega)).ggB k52 (hB22.gne k51 (by omega)) (by decide) (by omega)).gg0 k53).gg0 k54).gg0 k55).gg0 k56).gg0 k86).gg0 k102)) (big_of rfl (((((((((((((((hS11.gg0 k24).ggB k25 hB13 (by decide) (by omega)).gg0 k26).gg0 k27).ggB k28 hB15 (by decide) (by omega)).gg0 k33).gg0 k50).ggB k51 hB21 (by decide) (by omega)).ggB k52 (hB22.gne k51 (by omega)) (by decide) (by omega)).gg0 k53).gg0 k54).gg0 k55).gg0 k56).gg0 k86).gg0 k102)) (Bd.le (bxOf_bd (l := (quadR (l ++ [c]) 31).1) hk.can.ok).y (show 44 ≤ 90000 by decide)) (Bd.le (bxOf_bd (l := (quadR l 30).1) hq.can.ok).y (show 44 ≤ 90000 by decide))) ?_)
    rintro _ w103 ⟨hq29, rfl⟩
    have k103 := grown_of_below hq29 none
    have hz50 := hq29.size
    have hb86 := below_g0 hb85 k103
    have hz51 := hb86.size
    exact ⟨rfl, k103⟩
  · intro w104 k104
    rintro _ rfl _ rfl
    refine op1g (s_le rfl rfl ?_)
    exact ⟨rfl, grown_none_refl _⟩
  · intro w105 k105
    rintro _ rfl _ rfl
    refine op1 (s_pick rfl rfl ?_)
    exact ⟨rfl, grown_none_refl _⟩
  · intro w106 k106
    rintro _ rfl
    refine op1 (s_move rfl ?_)
    exact ⟨(by rw [decide_eq_true h13]), grown_none_refl _⟩
  · intro w107 k107
    rintro _ rfl
    refine op1g (s_faddr fld33_0 rfl ?_)
    exact ⟨rfl, grown_none_refl _⟩
  · intro w108 k108
    rintro _ rfl _ rfl
    refine op1g (s_loadN (us := [.bool (decide ((bxOf ((quadR l 30).1)).x < 0)), v6]) row31 rfl (((((((((((((hB14.g0 k26).g0 k27).gne k28 (by omega)).g0 k33).g0 k50).gne k51 (by omega)).gne k52 (by omega)).g0 k53).g0 k54).g0 k55).g0 k56).g0 k86).g0 k108).range (j := 0) rfl rfl ?_)
    exact ⟨rfl, grown_none_refl _⟩
  · intro w109 k109
    rintro _ rfl
    refine op1g (s_faddr fld33_2 rfl ?_)
    exact ⟨rfl, grown_none_refl _⟩
  · intro w110 k110
    rintro _ rfl _ rfl
    refine op1g (s_loadN (us := [.bool (decide ((bxOf ((quadR l 30).1)).w < 0)), v8]) row31 rfl (((((((((((((hB14.g0 k26).g0 k27).gne k28 (by omega)).g0 k33).g0 k50).gne k51 (by omega)).gne k52 (by omega)).g0 k53).g0 k54).g0 k55).g0 k56).g0 k86).g0 k110).range (j := 4) rfl rfl ?_)
    exact ⟨rfl, grown_none_refl _⟩
  · intro w111 k111
    have hb94 := below_g0 hb69 k111
    rintro _ rfl _ rfl _ rfl
    refine op1g (s_call fn22 rfl (rbadd_any (n0 := n0) (below_n0 hn0 hb94) (big_of rfl (((((((((((((((hS10.gg0 k24).ggB k25 hB13 (by decide) (by omega)).gg0 k26).gg0 k27).ggB k28 hB15 (by decide) (by omega)).gg0 k33).gg0 k50).ggB k51 hB21 (by decide) (by omega)).ggB k52 (hB22.gne k51 (by omega)) (by decide) (by omega)).gg0 k53).gg0 k54).gg0 k55).gg0 k56).gg0 k86).gg0 k111)) (big_of rfl (((((((((((((((hS12.gg0 k24).ggB k25 hB13 (by decide) (by omega)).gg0 k26).gg0 k27).ggB k28 hB15 (by decide) (by omega)).gg0 k33).gg0 k50).ggB k51 hB21 (by decide) (by omega)).ggB k52 (hB22.gne k51 (by omega)) (by decide) (by omega)).gg0 k53).gg0 k54).gg0 k55).gg0 k56).gg0 k86).gg0 k111)) (Bd.le (bxOf_bd (l := (quadR l 30).1) hq.can.ok).x (show 44 ≤ 90000 by decide)) (Bd.le (bxOf_bd (l := (quadR l 30).1) hq.can.ok).w (show 44 ≤ 90000 by decide))) ?_)
    rintro _ w112 ⟨hq30, v34, rfl, hS34⟩
    have k112 := grown_of_below hq30 none
    have hz52 := hq30.size
    have hb95 := below_g0 hb94 k112
    have hz53 := hb95.size
    exact ⟨⟨_, rfl, hS34⟩, k112⟩
  · intro w113 k113
    rintro _ rfl
    refine op1g (s_loadW row31 rfl (((((((hB23.gne k52 (by omega)).g0 k53).g0 k54).g0 k55).g0 k56).g0 k86).g0 k113).range rfl ?_)
    exact ⟨rfl, grown_none_refl _⟩
  · intro w114 k114
    have hb97 := below_g0 hb69 k114
    rintro _ rfl _ ⟨v35, rfl, hS35⟩ _ rfl
    refine op1g (s_call fn23 rfl (rbcmp_any (n0 := n0) (below_n0 hn0 hb97) (big_of rfl hS35) (big_of rfl ((((((((hS22.ggB k51 hB21 (by decide) (by omega)).ggB k52 (hB22.gne k51 (by omega)) (by decide) (by omega)).gg0 k53).gg0 k54).gg0 k55).gg0 k56).gg0 k86).gg0 k114)) (Bd.le (bd_add (bxOf_bd (l := (quadR l 30).1) hq.can.ok).x (bxOf_bd (l := (quadR l 30).1) hq.can.ok).w (show 44 < 45 by decide) (show 44 < 45 by decide)) (show 45 ≤ 90000 by decide)) (Bd.le (bd_add (bxOf_bd (l := (quadR (l ++ [c]) 31).1) hk.can.ok).x (bxOf_bd (l := (quadR (l ++ [c]) 31).1) hk.can.ok).w (show 44 < 45 by decide) (show 44 < 45 by decide)) (show 45 ≤ 90000 by decide))) ?_)
    rintro _ w115 ⟨hq31, rfl⟩
    have k115 := grown_of_below hq31 none
    have hz54 := hq31.size
    have hb98 := below_g0 hb97 k115
    have hz55 := hb98.size
    exact ⟨rfl, k115⟩
  · intro w116 k116
    rintro _ rfl _ rfl
    refine op1g (s_le rfl rfl ?_)
    exact ⟨rfl, grown_none_refl _⟩
  · intro w117 k117
    rintro _ rfl _ rfl
    refine op1 (s_pick rfl rfl ?_)
    exact ⟨rfl, grown_none_refl _⟩
  · intro w118 k118
    rintro _ rfl
    refine op1 (s_move rfl ?_)
    exact ⟨(by rw [decide_eq_true h14]), grown_none_refl _⟩
  · intro w119 k119
    rintro _ rfl
    refine op1g (s_faddr fld33_1 rfl ?_)
    exact ⟨rfl, grown_none_refl _⟩
  · intro w120 k120
    rintro _ rfl _ rfl
    refine op1g (s_loadN (us := [.bool (decide ((bxOf ((quadR l 30).1)).y < 0)), v7]) row31 rfl (((((((((((((hB14.g0 k26).g0 k27).gne k28 (by omega)).g0 k33).g0 k50).gne k51 (by omega)).gne k52 (by omega)).g0 k53).g0 k54).g0 k55).g0 k56).g0 k86).g0 k120).range (j := 2) rfl rfl ?_)
    exact ⟨rfl, grown_none_refl _⟩
  · intro w121 k121
    rintro _ rfl
    refine op1g (s_faddr fld33_3 rfl ?_)
    exact ⟨rfl, grown_none_refl _⟩
  · intro w122 k122
    rintro _ rfl _ rfl
    refine op1g (s_loadN (us := [.bool (decide ((bxOf ((quadR l 30).1)).h < 0)), v9]) row31 rfl (((((((((((((hB14.g0 k26).g0 k27).gne k28 (by omega)).g0 k33).g0 k50).gne k51 (by omega)).gne k52 (by omega)).g0 k53).g0 k54).g0 k55).g0 k56).g0 k86).g0 k122).range (j := 6) rfl rfl ?_)
    exact ⟨rfl, grown_none_refl _⟩
  · intro w123 k123
    have hb106 := below_g0 hb69 k123
    rintro _ rfl _ rfl _ rfl
    refine op1g (s_call fn22 rfl (rbadd_any (n0 := n0) (below_n0 hn0 hb106) (big_of rfl (((((((((((((((hS11.gg0 k24).ggB k25 hB13 (by decide) (by omega)).gg0 k26).gg0 k27).ggB k28 hB15 (by decide) (by omega)).gg0 k33).gg0 k50).ggB k51 hB21 (by decide) (by omega)).ggB k52 (hB22.gne k51 (by omega)) (by decide) (by omega)).gg0 k53).gg0 k54).gg0 k55).gg0 k56).gg0 k86).gg0 k123)) (big_of rfl (((((((((((((((hS13.gg0 k24).ggB k25 hB13 (by decide) (by omega)).gg0 k26).gg0 k27).ggB k28 hB15 (by decide) (by omega)).gg0 k33).gg0 k50).ggB k51 hB21 (by decide) (by omega)).ggB k52 (hB22.gne k51 (by omega)) (by decide) (by omega)).gg0 k53).gg0 k54).gg0 k55).gg0 k56).gg0 k86).gg0 k123)) (Bd.le (bxOf_bd (l := (quadR l 30).1) hq.can.ok).y (show 44 ≤ 90000 by decide)) (Bd.le (bxOf_bd (l := (quadR l 30).1) hq.can.ok).h (show 44 ≤ 90000 by decide))) ?_)
    rintro _ w124 ⟨hq32, v36, rfl, hS36⟩
    have k124 := grown_of_below hq32 none
    have hz56 := hq32.size
    have hb107 := below_g0 hb106 k124
    have hz57 := hb107.size
    exact ⟨⟨_, rfl, hS36⟩, k124⟩
  · intro w125 k125
    rintro _ rfl
    refine op1g (s_loadW row31 rfl ((((((hB24.g0 k53).g0 k54).g0 k55).g0 k56).g0 k86).g0 k125).range rfl ?_)
    exact ⟨rfl, grown_none_refl _⟩
  · intro w126 k126
    have hb109 := below_g0 hb69 k126
    rintro _ rfl _ ⟨v37, rfl, hS37⟩ _ rfl
    refine op1g (s_call fn23 rfl (rbcmp_any (n0 := n0) (below_n0 hn0 hb109) (big_of rfl hS37) (big_of rfl ((((((((hS23.ggB k51 hB21 (by decide) (by omega)).ggB k52 (hB22.gne k51 (by omega)) (by decide) (by omega)).gg0 k53).gg0 k54).gg0 k55).gg0 k56).gg0 k86).gg0 k126)) (Bd.le (bd_add (bxOf_bd (l := (quadR l 30).1) hq.can.ok).y (bxOf_bd (l := (quadR l 30).1) hq.can.ok).h (show 44 < 45 by decide) (show 44 < 45 by decide)) (show 45 ≤ 90000 by decide)) (Bd.le (bd_add (bxOf_bd (l := (quadR (l ++ [c]) 31).1) hk.can.ok).y (bxOf_bd (l := (quadR (l ++ [c]) 31).1) hk.can.ok).h (show 44 < 45 by decide) (show 44 < 45 by decide)) (show 45 ≤ 90000 by decide))) ?_)
    rintro _ w127 ⟨hq33, rfl⟩
    have k127 := grown_of_below hq33 none
    have hz58 := hq33.size
    have hb110 := below_g0 hb109 k127
    have hz59 := hb110.size
    exact ⟨rfl, k127⟩
  · intro w128 k128
    rintro _ rfl _ rfl
    refine op1g (s_le rfl rfl ?_)
    exact ⟨rfl, grown_none_refl _⟩
  · intro w129 k129
    rintro _ rfl _ rfl
    refine op1 (s_pick rfl rfl ?_)
    exact ⟨rfl, grown_none_refl _⟩
  intro w130 k130
  have hb113 := below_g0 hb69 k130
  have hz60 := k86.size
  have hz61 := k130.size
  rintro _ rfl _ rfl _ rfl _ rfl _ rfl _ rfl _ rfl _ rfl _ rfl _ rfl _ rfl _ rfl _ rfl _ rfl _ rfl _ rfl _ rfl _ rfl _ rfl _ rfl _ rfl _ rfl _ ⟨v38, rfl, hS38⟩ _ rfl _ rfl _ rfl _ rfl _ rfl _ rfl _ rfl _ rfl _ rfl _ ⟨v39, rfl, hS39⟩ _ rfl _ rfl _ rfl _ rfl
  refine st (s_assign rfl (r_end (n_then (w_ret1 rfl rfl ?_))))
  exact ⟨_, rfl, hb113, congrArg Value.bool (decide_eq_true (cmpI_le.2 (by omega)))⟩
end Go.Proofs.Ytfljelnfjbbknaa.Lm
