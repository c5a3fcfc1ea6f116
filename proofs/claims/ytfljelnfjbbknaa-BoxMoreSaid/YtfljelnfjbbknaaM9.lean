/- Part of the proof: a library for walks, plain laws, and functions' walks. -/
import Derived.Test.YtfljelnfjbbknaaM8
import Derived.Test.YtfljelnfjbbknaaM5
import Derived.Test.YtfljelnfjbbknaaM4
import Derived.Test.YtfljelnfjbbknaaM2
set_option maxRecDepth 20000
set_option linter.unusedSimpArgs false
set_option linter.unusedVariables false
namespace Go.Proofs.Ytfljelnfjbbknaa.Lm
open Go.RowKit Go.Gw
set_option maxHeartbeats 1000000 in
theorem bof_any {w : World} {F : Nat → Prop} {va : Value} {l : List Nd} {n0 : Nat} (hn0 : n0 ≤ w.heap.size) (hl : Sl Kd.node w F va l) (hl_ok : looseB l = true) (hll : l.length ≤ 100000) :
    Calls Try.prog 12 [.agg [va].toArray].toArray w (Pure w fun r W => ∃ v, r = .tuple #[v, .bool (bxs l).some] ∧ IsBox 83 n0 W v (bxOf l)) := by
  have hb0 := Below.refl w.heap.size w
  have hsl9 := spansL_len l
  refine enter Try.func12 rfl rfl (w_seq (w_region (st (s_box rfl ?_))))
  intro g1 w1 hg1 hB1 k1 hs1
  change Blk w1 g1 25 [va].toArray at hB1
  have hb1 := below_g0 hb0 k1
  have hlt_1 := (hB1).lt
  refine st (s_alloc zero33 ?_)
  intro g2 w2 hg2 hB2 k2 hs2
  have hz1 := hb1.size
  have hb2 := below_g0 hb1 k2
  refine st (s_assign rfl (r_end (n_then (w_seq ?_))))
  have hlt_4 := ((hB1.g0 k2)).lt
  have hlt_5 := (hB2).lt
  refine w_draw 9 (fun a b => a.grownBy b none) [(some 6, Is <| .pointer (some ⟨g1, 0 + 0, none⟩)), (some 7, fun v _ => Sl Kd.node w F v l), (some 8, fun v W => Gw.Own (Kd.span 83 n0) 72 w.heap.size W (fun _ => False) v (spansL l)), (some 9, Is <| .pointer (some ⟨g1, 0 + 0, none⟩)), (some 10, fun v _ => Sl Kd.node w F v l), (some 11, Is <| .int .i64 (l.length : Int)), (some 12, fun p W => IsEl (Kd.span 83 n0) W (fun _ => False) p (ix (spansL l) (l.length : Int))), (some 13, fun v W => ∃ sp1 sp2 sp3 sp4 : Value, v = .agg [.bool ((ix (spansL l) (l.length : Int)).some), .bool (decide ((ix (spansL l) (l.length : Int)).fx < 0)), sp1, .bool (decide ((ix (spansL l) (l.length : Int)).fy < 0)), sp2, .bool (decide ((ix (spansL l) (l.length : Int)).tx < 0)), sp3, .bool (decide ((ix (spansL l) (l.length : Int)).ty < 0)), sp4].toArray ∧ Sl Kd.u32 W (G 83 n0 W) sp1 (ml ((ix (spansL l) (l.length : Int)).fx)) ∧ Sl Kd.u32 W (G 83 n0 W) sp2 (ml ((ix (spansL l) (l.length : Int)).fy)) ∧ Sl Kd.u32 W (G 83 n0 W) sp3 (ml ((ix (spansL l) (l.length : Int)).tx)) ∧ Sl Kd.u32 W (G 83 n0 W) sp4 (ml ((ix (spansL l) (l.length : Int)).ty))), (some 4, fun v W => ∃ g, v = .pointer (some ⟨g, 0, none⟩) ∧ Blk W g 72 #[.bool false, .bool false, .slice none 0 0, .bool false, .slice none 0 0, .bool false, .slice none 0 0, .bool false, .slice none 0 0] ∧ w2.heap.size ≤ g)] [[], [0], [1], [], [3], [4], [2, 5], [6], []] [(1, .pointer (some ⟨g1, 0, none⟩)), (2, .pointer (some ⟨g2, 0, none⟩)), (3, .bool false)] (by exact ⟨rfl, rfl, rfl, trivial⟩) (by kernel_rfl) (by kernel_rfl) grown_none_refl (fun _ _ _ => grown_none_trans) ⟨kv, fun _ _ _ h _ => h, fun _ _ _ h k => h.g0 k, kv, fun _ _ _ h _ => h, kv, fun _ _ _ h k => h.g0 k, fun _ _ _ h k => by obtain ⟨sp1, sp2, sp3, sp4, e, h0, h1, h2, h3⟩ := h; exact ⟨sp1, sp2, sp3, sp4, e, h0.gg0 k, h1.gg0 k, h2.gg0 k, h3.gg0 k⟩, fun _ _ _ h k => by obtain ⟨g, e, hB, hg⟩ := h; exact ⟨g, e, hB.g0 k, hg⟩, trivial⟩ ?_
  intro w5 k5 hs4
  have hb3 := below_g0 hb2 k5
  refine ⟨⟨?_, ?_, ?_, ?_, ?_, ?_, ?_, ?_, ?_, trivial⟩, ?_⟩
  · intro w6 k6
    refine op1 (s_faddr fld25_0 rfl ?_)
    exact ⟨rfl, grown_none_refl _⟩
  · intro w7 k7
    rintro _ rfl
    refine op1 (s_load one22 rfl (((hB1.g0 k2).g0 k5).g0 k7).range (j := 0) rfl ?_)
    exact ⟨hl, grown_none_refl _⟩
  · intro w8 k8
    have hb6 := below_g0 hb3 k8
    intro v2 hS1
    refine op1 (s_call fn41 rfl (spans_any (n0 := n0) (below_n0 hn0 hb6) (hS1.at0 hb6) hl_ok (by omega)) ?_)
    rintro v3 w9 ⟨hq2, hO3⟩
    have k9 := grown_of_below hq2 none
    have hz2 := hq2.size
    have hb7 := below_g0 hb6 k9
    have hz3 := hb7.size
    have hO3_ := hO3
    have hO4 := hO3_.rebase (b' := w.heap.size) hb6.size
    exact ⟨hO4, k9⟩
  · intro w10 k10
    refine op1 (s_faddr fld25_0 rfl ?_)
    exact ⟨rfl, grown_none_refl _⟩
  · intro w11 k11
    rintro _ rfl
    refine op1 (s_load one22 rfl (((hB1.g0 k2).g0 k5).g0 k11).range (j := 0) rfl ?_)
    exact ⟨hl, grown_none_refl _⟩
  · intro w12 k12
    have hb10 := below_g0 hb3 k12
    intro v4 hS2
    refine op1 (s_len sl22 rfl (hS2.at0 hb10) ?_)
    exact ⟨rfl, grown_none_refl _⟩
  · intro w13 k13
    rintro v5 hO5 _ rfl
    refine op1 (s_idxE sl73 rfl rfl hO5.sl (by omega) (by omega) ?_)
    intro p2 hp2
    exact ⟨hp2, grown_none_refl _⟩
  · intro w14 k14
    rintro _ ⟨b3, o3, _, rfl, hlt3, ⟨sp5, sp6, sp7, sp8, rfl, hsp5, hsp6, hsp7, hsp8⟩, hc3⟩
    replace hsp5 := hsp5.ofGF
    replace hsp6 := hsp6.ofGF
    replace hsp7 := hsp7.ofGF
    replace hsp8 := hsp8.ofGF
    refine op1 (s_loadW row72 rfl hc3 rfl ?_)
    exact ⟨⟨_, _, _, _, rfl, hsp5, hsp6, hsp7, hsp8⟩, grown_none_refl _⟩
  · intro w15 k15
    have hb13 := below_g0 hb3 k15
    have hlt_6 := ((((hB1.g0 k2).g0 k5).g0 k15)).lt
    have hlt_7 := (((hB2.g0 k5).g0 k15)).lt
    refine op1 (s_alloc zero72 ?_)
    intro g4 w16 hg4 hB4 k16 hs5
    have hz4 := hb13.size
    exact ⟨⟨_, rfl, hB4, by have h0_ := k5.size; have h1_ := k15.size; have h2_ := k16.size; omega⟩, k16⟩
  intro w17 k17
  have hb15 := below_g0 hb3 k17
  rintro _ rfl v6 hS3 v7 hO6 _ rfl v8 hS4 _ rfl _ ⟨b4, o4, _, rfl, hlt4, ⟨sp9, sp10, sp11, sp12, rfl, hsp9, hsp10, hsp11, hsp12⟩, hc4⟩
  replace hsp9 := hsp9.ofGF
  replace hsp10 := hsp10.ofGF
  replace hsp11 := hsp11.ofGF
  replace hsp12 := hsp12.ofGF
  rintro _ ⟨v9, v10, v11, v12, rfl, hS5, hS6, hS7, hS8⟩ _ ⟨g5, rfl, hB5, hg5⟩
  have hlt_8 := hB5.lt
  refine st0 (s_storeN row72 rfl rfl hB5 (by simp only [List.all_cons, List.all_nil, hS5.one, hS6.one, hS7.one, hS8.one, Bool.and_true, Bool.and_self] <;> rfl) rfl rfl ?_)
  intro w18 hB6 k18 hs6
  have hb16 := below_g hb15 k18 (by first | omega | (have h9 := (hb15).size; omega))
  refine r_end (n_then (w_seq (w_seq (w_region (st (s_faddr fld72_0 rfl (st (s_load one4 rfl hB6.range (j := 0) rfl ?_))))))))
  refine st (s_not rfl (r_end (n_then ?_)))
  refine w_cond rfl (fun h1 => ?_) (fun h1 => ?_)
  · have hsm_ : (bxs l).some = false := by rw [← spansL_last]; simpa using h1
    refine w_seq (w_region (st (s_build (ps := []) (ccs := []) (cells := [.bool false, .slice none 0 0, .bool false, .slice none 0 0, .bool false, .slice none 0 0, .bool false, .slice none 0 0]) rfl rfl (by kernel_rfl) (st0 (s_storeN row33 rfl rfl (((hB2.g0 k5).g0 k17).gne k18 (by omega)) rfl rfl rfl ?_)))))
    intro w19 hB7 k19 hs7
    have hb17 := below_g hb16 k19 (by first | omega | (have h9 := (hb16).size; omega))
    refine st (s_assign rfl (r_end (n_then (w_retc2 rfl row33 rfl rfl hB7.range rfl ?_))))
    refine ⟨_, rfl, hb17, ?_⟩
    rw [hsm_, bxOf_no hsm_]
    exact ⟨_, rfl, _, _, _, _, rfl, (show Sl Kd.u32 _ (G 83 n0 _) (.slice none 0 0) (ml 0) by rw [ml_zero]; exact nilG), (show Sl Kd.u32 _ (G 83 n0 _) (.slice none 0 0) (ml 0) by rw [ml_zero]; exact nilG), (show Sl Kd.u32 _ (G 83 n0 _) (.slice none 0 0) (ml 0) by rw [ml_zero]; exact nilG), (show Sl Kd.u32 _ (G 83 n0 _) (.slice none 0 0) (ml 0) by rw [ml_zero]; exact nilG)⟩
  have hsm_ : (bxs l).some = true := by rw [← spansL_last]; simpa using h1
  have hlv := level_of hl_ok (bxs_some hsm_)
  refine w_skip' (n_then (w_seq (w_region (st (s_loadW row25 rfl ((((hB1.g0 k2).g0 k5).g0 k17).gne k18 (by omega)).range rfl (st (s_call fn43 rfl (Nd.level_any (hl.at0 hb16)) ?_)))))))
  rintro _ w20 ⟨hq3, rfl⟩
  have k20 := grown_of_below hq3 none
  have hz5 := hq3.size
  have hb18 := below_g0 hb16 k20
  have hz6 := hb18.size
  refine st (s_sub rfl rfl (by omega) (st (s_call fn42 rfl (bpow_any (n0 := n0) (below_n0 hn0 hb18)) ?_)))
  rintro v14 w21 ⟨hq4, hv1⟩
  rw [show (shlN 1 ((levelN l) - 1)) = (hf (levelN l)) from (shl_hf hlv)] at hv1
  obtain ⟨v13, rfl, hS9⟩ := hv1
  have k21 := grown_of_below hq4 none
  have hz7 := hq4.size
  have hb19 := below_g0 hb18 k21
  have hz8 := hb19.size
  have hlt_9 := (((((((hB1.g0 k2).g0 k5).g0 k17).gne k18 (by omega)).g0 k20).g0 k21)).lt
  have hlt_10 := ((((((hB2.g0 k5).g0 k17).gne k18 (by omega)).g0 k20).g0 k21)).lt
  have hlt_11 := (((hB6.g0 k20).g0 k21)).lt
  refine st (s_alloc zero31 ?_)
  intro g6 w22 hg6 hB8 k22 hs8
  have hz9 := hb19.size
  have hb20 := below_g0 hb19 k22
  refine st0 (s_storeN row31 rfl rfl hB8 (by simp only [List.all_cons, List.all_nil, hS9.one, Bool.and_true, Bool.and_self] <;> rfl) rfl rfl ?_)
  intro w23 hB9 k23 hs9
  have hb21 := below_g hb20 k23 (by first | omega | (have h9 := (hb20).size; omega))
  refine r_end (n_then (w_seq ?_))
  refine w_draw 25 (fun a b => a.grownBy b none) [(some 22, Is <| .pointer (some ⟨g5, 0 + 1, none⟩)), (some 23, Is <| .pointer (some ⟨g5, 0 + 1 + (0 : Int).toNat * 2, none⟩)), (some 24, Is <| .agg [.bool (decide ((ix (spansL l) (l.length : Int)).fx < 0)), v9].toArray), (some 25, Is <| .agg [.bool (decide ((hf (levelN l)) < 0)), v13].toArray), (some 26, fun v W => IsBig 83 n0 W v ((((ix (spansL l) (l.length : Int)).fx) - (hf (levelN l))))), (some 27, Is <| .pointer (some ⟨g5, 0 + 1, none⟩)), (some 28, Is <| .pointer (some ⟨g5, 0 + 1 + (1 : Int).toNat * 2, none⟩)), (some 29, Is <| .agg [.bool (decide ((ix (spansL l) (l.length : Int)).fy < 0)), v10].toArray), (some 30, Is <| .agg [.bool (decide ((hf (levelN l)) < 0)), v13].toArray), (some 31, fun v W => IsBig 83 n0 W v ((((ix (spansL l) (l.length : Int)).fy) - (hf (levelN l))))), (some 32, Is <| .pointer (some ⟨g5, 0 + 5, none⟩)), (some 33, Is <| .pointer (some ⟨g5, 0 + 5 + (0 : Int).toNat * 2, none⟩)), (some 34, Is <| .agg [.bool (decide ((ix (spansL l) (l.length : Int)).tx < 0)), v11].toArray), (some 35, Is <| .pointer (some ⟨g5, 0 + 1, none⟩)), (some 36, Is <| .pointer (some ⟨g5, 0 + 1 + (0 : Int).toNat * 2, none⟩)), (some 37, Is <| .agg [.bool (decide ((ix (spansL l) (l.length : Int)).fx < 0)), v9].toArray), (some 38, fun v W => IsBig 83 n0 W v ((((ix (spansL l) (l.length : Int)).tx) - ((ix (spansL l) (l.length : Int)).fx)))), (some 39, Is <| .pointer (some ⟨g5, 0 + 5, none⟩)), (some 40, Is <| .pointer (some ⟨g5, 0 + 5 + (1 : Int).toNat * 2, none⟩)), (some 41, Is <| .agg [.bool (decide ((ix (spansL l) (l.length : Int)).ty < 0)), v12].toArray), (some 42, Is <| .pointer (some ⟨g5, 0 + 1, none⟩)), (some 43, Is <| .pointer (some ⟨g5, 0 + 1 + (1 : Int).toNat * 2, none⟩)), (some 44, Is <| .agg [.bool (decide ((ix (spansL l) (l.length : Int)).fy < 0)), v10].toArray), (some 45, fun v W => IsBig 83 n0 W v ((((ix (spansL l) (l.length : Int)).ty) - ((ix (spansL l) (l.length : Int)).fy)))), (some 46, fun v W => ∃ v15 v16 v17 v18 : Value, v = .agg [.bool (decide ((((ix (spansL l) (l.length : Int)).fx) - (hf (levelN l))) < 0)), v15, .bool (decide ((((ix (spansL l) (l.length : Int)).fy) - (hf (levelN l))) < 0)), v16, .bool (decide ((((ix (spansL l) (l.length : Int)).tx) - ((ix (spansL l) (l.length : Int)).fx)) < 0)), v17, .bool (decide ((((ix (spansL l) (l.length : Int)).ty) - ((ix (spansL l) (l.length : Int)).fy)) < 0)), v18].toArray ∧ Sl Kd.u32 W (G 83 n0 W) v15 (ml (((ix (spansL l) (l.length : Int)).fx) - (hf (levelN l)))) ∧ Sl Kd.u32 W (G 83 n0 W) v16 (ml (((ix (spansL l) (l.length : Int)).fy) - (hf (levelN l)))) ∧ Sl Kd.u32 W (G 83 n0 W) v17 (ml (((ix (spansL l) (l.length : Int)).tx) - ((ix (spansL l) (l.length : Int)).fx))) ∧ Sl Kd.u32 W (G 83 n0 W) v18 (ml (((ix (spansL l) (l.length : Int)).ty) - ((ix (spansL l) (l.length : Int)).fy))))] [[], [0], [1], [], [2, 3], [], [5], [6], [], [7, 8], [], [10], [11], [], [13], [14], [12, 15], [], [17], [18], [], [20], [21], [19, 22], [4, 9, 16, 23]] [(2, .pointer (some ⟨g2, 0, none⟩)), (3, .bool false), (4, .pointer (some ⟨g5, 0, none⟩)), (5, .pointer (some ⟨g6, 0, none⟩))] (by exact ⟨rfl, rfl, rfl, rfl, trivial⟩) (by kernel_rfl) (by kernel_rfl) grown_none_refl (fun _ _ _ => grown_none_trans) ⟨kv, kv, kv, kv, fun _ _ _ h k => h.g0 k, kv, kv, kv, kv, fun _ _ _ h k => h.g0 k, kv, kv, kv, kv, kv, kv, fun _ _ _ h k => h.g0 k, kv, kv, kv, kv, kv, kv, fun _ _ _ h k => h.g0 k, fun _ _ _ h k => by obtain ⟨v15, v16, v17, v18, e, h0, h1, h2, h3⟩ := h; exact ⟨v15, v16, v17, v18, e, h0.gg0 k, h1.gg0 k, h2.gg0 k, h3.gg0 k⟩, trivial⟩ ?_
  intro w28 k28 hs10
  have hb22 := below_g0 hb21 k28
  refine ⟨⟨?_, ?_, ?_, ?_, ?_, ?_, ?_, ?_, ?_, ?_, ?_, ?_, ?_, ?_, ?_, ?_, ?_, ?_, ?_, ?_, ?_, ?_, ?_, ?_, ?_, trivial⟩, ?_⟩
  · intro w29 k29
    refine op1 (s_faddr fld72_1 rfl ?_)
    exact ⟨rfl, grown_none_refl _⟩
  · intro w30 k30
    rintro _ rfl
    refine op1 (s_iaddr arr70 rfl rfl (by omega) (by omega) ?_)
    exact ⟨rfl, grown_none_refl _⟩
  · intro w31 k31
    rintro _ rfl
    refine op1 (s_loadN (us := [.bool (decide ((ix (spansL l) (l.length : Int)).fx < 0)), v9]) row31 rfl ((((((hB6.g0 k20).g0 k21).g0 k22).gne k23 (by omega)).g0 k28).g0 k31).range (j := 1) rfl rfl ?_)
    exact ⟨rfl, grown_none_refl _⟩
  · intro w32 k32
    refine op1 (s_loadW row31 rfl ((hB9.g0 k28).g0 k32).range rfl ?_)
    exact ⟨rfl, grown_none_refl _⟩
  · intro w33 k33
    have hb27 := below_g0 hb22 k33
    rintro _ rfl _ rfl
    refine op1 (s_call fn44 rfl (bsub_any (n0 := n0) (below_n0 hn0 hb27) (big_of rfl (((((((hS5.ggB k18 hB5 (by decide) (by omega)).gg0 k20).gg0 k21).gg0 k22).ggB k23 hB8 (by decide) (by omega)).gg0 k28).gg0 k33)) (big_of rfl ((((hS9.gg0 k22).ggB k23 hB8 (by decide) (by omega)).gg0 k28).gg0 k33)) (Bd.le (by rw [spansL_last]; exact (bxs_bd hl_ok).fx) (show 43 ≤ 90000 by decide)) (Bd.le (bd_hf hlv.2) (show 42 ≤ 90000 by decide))) ?_)
    rintro _ w34 ⟨hq9, v19, rfl, hS14⟩
    have k34 := grown_of_below hq9 none
    have hz10 := hq9.size
    have hb28 := below_g0 hb27 k34
    have hz11 := hb28.size
    exact ⟨⟨_, rfl, hS14⟩, k34⟩
  · intro w35 k35
    refine op1 (s_faddr fld72_1 rfl ?_)
    exact ⟨rfl, grown_none_refl _⟩
  · intro w36 k36
    rintro _ rfl
    refine op1 (s_iaddr arr70 rfl rfl (by omega) (by omega) ?_)
    exact ⟨rfl, grown_none_refl _⟩
  · intro w37 k37
    rintro _ rfl
    refine op1 (s_loadN (us := [.bool (decide ((ix (spansL l) (l.length : Int)).fy < 0)), v10]) row31 rfl ((((((hB6.g0 k20).g0 k21).g0 k22).gne k23 (by omega)).g0 k28).g0 k37).range (j := 3) rfl rfl ?_)
    exact ⟨rfl, grown_none_refl _⟩
  · intro w38 k38
    refine op1 (s_loadW row31 rfl ((hB9.g0 k28).g0 k38).range rfl ?_)
    exact ⟨rfl, grown_none_refl _⟩
  · intro w39 k39
    have hb33 := below_g0 hb22 k39
    rintro _ rfl _ rfl
    refine op1 (s_call fn44 rfl (bsub_any (n0 := n0) (below_n0 hn0 hb33) (big_of rfl (((((((hS6.ggB k18 hB5 (by decide) (by omega)).gg0 k20).gg0 k21).gg0 k22).ggB k23 hB8 (by decide) (by omega)).gg0 k28).gg0 k39)) (big_of rfl ((((hS9.gg0 k22).ggB k23 hB8 (by decide) (by omega)).gg0 k28).gg0 k39)) (Bd.le (by rw [spansL_last]; exact (bxs_bd hl_ok).fy) (show 43 ≤ 90000 by decide)) (Bd.le (bd_hf hlv.2) (show 42 ≤ 90000 by decide))) ?_)
    rintro _ w40 ⟨hq10, v20, rfl, hS15⟩
    have k40 := grown_of_below hq10 none
    have hz12 := hq10.size
    have hb34 := below_g0 hb33 k40
    have hz13 := hb34.size
    exact ⟨⟨_, rfl, hS15⟩, k40⟩
  · intro w41 k41
    refine op1 (s_faddr fld72_2 rfl ?_)
    exact ⟨rfl, grown_none_refl _⟩
  · intro w42 k42
    rintro _ rfl
    refine op1 (s_iaddr arr70 rfl rfl (by omega) (by omega) ?_)
    exact ⟨rfl, grown_none_refl _⟩
  · intro w43 k43
    rintro _ rfl
    refine op1 (s_loadN (us := [.bool (decide ((ix (spansL l) (l.length : Int)).tx < 0)), v11]) row31 rfl ((((((hB6.g0 k20).g0 k21).g0 k22).gne k23 (by omega)).g0 k28).g0 k43).range (j := 5) rfl rfl ?_)
    exact ⟨rfl, grown_none_refl _⟩
  · intro w44 k44
    refine op1 (s_faddr fld72_1 rfl ?_)
    exact ⟨rfl, grown_none_refl _⟩
  · intro w45 k45
    rintro _ rfl
    refine op1 (s_iaddr arr70 rfl rfl (by omega) (by omega) ?_)
    exact ⟨rfl, grown_none_refl _⟩
  · intro w46 k46
    rintro _ rfl
    refine op1 (s_loadN (us := [.bool (decide ((ix (spansL l) (l.length : Int)).fx < 0)), v9]) row31 rfl ((((((hB6.g0 k20).g0 k21).g0 k22).gne k23 (by omega)).g0 k28).g0 k46).range (j := 1) rfl rfl ?_)
    exact ⟨rfl, grown_none_refl _⟩
  · intro w47 k47
    have hb41 := below_g0 hb22 k47
    rintro _ rfl _ rfl
    refine op1 (s_call fn44 rfl (bsub_any (n0 := n0) (below_n0 hn0 hb41) (big_of rfl (((((((hS7.ggB k18 hB5 (by decide) (by omega)).gg0 k20).gg0 k21).gg0 k22).ggB k23 hB8 (by decide) (by omega)).gg0 k28).gg0 k47)) (big_of rfl (((((((hS5.ggB k18 hB5 (by decide) (by omega)).gg0 k20).gg0 k21).gg0 k22).ggB k23 hB8 (by decide) (by omega)).gg0 k28).gg0 k47)) (Bd.le (by rw [spansL_last]; exact (bxs_bd hl_ok).tx) (show 43 ≤ 90000 by decide)) (Bd.le (by rw [spansL_last]; exact (bxs_bd hl_ok).fx) (show 43 ≤ 90000 by decide))) ?_)
    rintro _ w48 ⟨hq11, v21, rfl, hS16⟩
    have k48 := grown_of_below hq11 none
    have hz14 := hq11.size
    have hb42 := below_g0 hb41 k48
    have hz15 := hb42.size
    exact ⟨⟨_, rfl, hS16⟩, k48⟩
  · intro w49 k49
    refine op1 (s_faddr fld72_2 rfl ?_)
    exact ⟨rfl, grown_none_refl _⟩
  · intro w50 k50
    rintro _ rfl
    refine op1 (s_iaddr arr70 rfl rfl (by omega) (by omega) ?_)
    exact ⟨rfl, grown_none_refl _⟩
  · intro w51 k51
    rintro _ rfl
    refine op1 (s_loadN (us := [.bool (decide ((ix (spansL l) (l.length : Int)).ty < 0)), v12]) row31 rfl ((((((hB6.g0 k20).g0 k21).g0 k22).gne k23 (by omega)).g0 k28).g0 k51).range (j := 7) rfl rfl ?_)
    exact ⟨rfl, grown_none_refl _⟩
  · intro w52 k52
    refine op1 (s_faddr fld72_1 rfl ?_)
    exact ⟨rfl, grown_none_refl _⟩
  · intro w53 k53
    rintro _ rfl
    refine op1 (s_iaddr arr70 rfl rfl (by omega) (by omega) ?_)
    exact ⟨rfl, grown_none_refl _⟩
  · intro w54 k54
    rintro _ rfl
    refine op1 (s_loadN (us := [.bool (decide ((ix (spansL l) (l.length : Int)).fy < 0)), v10]) row31 rfl ((((((hB6.g0 k20).g0 k21).g0 k22).gne k23 (by omega)).g0 k28).g0 k54).range (j := 3) rfl rfl ?_)
    exact ⟨rfl, grown_none_refl _⟩
  · intro w55 k55
    have hb49 := below_g0 hb22 k55
    rintro _ rfl _ rfl
    refine op1 (s_call fn44 rfl (bsub_any (n0 := n0) (below_n0 hn0 hb49) (big_of rfl (((((((hS8.ggB k18 hB5 (by decide) (by omega)).gg0 k20).gg0 k21).gg0 k22).ggB k23 hB8 (by decide) (by omega)).gg0 k28).gg0 k55)) (big_of rfl (((((((hS6.ggB k18 hB5 (by decide) (by omega)).gg0 k20).gg0 k21).gg0 k22).ggB k23 hB8 (by decide) (by omega)).gg0 k28).gg0 k55)) (Bd.le (by rw [spansL_last]; exact (bxs_bd hl_ok).ty) (show 43 ≤ 90000 by decide)) (Bd.le (by rw [spansL_last]; exact (bxs_bd hl_ok).fy) (show 43 ≤ 90000 by decide))) ?_)
    rintro _ w56 ⟨hq12, v22, rfl, hS17⟩
    have k56 := grown_of_below hq12 none
    have hz16 := hq12.size
    have hb50 := below_g0 hb49 k56
    have hz17 := hb50.size
    exact ⟨⟨_, rfl, hS17⟩, k56⟩
  · intro w57 k57
    rintro _ ⟨v23, rfl, hS18⟩ _ ⟨v24, rfl, hS19⟩ _ ⟨v25, rfl, hS20⟩ _ ⟨v26, rfl, hS21⟩
    refine op1 (s_build (ps := [(0, .tmp 26), (1, .tmp 31), (2, .tmp 38), (3, .tmp 45)]) (ccs := [#[.bool (decide ((((ix (spansL l) (l.length : Int)).fx) - (hf (levelN l))) < 0)), v23], #[.bool (decide ((((ix (spansL l) (l.length : Int)).fy) - (hf (levelN l))) < 0)), v24], #[.bool (decide ((((ix (spansL l) (l.length : Int)).tx) - ((ix (spansL l) (l.length : Int)).fx)) < 0)), v25], #[.bool (decide ((((ix (spansL l) (l.length : Int)).ty) - ((ix (spansL l) (l.length : Int)).fy)) < 0)), v26]]) (cells := [.bool (decide ((((ix (spansL l) (l.length : Int)).fx) - (hf (levelN l))) < 0)), v23, .bool (decide ((((ix (spansL l) (l.length : Int)).fy) - (hf (levelN l))) < 0)), v24, .bool (decide ((((ix (spansL l) (l.length : Int)).tx) - ((ix (spansL l) (l.length : Int)).fx)) < 0)), v25, .bool (decide ((((ix (spansL l) (l.length : Int)).ty) - ((ix (spansL l) (l.length : Int)).fy)) < 0)), v26]) rfl rfl (by kernel_rfl) ?_)
    exact ⟨⟨_, _, _, _, rfl, hS18, hS19, hS20, hS21⟩, grown_none_refl _⟩
  intro w58 k58
  have hb52 := below_g0 hb22 k58
  rintro _ rfl _ rfl _ rfl _ rfl _ ⟨v27, rfl, hS22⟩ _ rfl _ rfl _ rfl _ rfl _ ⟨v28, rfl, hS23⟩ _ rfl _ rfl _ rfl _ rfl _ rfl _ rfl _ ⟨v29, rfl, hS24⟩ _ rfl _ rfl _ rfl _ rfl _ rfl _ rfl _ ⟨v30, rfl, hS25⟩ _ ⟨v31, v32, v33, v34, rfl, hS26, hS27, hS28, hS29⟩
  refine st0 (s_storeN row33 rfl rfl (((((((((hB2.g0 k5).g0 k17).gne k18 (by omega)).g0 k20).g0 k21).g0 k22).gne k23 (by omega)).g0 k28).g0 k58) (by simp only [List.all_cons, List.all_nil, hS26.one, hS27.one, hS28.one, hS29.one, Bool.and_true, Bool.and_self] <;> rfl) rfl rfl ?_)
  intro w59 hB10 k59 hs11
  have hb53 := below_g hb52 k59 (by first | omega | (have h9 := (hb52).size; omega))
  refine st (s_assign rfl (r_end (n_then (w_retc2 rfl row33 rfl rfl hB10.range rfl ?_))))
  refine ⟨_, rfl, hb53, ?_⟩
  rw [hsm_, bxOf_yes hsm_, ← spansL_last]
  exact ⟨_, rfl, _, _, _, _, rfl, (hS26.ggB k59 (((((((((hB2.g0 k5).g0 k17).gne k18 (by omega)).g0 k20).g0 k21).g0 k22).gne k23 (by omega)).g0 k28).g0 k58) (by decide) (by omega)), (hS27.ggB k59 (((((((((hB2.g0 k5).g0 k17).gne k18 (by omega)).g0 k20).g0 k21).g0 k22).gne k23 (by omega)).g0 k28).g0 k58) (by decide) (by omega)), (hS28.ggB k59 (((((((((hB2.g0 k5).g0 k17).gne k18 (by omega)).g0 k20).g0 k21).g0 k22).gne k23 (by omega)).g0 k28).g0 k58) (by decide) (by omega)), (hS29.ggB k59 (((((((((hB2.g0 k5).g0 k17).gne k18 (by omega)).g0 k20).g0 k21).g0 k22).gne k23 (by omega)).g0 k28).g0 k58) (by decide) (by omega))⟩

set_option maxHeartbeats 1000000 in
theorem within_any {w : World} {F : Nat → Prop} {va : Value} {l : List Nd} {m : Int} {n0 : Nat} (hn0 : n0 ≤ w.heap.size) (hl : Sl Kd.node w F va l) (hl_ok : looseB l = true) (hll : l.length ≤ 100000) (hm : -9223372036854775808 ≤ m ∧ m ≤ 9223372036854775807) :
    Calls Try.prog 15 [.agg [va].toArray, .int .i64 m].toArray w (Pure w fun v _ => v = .bool (withinB (bxOf l) m)) := by
  have hb0 := Below.refl w.heap.size w
  refine enter Try.func15 rfl rfl (w_seq (w_region (st (s_box rfl ?_))))
  intro g1 w1 hg1 hB1 k1 hs1
  change Blk w1 g1 25 [va].toArray at hB1
  have hb1 := below_g0 hb0 k1
  refine st (s_assign rfl (r_end (n_then (w_seq (w_region (st (s_loadW row25 rfl hB1.range rfl (st (s_call fn12 rfl (bof_any (n0 := n0) (below_n0 hn0 hb1) (hl.at0 hb1) hl_ok (by omega)) ?_)))))))))
  rintro _ w2 ⟨hq1, _, rfl, v1, v2, v3, v4, rfl, hS1, hS2, hS3, hS4⟩
  have k2 := grown_of_below hq1 none
  have hz1 := hq1.size
  have hb2 := below_g0 hb1 k2
  have hz2 := hb2.size
  refine st (s_move rfl (st (s_extract rfl rfl (st (s_extract rfl rfl ?_)))))
  have hlt_1 := ((hB1.g0 k2)).lt
  refine st (s_alloc zero33 ?_)
  intro g2 w3 hg2 hB2 k3 hs2
  have hz3 := hb2.size
  have hb3 := below_g0 hb2 k3
  refine st0 (s_storeN row33 rfl rfl hB2 (by simp only [List.all_cons, List.all_nil, hS1.one, hS2.one, hS3.one, hS4.one, Bool.and_true, Bool.and_self] <;> rfl) rfl rfl ?_)
  intro w4 hB3 k4 hs3
  have hb4 := below_g hb3 k4 (by first | omega | (have h9 := (hb3).size; omega))
  refine st (s_assign rfl (r_end (n_then (w_seq (w_region (st (s_move rfl (st (s_call fn49 rfl (of_any (n0 := n0) (below_n0 hn0 hb4) (by omega)) ?_)))))))))
  rintro _ w5 ⟨hq2, v5, rfl, hS5⟩
  have k5 := grown_of_below hq2 none
  have hz4 := hq2.size
  have hb5 := below_g0 hb4 k5
  have hz5 := hb5.size
  have hlt_2 := (((((hB1.g0 k2).g0 k3).gne k4 (by omega)).g0 k5)).lt
  have hlt_3 := ((hB3.g0 k5)).lt
  refine st (s_alloc zero31 ?_)
  intro g3 w6 hg3 hB4 k6 hs4
  have hz6 := hb5.size
  have hb6 := below_g0 hb5 k6
  refine st0 (s_storeN row31 rfl rfl hB4 (by simp only [List.all_cons, List.all_nil, hS5.one, Bool.and_true, Bool.and_self] <;> rfl) rfl rfl ?_)
  intro w7 hB5 k7 hs5
  have hb7 := below_g hb6 k7 (by first | omega | (have h9 := (hb6).size; omega))
  refine r_end (n_then (w_seq (w_region (st (s_faddr fld33_2 rfl (st (s_loadN (us := [.bool (decide ((bxOf l).w < 0)), v3]) row31 rfl (((hB3.g0 k5).g0 k6).gne k7 (by omega)).range (j := 4) rfl rfl (st (s_loadW row31 rfl hB5.range rfl ?_)))))))))
  refine st (s_call fn50 rfl (bcmp_any0 ((((((hS3.gg0 k3).ggB k4 hB2 (by decide) (by omega)).gg0 k5).gg0 k6).ggB k7 hB4 (by decide) (by omega))).none (((hS5.gg0 k6).ggB k7 hB4 (by decide) (by omega))).none) ?_)
  rintro _ w8 ⟨hq3, rfl⟩
  have k8 := grown_of_below hq3 none
  have hz7 := hq3.size
  have hb8 := below_g0 hb7 k8
  have hz8 := hb8.size
  refine st (s_le rfl rfl (st (s_move rfl ?_)))
  refine r_caseP 20 rfl (fun h1 => ?_) (fun h1 => ?_)
  rotate_left
  · refine s_pass rfl rfl (s_pass rfl rfl (s_pass rfl rfl (s_pass rfl rfl (s_pass rfl rfl (st (s_pick rfl rfl (st (s_assign rfl ?_))))))))
    refine r_end (n_then (w_ret1 rfl rfl ?_))
    exact ⟨_, rfl, hb8, by unfold withinB; rw [decide_eq_false (fun e => h1 (cmpI_le.2 e))]; rfl⟩
  refine stg (s_faddr fld33_3 rfl (stg (s_loadN (us := [.bool (decide ((bxOf l).h < 0)), v4]) row31 rfl ((((hB3.g0 k5).g0 k6).gne k7 (by omega)).g0 k8).range (j := 6) rfl rfl (stg (s_loadW row31 rfl (hB5.g0 k8).range rfl (stg (s_call fn50 rfl (bcmp_any0 (((((((hS4.gg0 k3).ggB k4 hB2 (by decide) (by omega)).gg0 k5).gg0 k6).ggB k7 hB4 (by decide) (by omega)).gg0 k8)).none ((((hS5.gg0 k6).ggB k7 hB4 (by decide) (by omega)).gg0 k8)).none) ?_)))))))
  rintro _ w9 ⟨hq4, rfl⟩
  have k9 := grown_of_below hq4 none
  have hz9 := hq4.size
  have hb9 := below_g0 hb8 k9
  have hz10 := hb9.size
  refine stg (s_le rfl rfl (st (s_pick rfl rfl (st (s_assign rfl (r_end (n_then (w_ret1 rfl rfl ?_))))))))
  exact ⟨_, rfl, hb9, by unfold withinB; rw [decide_eq_true (cmpI_le.1 h1), Bool.true_and]; exact congrArg Value.bool (decide_eq_decide.2 cmpI_le)⟩

set_option maxHeartbeats 1000000 in
theorem bxsame_any {w : World} {a b : Bx} {px : Value} {py : Value} {pw : Value} {ph : Value} (hpx : Sl Kd.u32 w (fun _ => False) px (ml a.x)) (hpy : Sl Kd.u32 w (fun _ => False) py (ml a.y)) (hpw : Sl Kd.u32 w (fun _ => False) pw (ml a.w)) (hph : Sl Kd.u32 w (fun _ => False) ph (ml a.h)) {qx : Value} {qy : Value} {qw : Value} {qh : Value} (hqx : Sl Kd.u32 w (fun _ => False) qx (ml b.x)) (hqy : Sl Kd.u32 w (fun _ => False) qy (ml b.y)) (hqw : Sl Kd.u32 w (fun _ => False) qw (ml b.w)) (hqh : Sl Kd.u32 w (fun _ => False) qh (ml b.h)) :
    Calls Try.prog 17 [.agg [.bool (decide (a.x < 0)), px, .bool (decide (a.y < 0)), py, .bool (decide (a.w < 0)), pw, .bool (decide (a.h < 0)), ph].toArray, .agg [.bool (decide (b.x < 0)), qx, .bool (decide (b.y < 0)), qy, .bool (decide (b.w < 0)), qw, .bool (decide (b.h < 0)), qh].toArray].toArray w (Pure w fun v _ => v = .bool (decide (a = b))) := by
  have hb0 := Below.refl w.heap.size w
  refine enter Try.func17 rfl rfl (w_seq (w_region (st (s_box rfl ?_))))
  intro g1 w1 hg1 hB1 k1 hs1
  change Blk w1 g1 33 [.bool (decide (a.x < 0)), px, .bool (decide (a.y < 0)), py, .bool (decide (a.w < 0)), pw, .bool (decide (a.h < 0)), ph].toArray at hB1
  have hb1 := below_g0 hb0 k1
  refine st (s_box rfl ?_)
  intro g2 w2 hg2 hB2 k2 hs2
  change Blk w2 g2 33 [.bool (decide (b.x < 0)), qx, .bool (decide (b.y < 0)), qy, .bool (decide (b.w < 0)), qw, .bool (decide (b.h < 0)), qh].toArray at hB2
  have hb2 := below_g0 hb1 k2
  refine st (s_assign rfl (r_end (n_then (w_seq (w_region (st (s_faddr fld33_0 rfl (st (s_loadN (us := [.bool (decide (a.x < 0)), px]) row31 rfl (hB1.g0 k2).range (j := 0) rfl rfl ?_)))))))))
  refine st (s_faddr fld33_0 rfl (st (s_loadN (us := [.bool (decide (b.x < 0)), qx]) row31 rfl hB2.range (j := 0) rfl rfl (st (s_call fn51 rfl (bsame_any ((hpx.at0 hb2)).none ((hqx.at0 hb2)).none) ?_)))))
  rintro v1 w3 ⟨hq1, hv1⟩
  rw [show decide (decide (a.x < 0) = decide (b.x < 0) ∧ ml a.x = ml b.x) = decide (a.x = b.x) from decide_eq_decide.2 same_big] at hv1
  subst hv1
  have k3 := grown_of_below hq1 none
  have hz1 := hq1.size
  have hb3 := below_g0 hb2 k3
  have hz2 := hb3.size
  refine st (s_move rfl ?_)
  refine r_caseP 10 rfl (fun h1 => ?_) (fun h1 => ?_)
  rotate_left
  · refine s_pass rfl rfl (s_pass rfl rfl (s_pass rfl rfl (s_pass rfl rfl (s_pass rfl rfl (st (s_pick rfl rfl (st (s_move rfl ?_))))))))
    refine s_pass rfl rfl (s_pass rfl rfl (s_pass rfl rfl (s_pass rfl rfl (s_pass rfl rfl (st (s_pick rfl rfl (st (s_move rfl ?_))))))))
    refine s_pass rfl rfl (s_pass rfl rfl (s_pass rfl rfl (s_pass rfl rfl (s_pass rfl rfl (st (s_pick rfl rfl (st (s_assign rfl ?_))))))))
    refine r_end (n_then (w_ret1 rfl rfl ?_))
    exact ⟨_, rfl, hb3, by rw [decide_eq_false (fun e => h1 (by rw [e]))]⟩
  refine stg (s_faddr fld33_1 rfl (stg (s_loadN (us := [.bool (decide (a.y < 0)), py]) row31 rfl ((hB1.g0 k2).g0 k3).range (j := 2) rfl rfl (stg (s_faddr fld33_1 rfl (stg (s_loadN (us := [.bool (decide (b.y < 0)), qy]) row31 rfl (hB2.g0 k3).range (j := 2) rfl rfl (stg (s_call fn51 rfl (bsame_any ((hpy.at0 hb3)).none ((hqy.at0 hb3)).none) ?_)))))))))
  rintro v2 w4 ⟨hq2, hv2⟩
  rw [show decide (decide (a.y < 0) = decide (b.y < 0) ∧ ml a.y = ml b.y) = decide (a.y = b.y) from decide_eq_decide.2 same_big] at hv2
  subst hv2
  have k4 := grown_of_below hq2 none
  have hz3 := hq2.size
  have hb4 := below_g0 hb3 k4
  have hz4 := hb4.size
  refine st (s_pick rfl rfl (st (s_move rfl ?_)))
  refine r_caseP 17 rfl (fun h2 => ?_) (fun h2 => ?_)
  rotate_left
  · refine s_pass rfl rfl (s_pass rfl rfl (s_pass rfl rfl (s_pass rfl rfl (s_pass rfl rfl (st (s_pick rfl rfl (st (s_move rfl ?_))))))))
    refine s_pass rfl rfl (s_pass rfl rfl (s_pass rfl rfl (s_pass rfl rfl (s_pass rfl rfl (st (s_pick rfl rfl (st (s_assign rfl ?_))))))))
    refine r_end (n_then (w_ret1 rfl rfl ?_))
    exact ⟨_, rfl, hb4, by rw [decide_eq_false (fun e => h2 (by rw [e]))]⟩
  refine stg (s_faddr fld33_2 rfl (stg (s_loadN (us := [.bool (decide (a.w < 0)), pw]) row31 rfl (((hB1.g0 k2).g0 k3).g0 k4).range (j := 4) rfl rfl (stg (s_faddr fld33_2 rfl (stg (s_loadN (us := [.bool (decide (b.w < 0)), qw]) row31 rfl ((hB2.g0 k3).g0 k4).range (j := 4) rfl rfl (stg (s_call fn51 rfl (bsame_any ((hpw.at0 hb4)).none ((hqw.at0 hb4)).none) ?_)))))))))
  rintro v3 w5 ⟨hq3, hv3⟩
  rw [show decide (decide (a.w < 0) = decide (b.w < 0) ∧ ml a.w = ml b.w) = decide (a.w = b.w) from decide_eq_decide.2 same_big] at hv3
  subst hv3
  have k5 := grown_of_below hq3 none
  have hz5 := hq3.size
  have hb5 := below_g0 hb4 k5
  have hz6 := hb5.size
  refine st (s_pick rfl rfl (st (s_move rfl ?_)))
  refine r_caseP 24 rfl (fun h3 => ?_) (fun h3 => ?_)
  rotate_left
  · refine s_pass rfl rfl (s_pass rfl rfl (s_pass rfl rfl (s_pass rfl rfl (s_pass rfl rfl (st (s_pick rfl rfl (st (s_assign rfl ?_))))))))
    refine r_end (n_then (w_ret1 rfl rfl ?_))
    exact ⟨_, rfl, hb5, by rw [decide_eq_false (fun e => h3 (by rw [e]))]⟩
  refine stg (s_faddr fld33_3 rfl (stg (s_loadN (us := [.bool (decide (a.h < 0)), ph]) row31 rfl ((((hB1.g0 k2).g0 k3).g0 k4).g0 k5).range (j := 6) rfl rfl (stg (s_faddr fld33_3 rfl (stg (s_loadN (us := [.bool (decide (b.h < 0)), qh]) row31 rfl (((hB2.g0 k3).g0 k4).g0 k5).range (j := 6) rfl rfl (stg (s_call fn51 rfl (bsame_any ((hph.at0 hb5)).none ((hqh.at0 hb5)).none) ?_)))))))))
  rintro v4 w6 ⟨hq4, hv4⟩
  rw [show decide (decide (a.h < 0) = decide (b.h < 0) ∧ ml a.h = ml b.h) = decide (a.h = b.h) from decide_eq_decide.2 same_big] at hv4
  subst hv4
  have k6 := grown_of_below hq4 none
  have hz7 := hq4.size
  have hb6 := below_g0 hb5 k6
  have hz8 := hb6.size
  refine st (s_pick rfl rfl (st (s_assign rfl (r_end (n_then (w_ret1 rfl rfl ?_))))))
  exact ⟨_, rfl, hb6, congrArg Value.bool (decide_eq_decide.2 ⟨fun e => bx_eq.1 ⟨h1, h2, h3, e⟩, fun e => by rw [e]⟩)⟩

set_option maxHeartbeats 1000000 in
theorem rbxsame_any {w : World} {a b : Bx} {px : Value} {py : Value} {pw : Value} {ph : Value} (hpx : Sl Kd.u32 w (fun _ => False) px (ml a.x)) (hpy : Sl Kd.u32 w (fun _ => False) py (ml a.y)) (hpw : Sl Kd.u32 w (fun _ => False) pw (ml a.w)) (hph : Sl Kd.u32 w (fun _ => False) ph (ml a.h)) {qx : Value} {qy : Value} {qw : Value} {qh : Value} (hqx : Sl Kd.u32 w (fun _ => False) qx (ml b.x)) (hqy : Sl Kd.u32 w (fun _ => False) qy (ml b.y)) (hqw : Sl Kd.u32 w (fun _ => False) qw (ml b.w)) (hqh : Sl Kd.u32 w (fun _ => False) qh (ml b.h)) :
    Calls Try.prog 14 [.agg [.bool (decide (a.x < 0)), px, .bool (decide (a.y < 0)), py, .bool (decide (a.w < 0)), pw, .bool (decide (a.h < 0)), ph].toArray, .agg [.bool (decide (b.x < 0)), qx, .bool (decide (b.y < 0)), qy, .bool (decide (b.w < 0)), qw, .bool (decide (b.h < 0)), qh].toArray].toArray w (Pure w fun v _ => v = .bool (decide (a = b))) := by
  have hb0 := Below.refl w.heap.size w
  refine enter Try.func14 rfl rfl (w_seq (w_region (st (s_box rfl ?_))))
  intro g1 w1 hg1 hB1 k1 hs1
  change Blk w1 g1 33 [.bool (decide (a.x < 0)), px, .bool (decide (a.y < 0)), py, .bool (decide (a.w < 0)), pw, .bool (decide (a.h < 0)), ph].toArray at hB1
  have hb1 := below_g0 hb0 k1
  refine st (s_box rfl ?_)
  intro g2 w2 hg2 hB2 k2 hs2
  change Blk w2 g2 33 [.bool (decide (b.x < 0)), qx, .bool (decide (b.y < 0)), qy, .bool (decide (b.w < 0)), qw, .bool (decide (b.h < 0)), qh].toArray at hB2
  have hb2 := below_g0 hb1 k2
  refine st (s_assign rfl (r_end (n_then (w_seq (w_region (st (s_faddr fld33_0 rfl (st (s_loadN (us := [.bool (decide (a.x < 0)), px]) row31 rfl (hB1.g0 k2).range (j := 0) rfl rfl ?_)))))))))
  refine st (s_faddr fld33_0 rfl (st (s_loadN (us := [.bool (decide (b.x < 0)), qx]) row31 rfl hB2.range (j := 0) rfl rfl (st (s_call fn24 rfl (rbsame_any ((hpx.at0 hb2)).none ((hqx.at0 hb2)).none) ?_)))))
  rintro v1 w3 ⟨hq1, hv1⟩
  rw [show decide (decide (a.x < 0) = decide (b.x < 0) ∧ ml a.x = ml b.x) = decide (a.x = b.x) from decide_eq_decide.2 same_big] at hv1
  subst hv1
  have k3 := grown_of_below hq1 none
  have hz1 := hq1.size
  have hb3 := below_g0 hb2 k3
  have hz2 := hb3.size
  refine st (s_move rfl ?_)
  refine r_caseP 10 rfl (fun h1 => ?_) (fun h1 => ?_)
  rotate_left
  · refine s_pass rfl rfl (s_pass rfl rfl (s_pass rfl rfl (s_pass rfl rfl (s_pass rfl rfl (st (s_pick rfl rfl (st (s_move rfl ?_))))))))
    refine s_pass rfl rfl (s_pass rfl rfl (s_pass rfl rfl (s_pass rfl rfl (s_pass rfl rfl (st (s_pick rfl rfl (st (s_move rfl ?_))))))))
    refine s_pass rfl rfl (s_pass rfl rfl (s_pass rfl rfl (s_pass rfl rfl (s_pass rfl rfl (st (s_pick rfl rfl (st (s_assign rfl ?_))))))))
    refine r_end (n_then (w_ret1 rfl rfl ?_))
    exact ⟨_, rfl, hb3, by rw [decide_eq_false (fun e => h1 (by rw [e]))]⟩
  refine stg (s_faddr fld33_1 rfl (stg (s_loadN (us := [.bool (decide (a.y < 0)), py]) row31 rfl ((hB1.g0 k2).g0 k3).range (j := 2) rfl rfl (stg (s_faddr fld33_1 rfl (stg (s_loadN (us := [.bool (decide (b.y < 0)), qy]) row31 rfl (hB2.g0 k3).range (j := 2) rfl rfl (stg (s_call fn24 rfl (rbsame_any ((hpy.at0 hb3)).none ((hqy.at0 hb3)).none) ?_)))))))))
  rintro v2 w4 ⟨hq2, hv2⟩
  rw [show decide (decide (a.y < 0) = decide (b.y < 0) ∧ ml a.y = ml b.y) = decide (a.y = b.y) from decide_eq_decide.2 same_big] at hv2
  subst hv2
  have k4 := grown_of_below hq2 none
  have hz3 := hq2.size
  have hb4 := below_g0 hb3 k4
  have hz4 := hb4.size
  refine st (s_pick rfl rfl (st (s_move rfl ?_)))
  refine r_caseP 17 rfl (fun h2 => ?_) (fun h2 => ?_)
  rotate_left
  · refine s_pass rfl rfl (s_pass rfl rfl (s_pass rfl rfl (s_pass rfl rfl (s_pass rfl rfl (st (s_pick rfl rfl (st (s_move rfl ?_))))))))
    refine s_pass rfl rfl (s_pass rfl rfl (s_pass rfl rfl (s_pass rfl rfl (s_pass rfl rfl (st (s_pick rfl rfl (st (s_assign rfl ?_))))))))
    refine r_end (n_then (w_ret1 rfl rfl ?_))
    exact ⟨_, rfl, hb4, by rw [decide_eq_false (fun e => h2 (by rw [e]))]⟩
  refine stg (s_faddr fld33_2 rfl (stg (s_loadN (us := [.bool (decide (a.w < 0)), pw]) row31 rfl (((hB1.g0 k2).g0 k3).g0 k4).range (j := 4) rfl rfl (stg (s_faddr fld33_2 rfl (stg (s_loadN (us := [.bool (decide (b.w < 0)), qw]) row31 rfl ((hB2.g0 k3).g0 k4).range (j := 4) rfl rfl (stg (s_call fn24 rfl (rbsame_any ((hpw.at0 hb4)).none ((hqw.at0 hb4)).none) ?_)))))))))
  rintro v3 w5 ⟨hq3, hv3⟩
  rw [show decide (decide (a.w < 0) = decide (b.w < 0) ∧ ml a.w = ml b.w) = decide (a.w = b.w) from decide_eq_decide.2 same_big] at hv3
  subst hv3
  have k5 := grown_of_below hq3 none
  have hz5 := hq3.size
  have hb5 := below_g0 hb4 k5
  have hz6 := hb5.size
  refine st (s_pick rfl rfl (st (s_move rfl ?_)))
  refine r_caseP 24 rfl (fun h3 => ?_) (fun h3 => ?_)
  rotate_left
  · refine s_pass rfl rfl (s_pass rfl rfl (s_pass rfl rfl (s_pass rfl rfl (s_pass rfl rfl (st (s_pick rfl rfl (st (s_assign rfl ?_))))))))
    refine r_end (n_then (w_ret1 rfl rfl ?_))
    exact ⟨_, rfl, hb5, by rw [decide_eq_false (fun e => h3 (by rw [e]))]⟩
  refine stg (s_faddr fld33_3 rfl (stg (s_loadN (us := [.bool (decide (a.h < 0)), ph]) row31 rfl ((((hB1.g0 k2).g0 k3).g0 k4).g0 k5).range (j := 6) rfl rfl (stg (s_faddr fld33_3 rfl (stg (s_loadN (us := [.bool (decide (b.h < 0)), qh]) row31 rfl (((hB2.g0 k3).g0 k4).g0 k5).range (j := 6) rfl rfl (stg (s_call fn24 rfl (rbsame_any ((hph.at0 hb5)).none ((hqh.at0 hb5)).none) ?_)))))))))
  rintro v4 w6 ⟨hq4, hv4⟩
  rw [show decide (decide (a.h < 0) = decide (b.h < 0) ∧ ml a.h = ml b.h) = decide (a.h = b.h) from decide_eq_decide.2 same_big] at hv4
  subst hv4
  have k6 := grown_of_below hq4 none
  have hz7 := hq4.size
  have hb6 := below_g0 hb5 k6
  have hz8 := hb6.size
  refine st (s_pick rfl rfl (st (s_assign rfl (r_end (n_then (w_ret1 rfl rfl ?_))))))
  exact ⟨_, rfl, hb6, congrArg Value.bool (decide_eq_decide.2 ⟨fun e => bx_eq.1 ⟨h1, h2, h3, e⟩, fun e => by rw [e]⟩)⟩
end Go.Proofs.Ytfljelnfjbbknaa.Lm

set_option maxRecDepth 20000
set_option linter.unusedSimpArgs false
set_option linter.unusedVariables false
namespace Go.Proofs.Ytfljelnfjbbknaa.Lm
open Go.RowKit Go.Gw
end Go.Proofs.Ytfljelnfjbbknaa.Lm

set_option maxRecDepth 20000
set_option linter.unusedSimpArgs false
set_option linter.unusedVariables false
namespace Go.Proofs.Ytfljelnfjbbknaa.Lm
open Go.RowKit Go.Gw
end Go.Proofs.Ytfljelnfjbbknaa.Lm

set_option linter.unusedSimpArgs false
set_option linter.unusedVariables false
/-! ### append of what may lie anywhere -/
namespace Go.Gw
open Go.RowKit
section
variable {P : Program} {ops : Array Oper} {Q : Exit → Act → World → Prop} {rest : List Oper} {n : Nat} {D : List Deferred} {ρ : Env} {w : World}
variable {d ty : Nat} {pos : String} {after : Array Edge} {gd : Option (Nat × Bool)} {C : Value → World → Prop} {x y : Operand}

/-- As s_appendF, of elements that stay what they are beside the row. -/
theorem s_appendH {α : Type} {K : Kd α} {t e by_ base : Nat} {F F' : Nat → Prop} {z v s : Value} {xs ys : List α} (hs : SlF P t e K.sz by_ z) (hx : opv ρ x = some v) (hy : opv ρ y = some s) (ho : Gw.Own K e base w F v xs) (hK : ∀ u y, K.rep w F' u y → K.rep w (Out F v) u y) (hsrc : Sl K w F' s ys)
    (hone : K.Ones) (h63 : xs.length + ys.length ≤ 9223372036854775807) (hbytes : (xs.length + ys.length) * by_ ≤ 140737488355328) (hbase : base ≤ w.heap.size) (hF : ∀ k, F k → k < w.heap.size)
    (k : ∀ v' w', Gw.Own K e base w' F v' (xs ++ ys) → w.grownBy w' v.ownBlock → (v'.ownBlock = v.ownBlock ∨ v'.ownBlock = some w.heap.size) → (∀ g0, v = .slice (some ⟨g0, 0, none⟩) 0 0 → w.heap[g0]? = some (.cells #[] e (0, 0)) → w.grownBy w' none) → C v' w') :
    OpW P ⟨some d, .call { callee := .builtin .append, args := #[x, y], argTypes := #[t, t] }, ty, pos, after, gd⟩ n D ρ w C := by
  obtain ⟨inf, hinf, hzero, hsz, hby⟩ := hs.inf
  obtain ⟨us, hl, hr, hown⟩ := ho.out
  obtain ⟨A, c, rfl, h2, h3, h4⟩ := hsrc
  -- the source's cells, element by element
  have hv : ∃ vs : List (List Value), vs.length = ys.length ∧ (∀ (i : Nat) (u : List Value) (y : α), vs[i]? = some u → ys[i]? = some y → K.rep w (Out F v) u y) ∧ (∀ a, A = some a → ys ≠ [] → ∃ g o, a = ⟨g, o, none⟩ ∧ w.rangeAt g o vs.flatten) := by
    have hex : ∀ i : Fin ys.length, ∃ u, ∃ g o, A = some ⟨g, o, none⟩ ∧ K.rep w (Out F v) u ys[i] ∧ w.rangeAt g (o + i * K.sz) u := by
      intro i
      obtain ⟨g, o, u, ha, _, _, hrep, hrng⟩ := h4 i ys[i] (by simp)
      exact ⟨u, g, o, ha, hK _ _ hrep, hrng⟩
    let f : Fin ys.length → List Value := fun i => Classical.choose (hex i)
    have hf : ∀ i, ∃ g o, A = some ⟨g, o, none⟩ ∧ K.rep w (Out F v) (f i) ys[i] ∧ w.rangeAt g (o + i * K.sz) (f i) := fun i => Classical.choose_spec (hex i)
    refine ⟨List.ofFn f, by simp, fun i u y hu hy => ?_, fun a ha hne => ?_⟩
    · rw [List.getElem?_ofFn] at hu
      split at hu
      · rename_i hi
        cases hu
        obtain ⟨_, _, _, hrep, _⟩ := hf ⟨i, hi⟩
        have : ys[i] = y := by rw [List.getElem?_eq_getElem hi] at hy; injection hy
        subst this; exact hrep
      · cases hu
    · have hlen : 0 < ys.length := List.length_pos_iff.2 hne
      obtain ⟨g, o, ha', _, _⟩ := hf ⟨0, hlen⟩
      rw [ha] at ha'
      injection ha' with ha'
      refine ⟨g, o, ha', fun j u hj => ?_⟩
      have hall : ∀ u ∈ List.ofFn f, u.length = K.sz := by
        intro u hu
        obtain ⟨i, rfl⟩ := List.mem_ofFn.1 hu
        obtain ⟨_, _, _, hrep, _⟩ := hf i
        exact K.len hrep
      have hpos := hs.pos
      have hjl : j < ys.length * K.sz := by
        have := (List.getElem?_eq_some_iff.1 hj).1
        rw [List.length_flatten] at this
        have hsum := flatten_len (List.ofFn f) hall
        rw [List.length_flatten, List.length_ofFn] at hsum
        omega
      have hdiv : j / K.sz < ys.length := Nat.div_lt_of_lt_mul (by rw [Nat.mul_comm]; exact hjl)
      have hmod : j % K.sz < K.sz := Nat.mod_lt _ hpos
      have hu : (List.ofFn f)[j / K.sz]? = some (f ⟨j / K.sz, hdiv⟩) := by rw [List.getElem?_ofFn]; simp [hdiv]
      have h5 := flatten_get (sz := K.sz) (List.ofFn f) hall (j / K.sz) (j % K.sz) _ hu hmod
      rw [show j / K.sz * K.sz + j % K.sz = j by rw [Nat.mul_comm]; exact Nat.div_add_mod j K.sz, hj] at h5
      obtain ⟨g2, o2, ha2, _, hrng⟩ := hf ⟨j / K.sz, hdiv⟩
      rw [ha, ha'] at ha2
      injection ha2 with ha2
      injection ha2 with e1 e2
      subst e1; subst e2
      have := hrng (j % K.sz) u h5.symm
      rw [← this]; congr 2
      show o + j = o + j / K.sz * K.sz + j % K.sz
      have := Nat.div_add_mod j K.sz
      rw [Nat.mul_comm] at this; omega
  obtain ⟨vs, hvl, hvr, hva⟩ := hv
  have hfin : ∀ v' w', w'.ownsRow base e K.sz v' (xs.length + ys.length) (us.flatten ++ vs.flatten) → w.grownBy w' v.ownBlock → (v'.ownBlock = v.ownBlock ∨ v'.ownBlock = some w.heap.size) → Gw.Own K e base w' F v' (xs ++ ys) := by
    intro v' w' ho' hg hor
    refine ⟨⟨us ++ vs, by simp [hl, hvl], fun i u x hu hx => ?_, by rw [List.flatten_append, List.length_append]; exact ho'⟩, fun g hg' => ?_⟩
    · have hrep : K.rep w (Out F v) u x := by
        rcases Nat.lt_or_ge i xs.length with h | h
        · rw [List.getElem?_append_left (by omega)] at hu; rw [List.getElem?_append_left h] at hx; exact hr i u x hu hx
        · rw [List.getElem?_append_right (by omega), hl] at hu; rw [List.getElem?_append_right h] at hx; exact hvr _ u x hu hx
      have h1 : K.rep w (fun k => Out F v k ∨ Out F v' k) u x := K.weak hrep fun k hk hk' => by
        rcases hk' with h | h | h
        · exact h
        · exact .inl h
        · rcases hor with e | e
          · exact .inr (e ▸ h)
          · rw [e] at h; injection h with h; omega
      exact K.weak (K.keep h1 fun k hk hn => hg.block k hk fun e => hn (.inl (.inr e.symm))) fun k _ hk => .inr hk
    · rcases hor with h | h
      · exact ho.no g (by rw [← h]; exact hg')
      · rw [h] at hg'; injection hg' with hg'; intro hf; have := hF g hf; omega
  have hzsz : z.cells.size = K.sz := hs.zsz
  cases A with
  | none =>
    have hy0 : ys = [] := by
      cases ys with
      | nil => rfl
      | cons y r => obtain ⟨g, o, u, ha, _⟩ := h4 0 y rfl; cases ha
    subst hy0
    have hv0 : vs = [] := List.eq_nil_of_length_eq_zero hvl
    subst hv0
    refine opw_val (v := v) (w' := w) (fun ev he => ?_) (k v w (hfin v w (by simpa using hown) (World.grownBy.refl w _) (.inl rfl)) (World.grownBy.refl w _) (.inl rfl) (fun _ _ _ => World.grownBy.refl w _))
    simp [execOp, resolve, invoke, builtin, he x _ hx, he y _ hy, run_append_nil base t ty e inf K.sz hs.und hinf v _ _ hown c]
  | some a =>
    have hcells : ∀ j u, vs.flatten[j]? = some u → w.cell? (a.add j) = some u := by
      intro j u hj
      by_cases hne : ys = []
      · subst hne
        have hv0 : vs = [] := List.eq_nil_of_length_eq_zero hvl
        subst hv0; simp at hj
      · obtain ⟨g, o, rfl, hrng⟩ := hva a rfl hne
        exact rangeAt_add hrng j u hj
    have hvlen : vs.flatten.length = ys.length * K.sz := by
      have hall : ∀ u ∈ vs, u.length = K.sz := by
        intro u hu
        obtain ⟨j, hj, rfl⟩ := List.getElem_of_mem hu
        exact K.len (hvr j _ (ys[j]'(by omega)) (List.getElem?_eq_getElem hj) (List.getElem?_eq_getElem (by omega)))
      rw [flatten_len vs hall, hvl]
    have hones : ∀ u ∈ vs.flatten, u.oneCell' = true := by
      intro u hu
      obtain ⟨l, hl', hu'⟩ := List.mem_flatten.1 hu
      obtain ⟨j, hj, rfl⟩ := List.getElem_of_mem hl'
      exact hone _ _ _ _ (hvr j _ (ys[j]'(by omega)) (List.getElem?_eq_getElem hj) (List.getElem?_eq_getElem (by omega))) u hu'
    obtain ⟨v', w', hrun, ho', hg, _, hor⟩ := run_append_own_at (P := P) w base t ty e inf z K.sz by_ hs.und hinf hzero hsz hby hzsz hs.pos v xs.length us.flatten hown a ys.length c vs.flatten hvlen hcells hones (by simp only [maxLen]; omega) hbytes hbase
    refine opw_val (v := v') (w' := w') (fun ev he => ?_) (k v' w' (hfin v' w' ho' hg hor) hg hor (fun g0 hv hg0 => by
      subst hv
      exact run_append_zero hs.und hinf hzero hg0 a vs.flatten (by rw [hvlen, hsz]) hcells hones (by simp only [maxLen]; omega) (by rw [hby]; exact Nat.le_trans (Nat.mul_le_mul_right _ (Nat.le_add_left _ _)) hbytes) hrun))
    simp [execOp, resolve, invoke, builtin, he x _ hx, he y _ hy, hrun]
/-- append([]T{}, s...), of whatever length is given. -/
theorem s_append0H {α : Type} {K : Kd α} {t e by_ base g : Nat} {F' : Nat → Prop} {z s : Value} {ys : List α} (hs : SlF P t e K.sz by_ z) (hx : opv ρ x = some (.slice (some ⟨g, 0, none⟩) 0 0)) (hy : opv ρ y = some s) (ho : Gw.Own K e base w (fun _ => False) (.slice (some ⟨g, 0, none⟩) 0 0) []) (hB : Blk w g e #[])
    (hK : ∀ u y, K.rep w F' u y → K.rep w (Out (fun _ => False) (.slice (some ⟨g, 0, none⟩) 0 0)) u y) (hsrc : Sl K w F' s ys) (hone : K.Ones) (h63 : ys.length ≤ 9223372036854775807) (hbytes : ys.length * by_ ≤ 140737488355328) (hbase : base ≤ w.heap.size)
    (k : ∀ v' w', Gw.Own K e base w' (fun _ => False) v' ys → w.grownBy w' none → C v' w') :
    OpW P ⟨some d, .call { callee := .builtin .append, args := #[x, y], argTypes := #[t, t] }, ty, pos, after, gd⟩ n D ρ w C :=
  s_appendH hs hx hy ho hK hsrc hone (by simpa using h63) (by simpa using hbytes) hbase (fun _ h => h.elim) fun v' w' h1 _ _ h4 => k v' w' (by simpa using h1) (h4 g rfl hB)

end
end Go.Gw

set_option maxRecDepth 20000
set_option linter.unusedSimpArgs false
set_option linter.unusedVariables false
namespace Go.Proofs.Ytfljelnfjbbknaa.Lm
open Go.RowKit Go.Gw
set_option maxHeartbeats 1000000 in
theorem order_any {w : World} {a b : Cl} {n0 : Nat} (hn0 : n0 ≤ w.heap.size) {px py : Value} (hpx : Sl Kd.u32 w (G 83 n0 w) px (ml a.x)) (hpy : Sl Kd.u32 w (G 83 n0 w) py (ml a.y)) {qx qy : Value} (hqx : Sl Kd.u32 w (G 83 n0 w) qx (ml b.x)) (hqy : Sl Kd.u32 w (G 83 n0 w) qy (ml b.y)) (hax : Bd 50 a.x) (hay : Bd 50 a.y) (hbx : Bd 50 b.x) (hby : Bd 50 b.y) :
    Calls Try.prog 52 [.agg [.bool (decide (a.x < 0)), px, .bool (decide (a.y < 0)), py, .int .u8 a.st].toArray, .agg [.bool (decide (b.x < 0)), qx, .bool (decide (b.y < 0)), qy, .int .u8 b.st].toArray].toArray w (Pure w fun v _ => v = .int .i64 (ordC a b)) := by
  have hb0 := Below.refl w.heap.size w
  refine enter Try.func52 rfl rfl (w_seq (w_region (st (s_box rfl ?_))))
  intro g1 w1 hg1 hB1 k1 hs1
  change Blk w1 g1 47 [.bool (decide (a.x < 0)), px, .bool (decide (a.y < 0)), py, .int .u8 a.st].toArray at hB1
  have hb1 := below_g0 hb0 k1
  refine st (s_box rfl ?_)
  intro g2 w2 hg2 hB2 k2 hs2
  change Blk w2 g2 47 [.bool (decide (b.x < 0)), qx, .bool (decide (b.y < 0)), qy, .int .u8 b.st].toArray at hB2
  have hb2 := below_g0 hb1 k2
  refine st (s_assign rfl (r_end (n_then (w_seq (w_region (st (s_faddr fld47_1 rfl (st (s_loadN (us := [.bool (decide (a.y < 0)), py]) row31 rfl (hB1.g0 k2).range (j := 2) rfl rfl ?_)))))))))
  refine st (s_faddr fld47_1 rfl (st (s_loadN (us := [.bool (decide (b.y < 0)), qy]) row31 rfl hB2.range (j := 2) rfl rfl (st (s_call fn23 rfl (rbcmp_any (n0 := n0) (below_n0 hn0 hb2) (big_of rfl ((hpy.gg0 k1).gg0 k2)) (big_of rfl ((hqy.gg0 k1).gg0 k2)) (Bd.le hay (show 50 ≤ 90000 by decide)) (Bd.le hby (show 50 ≤ 90000 by decide))) ?_)))))
  rintro _ w3 ⟨hq1, rfl⟩
  have k3 := grown_of_below hq1 none
  have hz1 := hq1.size
  have hb3 := below_g0 hb2 k3
  have hz2 := hb3.size
  refine st (s_assign rfl (r_end (n_then (w_seq (w_seq (w_region (st (s_move rfl ?_))))))))
  refine st (s_ne rfl rfl (r_end (n_then ?_)))
  refine w_condP rfl (fun h1 => ?_) (fun h1 => ?_)
  · refine w_seq (w_region (st (s_move rfl (st (s_assign rfl (r_end (n_then (w_ret1 rfl rfl ?_))))))))
    exact ⟨_, rfl, hb3, by unfold ordC; rw [if_neg h1]⟩
  refine w_skip' (n_then (w_seq (w_region (st (s_faddr fld47_0 rfl (st (s_loadN (us := [.bool (decide (a.x < 0)), px]) row31 rfl ((hB1.g0 k2).g0 k3).range (j := 0) rfl rfl (st (s_faddr fld47_0 rfl ?_)))))))))
  refine st (s_loadN (us := [.bool (decide (b.x < 0)), qx]) row31 rfl (hB2.g0 k3).range (j := 0) rfl rfl (st (s_call fn23 rfl (rbcmp_any (n0 := n0) (below_n0 hn0 hb3) (big_of rfl (((hpx.gg0 k1).gg0 k2).gg0 k3)) (big_of rfl (((hqx.gg0 k1).gg0 k2).gg0 k3)) (Bd.le hax (show 50 ≤ 90000 by decide)) (Bd.le hbx (show 50 ≤ 90000 by decide))) ?_)))
  rintro _ w4 ⟨hq2, rfl⟩
  have k4 := grown_of_below hq2 none
  have hz3 := hq2.size
  have hb4 := below_g0 hb3 k4
  have hz4 := hb4.size
  refine st (s_assign rfl (r_end (n_then (w_ret1 rfl rfl ?_))))
  exact ⟨_, rfl, hb4, by unfold ordC; rw [if_pos (Classical.not_not.1 h1)]⟩

set_option maxHeartbeats 1000000 in
theorem last_any {w : World} {F : Nat → Prop} {va : Value} {l : List Cl} {n0 : Nat} (hn0 : n0 ≤ w.heap.size) (hl : Sl (Kd.cell 83 n0) w F va l) (hcb : CBd l) (hll : l.length ≤ 100000) :
    Calls Try.prog 19 [va].toArray w (Pure w fun v W => Gw.Own (Kd.cell 83 n0) 47 w.heap.size W (fun _ => False) v (lastL l)) := by
  have hb0 := Below.refl w.heap.size w
  have hln1 := hl.lenle
  refine enter Try.func19 rfl rfl (w_seq (w_region (st (s_assign rfl (r_end (n_then (w_seq ?_)))))))
  refine w_region (st (s_assign rfl (r_end (n_then (w_seq (w_seq (w_region ?_)))))))
  refine st (s_assign rfl (r_end (n_then (w_block (w_loop (α := Int × Value × List Cl) (fun ((i, vo, os) : Int × Value × List Cl) => [(0, va), (2, .slice none 0 0), (3, vo), (4, .int .i64 i)]) (fun ((i, vo, os) : Int × Value × List Cl) W => Below w.heap.size w W ∧ (0 ≤ i ∧ i ≤ l.length) ∧ (Gw.Own (Kd.cell 83 n0) 47 w.heap.size W (fun _ => False) vo os) ∧ (os = lastA (l.take i.toNat))) (fun ((i, vo, os) : Int × Value × List Cl) => (l.length - i).toNat) ((0), (.slice none 0 0), ([])) ⟨hb0, by omega, Own.nil _ _ _ _ _, rfl⟩ (by exact ⟨rfl, rfl, rfl, rfl, trivial⟩) ?_)))))
  rintro ⟨i, vo, os⟩ w1 ⟨hb1, hi, hO, hos⟩
  dsimp only at *
  have hz1 := hb1.size
  have hcbo := cbd_last hcb hos
  have hlo := last_len hos
  refine w_seq (w_seq (w_region (st (s_move rfl (st (s_move rfl (st (s_len sl39 rfl (hl.at0 hb1) (st (s_lt rfl rfl ?_))))))))))
  refine r_end (n_then ?_)
  refine w_condP rfl (fun h1 => ?_) (fun h1 => ?_)
  rotate_left
  · refine w_exit' (n_then_exit (n_then_exit (n_block_exit (n_then (w_seq (w_region ?_))))))
    refine st (s_assign rfl (r_end (n_then (w_seq (w_seq (w_region (st (s_assign rfl ?_))))))))
    refine r_end (n_then (w_block (w_loop (α := Int × Value × List Cl) (fun ((m, vp, ys) : Int × Value × List Cl) => [(2, .slice none 0 0), (3, vo), (8, vp), (9, .int .i64 m)]) (fun ((m, vp, ys) : Int × Value × List Cl) W => Below w.heap.size w W ∧ (0 ≤ m ∧ m ≤ os.length) ∧ (Sl (Kd.cell 83 n0) W (Gw.Loc (fun _ => False) w1) vo os) ∧ (Gw.Own (Kd.cell 83 n0) 47 w1.heap.size W (fun _ => False) vp ys) ∧ (w1.heap.size ≤ W.heap.size) ∧ (ys = (os.take m.toNat).filter nzC)) (fun ((m, vp, ys) : Int × Value × List Cl) => (os.length - m).toNat) ((0), (.slice none 0 0), ([])) ⟨hb1, by omega, hO.sl.loc, Own.nil _ _ _ _ _, Nat.le_refl _, rfl⟩ (by exact ⟨rfl, rfl, rfl, rfl, trivial⟩) ?_)))
    rintro ⟨m, vp, ys⟩ w122 ⟨hb116, hm, hOa, hOb, hW1, hys⟩
    dsimp only at *
    have hz32 := hb116.size
    have hyl := filt_len hys
    have hW0 := (hb1).size
    refine w_seq (w_seq (w_region (st (s_move rfl (st (s_move rfl (st (s_len sl39 rfl hOa (st (s_lt rfl rfl ?_))))))))))
    refine r_end (n_then ?_)
    refine w_condP rfl (fun h6 => ?_) (fun h6 => ?_)
    rotate_left
    · refine w_exit' (n_then_exit (n_then_exit (n_block_exit (n_then (w_seq (w_region ?_))))))
      refine st (s_move rfl (st (s_assign rfl (r_end (n_then (w_ret1 rfl rfl ?_))))))
      exact ⟨_, rfl, hb116, by unfold lastL; rw [show lastA l = os by rw [hos, List.take_of_length_le (by omega)], show os.filter nzC = ys by rw [hys, List.take_of_length_le (by omega)]]; exact hOb.rebase (by omega)⟩
    refine w_skip' (n_then (w_seq (w_block (w_seq (w_region (st (s_move rfl ?_)))))))
    refine st (s_move rfl (st (s_idx sl39 rfl rfl hOa (by omega) (by omega) ?_)))
    rintro b7 o7 _ ⟨ca7, cb7, rfl, hca7, hcb7, hcs7⟩ hc7 hF7 hlt7
    replace hca7 := hca7.ofGF
    replace hcb7 := hcb7.ofGF
    refine st (s_faddr fld47_2 rfl (st (s_load one5 rfl hc7 (j := 4) rfl (st (s_ne rfl rfl (r_end (n_then ?_)))))))
    refine w_condP rfl (fun h7 => ?_) (fun h7 => ?_)
    rotate_left
    · refine w_skip' (n_block (n_then (w_region (st (s_move rfl (st (s_add rfl rfl (by omega) (st (s_assign rfl ?_)))))))))
      refine r_end ?_
      exact n_round (((m + 1)), (vp), (ys)) ⟨hb116, by omega, hOa, hOb, by  omega, filt_no hm.1 h6 hys h7⟩ (by dsimp only; omega) (by exact ⟨rfl, rfl, rfl, rfl, trivial⟩)
    refine w_region (st (s_move rfl (st (s_move rfl (st (s_move rfl (st (s_idx sl39 rfl rfl hOa (by omega) (by omega) ?_))))))))
    rintro b8 o8 _ ⟨ca8, cb8, rfl, hca8, hcb8, hcs8⟩ hc8 hF8 hlt8
    replace hca8 := hca8.ofGF
    replace hcb8 := hcb8.ofGF
    refine st (s_loadW row47 rfl hc8 rfl (st (s_bslice (ps := [(0, .tmp 86)]) (ccs := [#[.bool (decide ((ix os m).x < 0)), ca8, .bool (decide ((ix os m).y < 0)), cb8, .int .u8 ((ix os m).st)]]) (e := 47) (cells := [.bool (decide ((ix os m).x < 0)), ca8, .bool (decide ((ix os m).y < 0)), cb8, .int .u8 ((ix os m).st)]) rfl rfl (by kernel_rfl) (by decide) nz47 ?_)))
    intro g7 w123 hg5 hB7 k117 hs11
    have hb117 := below_g0 hb116 k117
    have hz33 := hb117.size
    have hO129 := hOb.g0 k117
    have hS12 : Sl (Kd.cell 83 n0) w123 (fun _ => False) (.slice (some ⟨g7, 0, none⟩) 1 1) [(ix os m)] := lit_cell (c := (ix os m)) hB7 (hca8.gg0 k117) (hcb8.gg0 k117) hcs8
    refine st (s_append (K := (Kd.cell 83 n0)) sl39 rfl rfl hO129 (lit_cellO (c := (ix os m)) hB7 (hca8.gg0 k117) (hcb8.gg0 k117) hcs8 hO129 (own_new hOb hg5) (by decide) (by omega)) (cell_gk 83 n0).ones (by simp; omega) (by simp; omega) (by first | exact Nat.le_refl _ | omega | (have h0_ := k117.size; omega)) (fun _ h => h.elim) ?_)
    intro v26 w124 hO130 k118 hr15
    have hb118 := hb117.grown k118 hb117.size (fun k_ hk_ => by have h9_ := (hO129.lt k_ hk_).1; omega)
    have hz34 := hb118.size
    refine st (s_assign rfl (r_end (n_block (n_then (w_region (st (s_move rfl (st (s_add rfl rfl (by omega) ?_)))))))))
    refine st (s_assign rfl (r_end ?_))
    exact n_round (((m + 1)), (v26), (ys ++ [(ix os m)])) ⟨hb118, by omega, (Sl.gO (hOa.g0 k117) k118 (fun g_ h_ => by have h9_ := (hO129.lt g_ h_).1;  omega)), hO130, by have h0_ := k117.size; have h1_ := k118.size; omega, filt_yes hm.1 h6 hys h7⟩ (by dsimp only; omega) (by exact ⟨rfl, rfl, rfl, rfl, trivial⟩)
  have hlt := h1
  refine w_skip' (n_then (w_seq (w_block (w_seq (w_region (st (s_assign rfl ?_)))))))
  refine r_end (n_then ?_)
  refine w_cut (α := Int) (fun (k : Int) => [(0, va), (2, .slice none 0 0), (3, vo), (4, .int .i64 i), (5, .int .i64 k)]) (fun (k : Int) W => Below w.heap.size w W ∧ (0 ≤ k ∧ k ≤ os.length) ∧ (Gw.Own (Kd.cell 83 n0) 47 w.heap.size W (fun _ => False) vo os) ∧ (∀ j : Int, 0 ≤ j → j < k → ordC (ix os j) (ix l i) < 0) ∧ (k < os.length → ¬ ordC (ix os k) (ix l i) < 0)) ?_ ?_
  · refine w_block (w_loop (α := Int) (fun (k : Int) => [(0, va), (2, .slice none 0 0), (3, vo), (4, .int .i64 i), (5, .int .i64 k)]) (fun (k : Int) W => Below w.heap.size w W ∧ (0 ≤ k ∧ k ≤ os.length) ∧ (Gw.Own (Kd.cell 83 n0) 47 w.heap.size W (fun _ => False) vo os) ∧ (∀ j : Int, 0 ≤ j → j < k → ordC (ix os j) (ix l i) < 0)) (fun (k : Int) => (os.length - k).toNat) (0) ⟨hb1, by omega, hO, fun j _ _ => by omega⟩ (by exact ⟨rfl, rfl, rfl, rfl, rfl, trivial⟩) ?_)
    rintro k w2 ⟨hb2, hk, hOk, hat⟩
    have hz2 := hb2.size
    refine w_seq (w_seq ?_)
    by_cases h2 : k < (os.length : Int)
    rotate_left
    · refine w_draw 16 (fun a b => a.grownBy b none) [(some 16, Is <| .int .i64 k), (some 17, Is <| vo), (some 18, Is <| .int .i64 (os.length : Int)), (some 19, Is <| .bool (decide (k < (os.length : Int)))), (some 20, Is <| .bool false), (some 21, Is <| undef), (some 22, Is <| undef), (some 23, Is <| undef), (some 24, Is <| undef), (some 25, Is <| undef), (some 26, Is <| undef), (some 27, Is <| undef), (some 28, Is <| undef), (some 29, Is <| undef), (some 30, Is <| undef), (some 31, Is <| .bool false)] [[], [], [1], [0, 2], [3], [4], [4], [4, 5, 6], [4, 7], [4], [4], [4, 9, 10], [4, 11], [4, 8, 12], [4, 13], [4, 14]] [(0, va), (2, .slice none 0 0), (3, vo), (4, .int .i64 i), (5, .int .i64 k)] (by exact ⟨rfl, rfl, rfl, rfl, rfl, trivial⟩) (by kernel_rfl) (by kernel_rfl) grown_none_refl (fun _ _ _ => grown_none_trans) ⟨kv, kv, kv, kv, kv, kv, kv, kv, kv, kv, kv, kv, kv, kv, kv, kv, trivial⟩ ?_
      intro w23 k21 hs2
      have hb22 := below_g0 hb2 k21
      have hO20 := hOk.g0 k21
      refine ⟨⟨?_, ?_, ?_, ?_, ?_, ?_, ?_, ?_, ?_, ?_, ?_, ?_, ?_, ?_, ?_, ?_, trivial⟩, ?_⟩
      · intro w24 k22
        refine op1 (s_move rfl ?_)
        exact ⟨rfl, grown_none_refl _⟩
      · intro w25 k23
        refine op1 (s_move rfl ?_)
        exact ⟨rfl, grown_none_refl _⟩
      · intro w26 k24
        have hO23 := hO20.g0 k24
        intro v_ hv_; subst v_
        refine op1 (s_len sl39 rfl hO23.sl.loc ?_)
        exact ⟨rfl, grown_none_refl _⟩
      · intro w27 k25
        rintro _ rfl _ rfl
        refine op1 (s_lt rfl rfl ?_)
        exact ⟨rfl, grown_none_refl _⟩
      · intro w28 k26
        rintro _ rfl
        refine op1 (s_move rfl ?_)
        exact ⟨(by rw [decide_eq_false h2]), grown_none_refl _⟩
      · intro w29 k27
        rintro _ rfl
        refine op1p ⟨rfl, grown_none_refl _⟩
      · intro w30 k28
        rintro _ rfl
        refine op1p ⟨rfl, grown_none_refl _⟩
      · intro w31 k29
        rintro _ rfl
        intro v_ hv_; subst v_
        intro v_ hv_; subst v_
        refine op1p ⟨rfl, grown_none_refl _⟩
      · intro w32 k30
        rintro _ rfl
        intro v_ hv_; subst v_
        refine op1p ⟨rfl, grown_none_refl _⟩
      · intro w33 k31
        rintro _ rfl
        refine op1p ⟨rfl, grown_none_refl _⟩
      · intro w34 k32
        rintro _ rfl
        refine op1p ⟨rfl, grown_none_refl _⟩
      · intro w35 k33
        rintro _ rfl
        intro v_ hv_; subst v_
        intro v_ hv_; subst v_
        refine op1p ⟨rfl, grown_none_refl _⟩
      · intro w36 k34
        rintro _ rfl
        intro v_ hv_; subst v_
        refine op1p ⟨rfl, grown_none_refl _⟩
      · intro w37 k35
        rintro _ rfl
        intro v_ hv_; subst v_
        intro v_ hv_; subst v_
        refine op1p ⟨rfl, grown_none_refl _⟩
      · intro w38 k36
        rintro _ rfl
        intro v_ hv_; subst v_
        refine op1p ⟨rfl, grown_none_refl _⟩
      · intro w39 k37
        rintro _ rfl
        intro v_ hv_; subst v_
        refine op1 (s_pick rfl rfl ?_)
        exact ⟨rfl, grown_none_refl _⟩
      intro w40 k38
      have hb39 := below_g0 hb22 k38
      have hO37 := hO20.g0 k38
      have hz7 := k21.size
      have hz8 := k38.size
      rintro _ rfl
      intro v_ hv_; subst v_
      rintro _ rfl _ rfl _ rfl
      intro v_ hv_; subst v_
      intro v_ hv_; subst v_
      intro v_ hv_; subst v_
      intro v_ hv_; subst v_
      intro v_ hv_; subst v_
      intro v_ hv_; subst v_
      intro v_ hv_; subst v_
      intro v_ hv_; subst v_
      intro v_ hv_; subst v_
      intro v_ hv_; subst v_
      rintro _ rfl
      refine r_end (n_then (w_condF rfl (w_exit' (n_then_exit (n_then_exit (n_block_exit ?_))))))
      exact n_meet (k) ⟨hb39, by omega, hO37, hat, fun hz => (absurd hz (by omega))⟩ (by exact ⟨rfl, rfl, rfl, rfl, rfl, trivial⟩)
    obtain ⟨b1, o1, _, hat1, ⟨ca1, cb1, rfl, hca1, hcb1, hcs1⟩, hc1, hF1, hlt1⟩ := hOk.sl.loc.elem k (by omega) (by omega)
    replace hca1 := hca1.ofGF
    replace hcb1 := hcb1.ofGF
    obtain ⟨b2, o2, _, hat2, ⟨ca2, cb2, rfl, hca2, hcb2, hcs2⟩, hc2, hF2, hlt2⟩ := (hl.at0 hb2).elem i (by omega) (by omega)
    have hl_1 := Loc.lt hF2
    replace hca2 := hca2.ofGF
    replace hcb2 := hcb2.ofGF
    refine w_draw 16 (fun a b => a.grownBy b none) [(some 16, Is <| .int .i64 k), (some 17, Is <| vo), (some 18, Is <| .int .i64 (os.length : Int)), (some 19, Is <| .bool (decide (k < (os.length : Int)))), (some 20, Is <| .bool true), (some 21, Is <| vo), (some 22, Is <| .int .i64 k), (some 23, Is <| .pointer (some ⟨b1, o1, none⟩)), (some 24, Is <| .agg [.bool (decide ((ix os k).x < 0)), ca1, .bool (decide ((ix os k).y < 0)), cb1, .int .u8 ((ix os k).st)].toArray), (some 25, Is <| va), (some 26, Is <| .int .i64 i), (some 27, Is <| .pointer (some ⟨b2, o2, none⟩)), (some 28, Is <| .agg [.bool (decide ((ix l i).x < 0)), ca2, .bool (decide ((ix l i).y < 0)), cb2, .int .u8 ((ix l i).st)].toArray), (some 29, Is <| .int .i64 (ordC (ix os k) (ix l i))), (some 30, Is <| .bool (decide ((ordC (ix os k) (ix l i)) < 0))), (some 31, Is <| .bool (decide ((ordC (ix os k) (ix l i)) < 0)))] [[], [], [1], [0, 2], [3], [4], [4], [4, 5, 6], [4, 7], [4], [4], [4, 9, 10], [4, 11], [4, 8, 12], [4, 13], [4, 14]] [(0, va), (2, .slice none 0 0), (3, vo), (4, .int .i64 i), (5, .int .i64 k)] (by exact ⟨rfl, rfl, rfl, rfl, rfl, trivial⟩) (by kernel_rfl) (by kernel_rfl) grown_none_refl (fun _ _ _ => grown_none_trans) ⟨kv, kv, kv, kv, kv, kv, kv, kv, kv, kv, kv, kv, kv, kv, kv, kv, trivial⟩ ?_
    intro w4 k2 hs1
    have hb3 := below_g0 hb2 k2
    have hO1 := hOk.g0 k2
    refine ⟨⟨?_, ?_, ?_, ?_, ?_, ?_, ?_, ?_, ?_, ?_, ?_, ?_, ?_, ?_, ?_, ?_, trivial⟩, ?_⟩
    · intro w5 k3
      refine op1 (s_move rfl ?_)
      exact ⟨rfl, grown_none_refl _⟩
    · intro w6 k4
      refine op1 (s_move rfl ?_)
      exact ⟨rfl, grown_none_refl _⟩
    · intro w7 k5
      have hO4 := hO1.g0 k5
      intro v_ hv_; subst v_
      refine op1 (s_len sl39 rfl hO4.sl.loc ?_)
      exact ⟨rfl, grown_none_refl _⟩
    · intro w8 k6
      rintro _ rfl _ rfl
      refine op1 (s_lt rfl rfl ?_)
      exact ⟨rfl, grown_none_refl _⟩
    · intro w9 k7
      rintro _ rfl
      refine op1 (s_move rfl ?_)
      exact ⟨(by rw [decide_eq_true h2]), grown_none_refl _⟩
    · intro w10 k8
      rintro _ rfl
      refine op1g (s_move rfl ?_)
      exact ⟨rfl, grown_none_refl _⟩
    · intro w11 k9
      rintro _ rfl
      refine op1g (s_move rfl ?_)
      exact ⟨rfl, grown_none_refl _⟩
    · intro w12 k10
      rintro _ rfl
      intro v_ hv_; subst v_
      rintro _ rfl
      refine op1g (s_idxat sl39 rfl rfl hat1 ?_)
      exact ⟨rfl, grown_none_refl _⟩
    · intro w13 k11
      rintro _ rfl _ rfl
      refine op1g (s_loadW row47 rfl (range_g0 (range_g0 hc1 k2) k11) rfl ?_)
      exact ⟨rfl, grown_none_refl _⟩
    · intro w14 k12
      rintro _ rfl
      refine op1g (s_move rfl ?_)
      exact ⟨rfl, grown_none_refl _⟩
    · intro w15 k13
      rintro _ rfl
      refine op1g (s_move rfl ?_)
      exact ⟨rfl, grown_none_refl _⟩
    · intro w16 k14
      rintro _ rfl
      intro v_ hv_; subst v_
      rintro _ rfl
      refine op1g (s_idxat sl39 rfl rfl hat2 ?_)
      exact ⟨rfl, grown_none_refl _⟩
    · intro w17 k15
      rintro _ rfl _ rfl
      refine op1g (s_loadW row47 rfl (range_g0 (range_g0 hc2 k2) k15) rfl ?_)
      exact ⟨rfl, grown_none_refl _⟩
    · intro w18 k16
      have hb17 := below_g0 hb3 k16
      rintro _ rfl _ rfl _ rfl
      refine op1g (s_call fn52 rfl (order_any (a := (ix os k)) (b := (ix l i)) (n0 := n0) (below_n0 hn0 hb17) ((hca1.gg0 k2).gg0 k16) ((hcb1.gg0 k2).gg0 k16) ((hca2.gg0 k2).gg0 k16) ((hcb2.gg0 k2).gg0 k16) (Bd.le (cbd_ix hcbo (by omega) (by omega)).1 (show 50 ≤ 50 by decide)) (Bd.le (cbd_ix hcbo (by omega) (by omega)).2 (show 50 ≤ 50 by decide)) (Bd.le (cbd_ix hcb (by omega) (by omega)).1 (show 50 ≤ 50 by decide)) (Bd.le (cbd_ix hcb (by omega) (by omega)).2 (show 50 ≤ 50 by decide))) ?_)
      rintro _ w19 ⟨hq2, rfl⟩
      have k17 := grown_of_below hq2 none
      have hz3 := hq2.size
      have hb18 := below_g0 hb17 k17
      have hz4 := hb18.size
      exact ⟨rfl, k17⟩
    · intro w20 k18
      rintro _ rfl _ rfl
      refine op1g (s_lt rfl rfl ?_)
      exact ⟨rfl, grown_none_refl _⟩
    · intro w21 k19
      rintro _ rfl _ rfl
      refine op1 (s_pick rfl rfl ?_)
      exact ⟨rfl, grown_none_refl _⟩
    intro w22 k20
    have hb21 := below_g0 hb3 k20
    have hO19 := hO1.g0 k20
    have hz5 := k2.size
    have hz6 := k20.size
    rintro _ rfl
    intro v_ hv_; subst v_
    rintro _ rfl _ rfl _ rfl
    intro v_ hv_; subst v_
    rintro _ rfl _ rfl _ rfl
    intro v_ hv_; subst v_
    rintro _ rfl _ rfl _ rfl _ rfl _ rfl _ rfl
    refine r_end (n_then ?_)
    refine w_condP rfl (fun h3 => ?_) (fun h3 => ?_)
    rotate_left
    · refine w_exit' (n_then_exit (n_then_exit (n_block_exit ?_)))
      exact n_meet (k) ⟨hb21, by omega, hO19, hat, fun hz => h3⟩ (by exact ⟨rfl, rfl, rfl, rfl, rfl, trivial⟩)
    refine w_skip' (n_then (w_block (w_region (st (s_move rfl (st (s_add rfl rfl (by omega) (st (s_assign rfl ?_)))))))))
    refine r_end (n_block ?_)
    exact n_round ((k + 1)) ⟨hb21, by omega, hO19, fun j j0 j1 => if e : j = k then by rw [e]; exact h3 else hat j j0 (by omega)⟩ (by omega) (by exact ⟨rfl, rfl, rfl, rfl, rfl, trivial⟩)
  rintro k w41 ⟨hb40, hk, hOb, hat, hnl⟩
  have hz9 := hb40.size
  refine w_seq ?_
  by_cases h4 : k < (os.length : Int)
  rotate_left
  · refine w_draw 16 (fun a b => a.grownBy b none) [(some 34, Is <| .int .i64 k), (some 35, Is <| vo), (some 36, Is <| .int .i64 (os.length : Int)), (some 37, Is <| .bool (decide (k < (os.length : Int)))), (some 38, Is <| .bool false), (some 39, Is <| undef), (some 40, Is <| undef), (some 41, Is <| undef), (some 42, Is <| undef), (some 43, Is <| undef), (some 44, Is <| undef), (some 45, Is <| undef), (some 46, Is <| undef), (some 47, Is <| undef), (some 48, Is <| undef), (some 49, Is <| .bool false)] [[], [], [1], [0, 2], [3], [4], [4], [4, 5, 6], [4, 7], [4], [4], [4, 9, 10], [4, 11], [4, 8, 12], [4, 13], [4, 14]] [(0, va), (2, .slice none 0 0), (3, vo), (4, .int .i64 i), (5, .int .i64 k)] (by exact ⟨rfl, rfl, rfl, rfl, rfl, trivial⟩) (by kernel_rfl) (by kernel_rfl) grown_none_refl (fun _ _ _ => grown_none_trans) ⟨kv, kv, kv, kv, kv, kv, kv, kv, kv, kv, kv, kv, kv, kv, kv, kv, trivial⟩ ?_
    intro w83 k79 hs7
    have hb79 := below_g0 hb40 k79
    have hO84 := hOb.g0 k79
    refine ⟨⟨?_, ?_, ?_, ?_, ?_, ?_, ?_, ?_, ?_, ?_, ?_, ?_, ?_, ?_, ?_, ?_, trivial⟩, ?_⟩
    · intro w84 k80
      refine op1 (s_move rfl ?_)
      exact ⟨rfl, grown_none_refl _⟩
    · intro w85 k81
      refine op1 (s_move rfl ?_)
      exact ⟨rfl, grown_none_refl _⟩
    · intro w86 k82
      have hO87 := hO84.g0 k82
      intro v_ hv_; subst v_
      refine op1 (s_len sl39 rfl hO87.sl.loc ?_)
      exact ⟨rfl, grown_none_refl _⟩
    · intro w87 k83
      rintro _ rfl _ rfl
      refine op1 (s_lt rfl rfl ?_)
      exact ⟨rfl, grown_none_refl _⟩
    · intro w88 k84
      rintro _ rfl
      refine op1 (s_move rfl ?_)
      exact ⟨(by rw [decide_eq_false h4]), grown_none_refl _⟩
    · intro w89 k85
      rintro _ rfl
      refine op1p ⟨rfl, grown_none_refl _⟩
    · intro w90 k86
      rintro _ rfl
      refine op1p ⟨rfl, grown_none_refl _⟩
    · intro w91 k87
      rintro _ rfl
      intro v_ hv_; subst v_
      intro v_ hv_; subst v_
      refine op1p ⟨rfl, grown_none_refl _⟩
    · intro w92 k88
      rintro _ rfl
      intro v_ hv_; subst v_
      refine op1p ⟨rfl, grown_none_refl _⟩
    · intro w93 k89
      rintro _ rfl
      refine op1p ⟨rfl, grown_none_refl _⟩
    · intro w94 k90
      rintro _ rfl
      refine op1p ⟨rfl, grown_none_refl _⟩
    · intro w95 k91
      rintro _ rfl
      intro v_ hv_; subst v_
      intro v_ hv_; subst v_
      refine op1p ⟨rfl, grown_none_refl _⟩
    · intro w96 k92
      rintro _ rfl
      intro v_ hv_; subst v_
      refine op1p ⟨rfl, grown_none_refl _⟩
    · intro w97 k93
      rintro _ rfl
      intro v_ hv_; subst v_
      intro v_ hv_; subst v_
      refine op1p ⟨rfl, grown_none_refl _⟩
    · intro w98 k94
      rintro _ rfl
      intro v_ hv_; subst v_
      refine op1p ⟨rfl, grown_none_refl _⟩
    · intro w99 k95
      rintro _ rfl
      intro v_ hv_; subst v_
      refine op1 (s_pick rfl rfl ?_)
      exact ⟨rfl, grown_none_refl _⟩
    intro w100 k96
    have hb96 := below_g0 hb79 k96
    have hO101 := hO84.g0 k96
    have hz22 := k79.size
    have hz23 := k96.size
    rintro _ rfl
    intro v_ hv_; subst v_
    rintro _ rfl _ rfl _ rfl
    intro v_ hv_; subst v_
    intro v_ hv_; subst v_
    intro v_ hv_; subst v_
    intro v_ hv_; subst v_
    intro v_ hv_; subst v_
    intro v_ hv_; subst v_
    intro v_ hv_; subst v_
    intro v_ hv_; subst v_
    intro v_ hv_; subst v_
    intro v_ hv_; subst v_
    rintro _ rfl
    refine st (s_assign rfl (r_end (n_then (w_seq (w_region (st (s_bslice0b (K := (Kd.cell 83 n0)) (base := w.heap.size) (F := (fun _ => False)) sl39 (hb96).size (fun _ h => h.elim) ?_)))))))
    intro g4 w101 hB4 hO102 k97
    have hb97 := below_g0 hb96 k97
    have hz24 := hb97.size
    have hO103 := hO101.g0 k97
    refine st (s_move rfl (st (s_move rfl (st (s_sllo sl39 rfl rfl hO103.sl.loc (by first | omega | (simp; omega)) (by first | omega | (simp; omega)) ?_)))))
    intro v14 hS7
    refine st (s_append0 sl39 rfl rfl hO102 (hS7).none (cell_gk 83 n0).ones (by simp; omega) (by simp; omega) (by omega) (fun _ h => h.elim) ?_)
    intro v15 w102 hO104 k98
    have hb98 := below_g0 hb97 k98
    have hz25 := hb98.size
    have hO105 := hO103.g0 k98
    refine st (s_assign rfl (r_end (n_then ?_)))
    refine w_cut (α := Value × List Cl) (fun ((vr, rs) : Value × List Cl) => [(0, va), (2, .slice none 0 0), (3, vo), (4, .int .i64 i), (5, .int .i64 k), (7, vr)]) (fun ((vr, rs)) W => Below w.heap.size w W ∧ (Gw.Own (Kd.cell 83 n0) 47 w.heap.size W (fun _ => False) vo os) ∧ (Sl (Kd.cell 83 n0) W (fun _ => False) vr rs) ∧ ((os.take k.toNat ++ [ix l i]) ++ rs = insC os (ix l i)) ∧ (rs.length ≤ os.length)) ?_ ?_
    · refine w_seq (w_region (st (s_move rfl (r_end (n_then (w_condF rfl (w_skip' ?_)))))))
      exact n_meet ((v15), (os.drop (k).toNat)) ⟨hb98, hO105, hO104.sl, insC_new (by omega) (by omega) hat (fun hz => ⟨(hnl hz), (absurd hz (by omega))⟩), by first | omega | (simp; done) | (simp; omega)⟩ (by exact ⟨rfl, rfl, rfl, rfl, rfl, rfl, trivial⟩)
    rintro ⟨vr, rs⟩ w103 ⟨hb99, hOr, hSr, hrs, hrl⟩
    dsimp only at *
    have hz26 := hb99.size
    obtain ⟨b6, o6, _, hat6, ⟨ca6, cb6, rfl, hca6, hcb6, hcs6⟩, hc6, hF6, hlt6⟩ := (hl.at0 hb99).elem i (by omega) (by omega)
    have hl_4 := Loc.lt hF6
    replace hca6 := hca6.ofGF
    replace hcb6 := hcb6.ofGF
    refine w_drawT 11 (fun a b => a.grownBy b none) [(some 58, Is <| vo), (some 59, Is <| .int .i64 k), (some 60, Is <| .int .i64 k), (some 61, fun v W => SlC (Kd.cell 83 n0) W (fun _ => False) v (os.take (k).toNat)), (some 62, Is <| va), (some 63, Is <| .int .i64 i), (some 64, Is <| .pointer (some ⟨b6, o6, none⟩)), (some 65, Is <| .agg [.bool (decide ((ix l i).x < 0)), ca6, .bool (decide ((ix l i).y < 0)), cb6, .int .u8 ((ix l i).st)].toArray), (some 66, fun v W => Sl (Kd.cell 83 n0) W (fun _ => False) v [(ix l i)]), (some 67, fun v W => Gw.Own (Kd.cell 83 n0) 47 w103.heap.size W (fun _ => False) v ((os.take (k).toNat) ++ [(ix l i)])), (some 68, Is <| vr)] [[], [], [], [0, 1, 2], [], [], [4, 5], [6], [7], [3, 8], []] [(0, va), (2, .slice none 0 0), (3, vo), (4, .int .i64 i), (5, .int .i64 k), (7, vr)] (by exact ⟨rfl, rfl, rfl, rfl, rfl, rfl, trivial⟩) (by kernel_rfl) (by kernel_rfl) grown_none_refl (fun _ _ _ => grown_none_trans) ⟨kv, kv, kv, fun _ _ _ h k => h.g0 k, kv, kv, kv, kv, fun _ _ _ h k => h.g0 k, fun _ _ _ h k => h.g0 k, kv, trivial⟩ ?_
    intro w106 k101 hs9
    have hb100 := below_g0 hb99 k101
    have hO108 := hOr.g0 k101
    refine ⟨⟨?_, ?_, ?_, ?_, ?_, ?_, ?_, ?_, ?_, ?_, ?_, trivial⟩, ?_⟩
    · intro w107 k102
      refine op1 (s_move rfl ?_)
      exact ⟨rfl, grown_none_refl _⟩
    · intro w108 k103
      refine op1 (s_move rfl ?_)
      exact ⟨rfl, grown_none_refl _⟩
    · intro w109 k104
      refine op1 (s_move rfl ?_)
      exact ⟨rfl, grown_none_refl _⟩
    · intro w110 k105
      have hO112 := hO108.g0 k105
      intro v_ hv_; subst v_
      rintro _ rfl _ rfl
      refine op1 (s_slcap sl39 rfl rfl rfl (hO112.sl.loc).none (by first | omega | (simp; omega)) (by first | omega | (simp; omega)) ?_)
      intro v18 hC6
      exact ⟨hC6, grown_none_refl _⟩
    · intro w111 k106
      refine op1 (s_move rfl ?_)
      exact ⟨rfl, grown_none_refl _⟩
    · intro w112 k107
      refine op1 (s_move rfl ?_)
      exact ⟨rfl, grown_none_refl _⟩
    · intro w113 k108
      intro v_ hv_; subst v_
      rintro _ rfl
      refine op1 (s_idxat sl39 rfl rfl hat6 ?_)
      exact ⟨rfl, grown_none_refl _⟩
    · intro w114 k109
      rintro _ rfl
      refine op1 (s_loadW row47 rfl (range_g0 (range_g0 hc6 k101) k109) rfl ?_)
      exact ⟨rfl, grown_none_refl _⟩
    · intro w115 k110
      have hb109 := below_g0 hb100 k110
      rintro _ rfl
      refine op1 (s_bslice (ps := [(0, .tmp 65)]) (ccs := [#[.bool (decide ((ix l i).x < 0)), ca6, .bool (decide ((ix l i).y < 0)), cb6, .int .u8 ((ix l i).st)]]) (e := 47) (cells := [.bool (decide ((ix l i).x < 0)), ca6, .bool (decide ((ix l i).y < 0)), cb6, .int .u8 ((ix l i).st)]) rfl rfl (by kernel_rfl) (by decide) nz47 ?_)
      intro g6 w116 hg4 hB6 k111 hs10
      have hb110 := below_g0 hb109 k111
      have hz27 := hb110.size
      have hS9 : Sl (Kd.cell 83 n0) w116 (fun _ => False) (.slice (some ⟨g6, 0, none⟩) 1 1) [(ix l i)] := lit_cell (c := (ix l i)) hB6 (((hca6.gg0 k101).gg0 k110).gg0 k111) (((hcb6.gg0 k101).gg0 k110).gg0 k111) hcs6
      exact ⟨hS9, k111⟩
    · intro w117 k112
      have hb111 := below_g0 hb100 k112
      rintro v19 hC7 v20 hS10
      refine op1 (s_appfull (K := (Kd.cell 83 n0)) sl39 rfl rfl hC7 (hS10).none (by simp) (cell_gk 83 n0).ones (by simp; omega) (by simp; omega) (fun _ h => h.elim) ?_)
      intro v21 w118 hO120 k113 hr11
      have hO121 := hO120.rebase (b' := w103.heap.size) (by have h0_ := k101.size; have h1_ := k112.size; have h2_ := k113.size; omega)
      have hb112 := below_g0 hb111 k113
      have hz28 := hb112.size
      exact ⟨hO121, k113⟩
    · intro w119 k114
      refine op1 (s_move rfl ?_)
      exact ⟨rfl, grown_none_refl _⟩
    intro w120 k115
    have hb114 := below_g0 hb100 k115
    have hz29 := k101.size
    have hz30 := k115.size
    intro v_ hv_; subst v_
    rintro _ rfl _ rfl v22 hC8
    intro v_ hv_; subst v_
    rintro _ rfl _ rfl _ rfl v23 hS11 v24 hO125
    have hO126 := hO125.rebase (b' := w.heap.size) (by omega)
    intro v_ hv_; subst v_
    refine st (s_appendH (K := (Kd.cell 83 n0)) sl39 rfl rfl hO126 (fun _ _ h_ => (cell_free 83 n0) _ _ _ _ _ h_ (fun _ _ hO_ => hO_.elim (fun h_ => h_.elim) fun hO_ => hO126.isG hO_ (by decide) (by omega))) ((hSr.g0 k101).g0 k115) (cell_gk 83 n0).ones (by simp; omega) (by simp; omega) (by first | exact Nat.le_refl _ | omega | (have h0_ := k101.size; have h1_ := k115.size; omega)) (fun _ h => h.elim) ?_)
    intro v25 w121 hO127 k116 hr12 _
    have hb115 := hb114.grown k116 hb114.size (fun k_ hk_ => by have h9_ := (hO126.lt k_ hk_).1; omega)
    have hz31 := hb115.size
    refine st (s_assign rfl (r_end (n_block (n_then (w_region (st (s_move rfl (st (s_add rfl rfl (by omega) ?_)))))))))
    refine st (s_assign rfl (r_end ?_))
    exact n_round (((i + 1)), (v25), ((insC os (ix l i)))) ⟨hb115, by omega, (by rw [← hrs]; exact hO127), lastA_step hi.1 hlt hos⟩ (by dsimp only; omega) (by exact ⟨rfl, rfl, rfl, rfl, trivial⟩)
  obtain ⟨b3, o3, _, hat3, ⟨ca3, cb3, rfl, hca3, hcb3, hcs3⟩, hc3, hF3, hlt3⟩ := hOb.sl.loc.elem k (by omega) (by omega)
  replace hca3 := hca3.ofGF
  replace hcb3 := hcb3.ofGF
  obtain ⟨b4, o4, _, hat4, ⟨ca4, cb4, rfl, hca4, hcb4, hcs4⟩, hc4, hF4, hlt4⟩ := (hl.at0 hb40).elem i (by omega) (by omega)
  have hl_2 := Loc.lt hF4
  replace hca4 := hca4.ofGF
  replace hcb4 := hcb4.ofGF
  refine w_draw 16 (fun a b => a.grownBy b none) [(some 34, Is <| .int .i64 k), (some 35, Is <| vo), (some 36, Is <| .int .i64 (os.length : Int)), (some 37, Is <| .bool (decide (k < (os.length : Int)))), (some 38, Is <| .bool true), (some 39, Is <| vo), (some 40, Is <| .int .i64 k), (some 41, Is <| .pointer (some ⟨b3, o3, none⟩)), (some 42, Is <| .agg [.bool (decide ((ix os k).x < 0)), ca3, .bool (decide ((ix os k).y < 0)), cb3, .int .u8 ((ix os k).st)].toArray), (some 43, Is <| va), (some 44, Is <| .int .i64 i), (some 45, Is <| .pointer (some ⟨b4, o4, none⟩)), (some 46, Is <| .agg [.bool (decide ((ix l i).x < 0)), ca4, .bool (decide ((ix l i).y < 0)), cb4, .int .u8 ((ix l i).st)].toArray), (some 47, Is <| .int .i64 (ordC (ix os k) (ix l i))), (some 48, Is <| .bool (decide ((ordC (ix os k) (ix l i)) = 0))), (some 49, Is <| .bool (decide ((ordC (ix os k) (ix l i)) = 0)))] [[], [], [1], [0, 2], [3], [4], [4], [4, 5, 6], [4, 7], [4], [4], [4, 9, 10], [4, 11], [4, 8, 12], [4, 13], [4, 14]] [(0, va), (2, .slice none 0 0), (3, vo), (4, .int .i64 i), (5, .int .i64 k)] (by exact ⟨rfl, rfl, rfl, rfl, rfl, trivial⟩) (by kernel_rfl) (by kernel_rfl) grown_none_refl (fun _ _ _ => grown_none_trans) ⟨kv, kv, kv, kv, kv, kv, kv, kv, kv, kv, kv, kv, kv, kv, kv, kv, trivial⟩ ?_
  intro w43 k40 hs3
  have hb41 := below_g0 hb40 k40
  have hO38 := hOb.g0 k40
  refine ⟨⟨?_, ?_, ?_, ?_, ?_, ?_, ?_, ?_, ?_, ?_, ?_, ?_, ?_, ?_, ?_, ?_, trivial⟩, ?_⟩
  · intro w44 k41
    refine op1 (s_move rfl ?_)
    exact ⟨rfl, grown_none_refl _⟩
  · intro w45 k42
    refine op1 (s_move rfl ?_)
    exact ⟨rfl, grown_none_refl _⟩
  · intro w46 k43
    have hO41 := hO38.g0 k43
    intro v_ hv_; subst v_
    refine op1 (s_len sl39 rfl hO41.sl.loc ?_)
    exact ⟨rfl, grown_none_refl _⟩
  · intro w47 k44
    rintro _ rfl _ rfl
    refine op1 (s_lt rfl rfl ?_)
    exact ⟨rfl, grown_none_refl _⟩
  · intro w48 k45
    rintro _ rfl
    refine op1 (s_move rfl ?_)
    exact ⟨(by rw [decide_eq_true h4]), grown_none_refl _⟩
  · intro w49 k46
    rintro _ rfl
    refine op1g (s_move rfl ?_)
    exact ⟨rfl, grown_none_refl _⟩
  · intro w50 k47
    rintro _ rfl
    refine op1g (s_move rfl ?_)
    exact ⟨rfl, grown_none_refl _⟩
  · intro w51 k48
    rintro _ rfl
    intro v_ hv_; subst v_
    rintro _ rfl
    refine op1g (s_idxat sl39 rfl rfl hat3 ?_)
    exact ⟨rfl, grown_none_refl _⟩
  · intro w52 k49
    rintro _ rfl _ rfl
    refine op1g (s_loadW row47 rfl (range_g0 (range_g0 hc3 k40) k49) rfl ?_)
    exact ⟨rfl, grown_none_refl _⟩
  · intro w53 k50
    rintro _ rfl
    refine op1g (s_move rfl ?_)
    exact ⟨rfl, grown_none_refl _⟩
  · intro w54 k51
    rintro _ rfl
    refine op1g (s_move rfl ?_)
    exact ⟨rfl, grown_none_refl _⟩
  · intro w55 k52
    rintro _ rfl
    intro v_ hv_; subst v_
    rintro _ rfl
    refine op1g (s_idxat sl39 rfl rfl hat4 ?_)
    exact ⟨rfl, grown_none_refl _⟩
  · intro w56 k53
    rintro _ rfl _ rfl
    refine op1g (s_loadW row47 rfl (range_g0 (range_g0 hc4 k40) k53) rfl ?_)
    exact ⟨rfl, grown_none_refl _⟩
  · intro w57 k54
    have hb55 := below_g0 hb41 k54
    rintro _ rfl _ rfl _ rfl
    refine op1g (s_call fn52 rfl (order_any (a := (ix os k)) (b := (ix l i)) (n0 := n0) (below_n0 hn0 hb55) ((hca3.gg0 k40).gg0 k54) ((hcb3.gg0 k40).gg0 k54) ((hca4.gg0 k40).gg0 k54) ((hcb4.gg0 k40).gg0 k54) (Bd.le (cbd_ix hcbo (by omega) (by omega)).1 (show 50 ≤ 50 by decide)) (Bd.le (cbd_ix hcbo (by omega) (by omega)).2 (show 50 ≤ 50 by decide)) (Bd.le (cbd_ix hcb (by omega) (by omega)).1 (show 50 ≤ 50 by decide)) (Bd.le (cbd_ix hcb (by omega) (by omega)).2 (show 50 ≤ 50 by decide))) ?_)
    rintro _ w58 ⟨hq4, rfl⟩
    have k55 := grown_of_below hq4 none
    have hz10 := hq4.size
    have hb56 := below_g0 hb55 k55
    have hz11 := hb56.size
    exact ⟨rfl, k55⟩
  · intro w59 k56
    rintro _ rfl _ rfl
    refine op1g (s_eq rfl rfl ?_)
    exact ⟨rfl, grown_none_refl _⟩
  · intro w60 k57
    rintro _ rfl _ rfl
    refine op1 (s_pick rfl rfl ?_)
    exact ⟨rfl, grown_none_refl _⟩
  intro w61 k58
  have hb59 := below_g0 hb41 k58
  have hO56 := hO38.g0 k58
  have hz12 := k40.size
  have hz13 := k58.size
  rintro _ rfl
  intro v_ hv_; subst v_
  rintro _ rfl _ rfl _ rfl
  intro v_ hv_; subst v_
  rintro _ rfl _ rfl _ rfl
  intro v_ hv_; subst v_
  rintro _ rfl _ rfl _ rfl _ rfl _ rfl _ rfl
  refine st (s_assign rfl (r_end (n_then (w_seq (w_region (st (s_bslice0b (K := (Kd.cell 83 n0)) (base := w.heap.size) (F := (fun _ => False)) sl39 (hb59).size (fun _ h => h.elim) ?_)))))))
  intro g1 w62 hB1 hO57 k59
  have hb60 := below_g0 hb59 k59
  have hz14 := hb60.size
  have hO58 := hO56.g0 k59
  refine st (s_move rfl (st (s_move rfl (st (s_sllo sl39 rfl rfl hO58.sl.loc (by first | omega | (simp; omega)) (by first | omega | (simp; omega)) ?_)))))
  intro v1 hS1
  refine st (s_append0 sl39 rfl rfl hO57 (hS1).none (cell_gk 83 n0).ones (by simp; omega) (by simp; omega) (by omega) (fun _ h => h.elim) ?_)
  intro v2 w63 hO59 k60
  have hb61 := below_g0 hb60 k60
  have hz15 := hb61.size
  have hO60 := hO58.g0 k60
  refine st (s_assign rfl (r_end (n_then ?_)))
  refine w_cut (α := Value × List Cl) (fun ((vr, rs) : Value × List Cl) => [(0, va), (2, .slice none 0 0), (3, vo), (4, .int .i64 i), (5, .int .i64 k), (7, vr)]) (fun ((vr, rs)) W => Below w.heap.size w W ∧ (Gw.Own (Kd.cell 83 n0) 47 w.heap.size W (fun _ => False) vo os) ∧ (Sl (Kd.cell 83 n0) W (fun _ => False) vr rs) ∧ ((os.take k.toNat ++ [ix l i]) ++ rs = insC os (ix l i)) ∧ (rs.length ≤ os.length)) ?_ ?_
  · refine w_seq (w_region (st (s_move rfl (r_end (n_then ?_)))))
    refine w_condP rfl (fun h5 => ?_) (fun h5 => ?_)
    rotate_left
    · refine w_skip' ?_
      exact n_meet ((v2), (os.drop (k).toNat)) ⟨hb61, hO60, hO59.sl, insC_new (by omega) (by omega) hat (fun hz => ⟨(hnl hz), h5⟩), by first | omega | (simp; done) | (simp; omega)⟩ (by exact ⟨rfl, rfl, rfl, rfl, rfl, rfl, trivial⟩)
    refine w_region (st (s_move rfl (st (s_sllo sl39 rfl rfl hO59.sl.loc (by first | omega | (simp; omega)) (by first | omega | (simp; omega)) ?_))))
    intro v3 hS2
    refine st (s_assign rfl (r_end ?_))
    exact n_meet ((v3), ((os.drop (k).toNat).drop (1 : Int).toNat)) ⟨hb61, hO60, (hS2).none, insC_same (by omega) (by omega) hat h5, by first | omega | (simp; done) | (simp; omega)⟩ (by exact ⟨rfl, rfl, rfl, rfl, rfl, rfl, trivial⟩)
  rintro ⟨vr, rs⟩ w64 ⟨hb62, hOr, hSr, hrs, hrl⟩
  dsimp only at *
  have hz16 := hb62.size
  obtain ⟨b5, o5, _, hat5, ⟨ca5, cb5, rfl, hca5, hcb5, hcs5⟩, hc5, hF5, hlt5⟩ := (hl.at0 hb62).elem i (by omega) (by omega)
  have hl_3 := Loc.lt hF5
  replace hca5 := hca5.ofGF
  replace hcb5 := hcb5.ofGF
  refine w_drawT 11 (fun a b => a.grownBy b none) [(some 58, Is <| vo), (some 59, Is <| .int .i64 k), (some 60, Is <| .int .i64 k), (some 61, fun v W => SlC (Kd.cell 83 n0) W (fun _ => False) v (os.take (k).toNat)), (some 62, Is <| va), (some 63, Is <| .int .i64 i), (some 64, Is <| .pointer (some ⟨b5, o5, none⟩)), (some 65, Is <| .agg [.bool (decide ((ix l i).x < 0)), ca5, .bool (decide ((ix l i).y < 0)), cb5, .int .u8 ((ix l i).st)].toArray), (some 66, fun v W => Sl (Kd.cell 83 n0) W (fun _ => False) v [(ix l i)]), (some 67, fun v W => Gw.Own (Kd.cell 83 n0) 47 w64.heap.size W (fun _ => False) v ((os.take (k).toNat) ++ [(ix l i)])), (some 68, Is <| vr)] [[], [], [], [0, 1, 2], [], [], [4, 5], [6], [7], [3, 8], []] [(0, va), (2, .slice none 0 0), (3, vo), (4, .int .i64 i), (5, .int .i64 k), (7, vr)] (by exact ⟨rfl, rfl, rfl, rfl, rfl, rfl, trivial⟩) (by kernel_rfl) (by kernel_rfl) grown_none_refl (fun _ _ _ => grown_none_trans) ⟨kv, kv, kv, fun _ _ _ h k => h.g0 k, kv, kv, kv, kv, fun _ _ _ h k => h.g0 k, fun _ _ _ h k => h.g0 k, kv, trivial⟩ ?_
  intro w67 k63 hs5
  have hb63 := below_g0 hb62 k63
  have hO63 := hOr.g0 k63
  refine ⟨⟨?_, ?_, ?_, ?_, ?_, ?_, ?_, ?_, ?_, ?_, ?_, trivial⟩, ?_⟩
  · intro w68 k64
    refine op1 (s_move rfl ?_)
    exact ⟨rfl, grown_none_refl _⟩
  · intro w69 k65
    refine op1 (s_move rfl ?_)
    exact ⟨rfl, grown_none_refl _⟩
  · intro w70 k66
    refine op1 (s_move rfl ?_)
    exact ⟨rfl, grown_none_refl _⟩
  · intro w71 k67
    have hO67 := hO63.g0 k67
    intro v_ hv_; subst v_
    rintro _ rfl _ rfl
    refine op1 (s_slcap sl39 rfl rfl rfl (hO67.sl.loc).none (by first | omega | (simp; omega)) (by first | omega | (simp; omega)) ?_)
    intro v6 hC2
    exact ⟨hC2, grown_none_refl _⟩
  · intro w72 k68
    refine op1 (s_move rfl ?_)
    exact ⟨rfl, grown_none_refl _⟩
  · intro w73 k69
    refine op1 (s_move rfl ?_)
    exact ⟨rfl, grown_none_refl _⟩
  · intro w74 k70
    intro v_ hv_; subst v_
    rintro _ rfl
    refine op1 (s_idxat sl39 rfl rfl hat5 ?_)
    exact ⟨rfl, grown_none_refl _⟩
  · intro w75 k71
    rintro _ rfl
    refine op1 (s_loadW row47 rfl (range_g0 (range_g0 hc5 k63) k71) rfl ?_)
    exact ⟨rfl, grown_none_refl _⟩
  · intro w76 k72
    have hb72 := below_g0 hb63 k72
    rintro _ rfl
    refine op1 (s_bslice (ps := [(0, .tmp 65)]) (ccs := [#[.bool (decide ((ix l i).x < 0)), ca5, .bool (decide ((ix l i).y < 0)), cb5, .int .u8 ((ix l i).st)]]) (e := 47) (cells := [.bool (decide ((ix l i).x < 0)), ca5, .bool (decide ((ix l i).y < 0)), cb5, .int .u8 ((ix l i).st)]) rfl rfl (by kernel_rfl) (by decide) nz47 ?_)
    intro g3 w77 hg2 hB3 k73 hs6
    have hb73 := below_g0 hb72 k73
    have hz17 := hb73.size
    have hS4 : Sl (Kd.cell 83 n0) w77 (fun _ => False) (.slice (some ⟨g3, 0, none⟩) 1 1) [(ix l i)] := lit_cell (c := (ix l i)) hB3 (((hca5.gg0 k63).gg0 k72).gg0 k73) (((hcb5.gg0 k63).gg0 k72).gg0 k73) hcs5
    exact ⟨hS4, k73⟩
  · intro w78 k74
    have hb74 := below_g0 hb63 k74
    rintro v7 hC3 v8 hS5
    refine op1 (s_appfull (K := (Kd.cell 83 n0)) sl39 rfl rfl hC3 (hS5).none (by simp) (cell_gk 83 n0).ones (by simp; omega) (by simp; omega) (fun _ h => h.elim) ?_)
    intro v9 w79 hO75 k75 hr7
    have hO76 := hO75.rebase (b' := w64.heap.size) (by have h0_ := k63.size; have h1_ := k74.size; have h2_ := k75.size; omega)
    have hb75 := below_g0 hb74 k75
    have hz18 := hb75.size
    exact ⟨hO76, k75⟩
  · intro w80 k76
    refine op1 (s_move rfl ?_)
    exact ⟨rfl, grown_none_refl _⟩
  intro w81 k77
  have hb77 := below_g0 hb63 k77
  have hz19 := k63.size
  have hz20 := k77.size
  intro v_ hv_; subst v_
  rintro _ rfl _ rfl v10 hC4
  intro v_ hv_; subst v_
  rintro _ rfl _ rfl _ rfl v11 hS6 v12 hO80
  have hO81 := hO80.rebase (b' := w.heap.size) (by omega)
  intro v_ hv_; subst v_
  refine st (s_appendH (K := (Kd.cell 83 n0)) sl39 rfl rfl hO81 (fun _ _ h_ => (cell_free 83 n0) _ _ _ _ _ h_ (fun _ _ hO_ => hO_.elim (fun h_ => h_.elim) fun hO_ => hO81.isG hO_ (by decide) (by omega))) ((hSr.g0 k63).g0 k77) (cell_gk 83 n0).ones (by simp; omega) (by simp; omega) (by first | exact Nat.le_refl _ | omega | (have h0_ := k63.size; have h1_ := k77.size; omega)) (fun _ h => h.elim) ?_)
  intro v13 w82 hO82 k78 hr8 _
  have hb78 := hb77.grown k78 hb77.size (fun k_ hk_ => by have h9_ := (hO81.lt k_ hk_).1; omega)
  have hz21 := hb78.size
  refine st (s_assign rfl (r_end (n_block (n_then (w_region (st (s_move rfl (st (s_add rfl rfl (by omega) ?_)))))))))
  refine st (s_assign rfl (r_end ?_))
  exact n_round (((i + 1)), (v13), ((insC os (ix l i)))) ⟨hb78, by omega, (by rw [← hrs]; exact hO82), lastA_step hi.1 hlt hos⟩ (by dsimp only; omega) (by exact ⟨rfl, rfl, rfl, rfl, trivial⟩)
end Go.Proofs.Ytfljelnfjbbknaa.Lm

set_option maxRecDepth 20000
set_option linter.unusedSimpArgs false
set_option linter.unusedVariables false
namespace Go.Proofs.Ytfljelnfjbbknaa.Lm
open Go.RowKit Go.Gw
set_option maxHeartbeats 1000000 in
theorem inc_any {w : World} {c : Cl} {lv : Int} {n0 : Nat} (hn0 : n0 ≤ w.heap.size) {px py : Value} (hpx : Sl Kd.u32 w (G 83 n0 w) px (ml c.x)) (hpy : Sl Kd.u32 w (G 83 n0 w) py (ml c.y)) (hcx : Bd 50 c.x) (hcy : Bd 50 c.y) (hlv : 1 ≤ lv ∧ lv ≤ 1329) :
    Calls Try.prog 70 [.agg [.bool (decide (c.x < 0)), px, .bool (decide (c.y < 0)), py, .int .u8 c.st].toArray, .int .i64 lv].toArray w (Pure w fun v _ => v = .bool (inC c lv)) := by
  have hb0 := Below.refl w.heap.size w
  refine enter Try.func70 rfl rfl (w_seq (w_region (st (s_box rfl ?_))))
  intro g1 w1 hg1 hB1 k1 hs1
  change Blk w1 g1 47 [.bool (decide (c.x < 0)), px, .bool (decide (c.y < 0)), py, .int .u8 c.st].toArray at hB1
  have hb1 := below_g0 hb0 k1
  refine st (s_assign rfl (r_end (n_then (w_seq (w_region (st (s_move rfl (st (s_sub rfl rfl (by omega) ?_)))))))))
  refine st (s_call fn47 rfl (rbpow_any (n0 := n0) (below_n0 hn0 hb1)) ?_)
  rintro v2 w2 ⟨hq1, hv1⟩
  rw [show (shlN 1 (lv - 1)) = (hf lv) from (shl_hf hlv)] at hv1
  obtain ⟨v1, rfl, hS1⟩ := hv1
  have k2 := grown_of_below hq1 none
  have hz1 := hq1.size
  have hb2 := below_g0 hb1 k2
  have hz2 := hb2.size
  have hlt_1 := ((hB1.g0 k2)).lt
  refine st (s_alloc zero31 ?_)
  intro g2 w3 hg2 hB2 k3 hs2
  have hz3 := hb2.size
  have hb3 := below_g0 hb2 k3
  refine st0 (s_storeN row31 rfl rfl hB2 (by simp only [List.all_cons, List.all_nil, hS1.one, Bool.and_true, Bool.and_self] <;> rfl) rfl rfl ?_)
  intro w4 hB3 k4 hs3
  have hb4 := below_g hb3 k4 (by first | omega | (have h9 := (hb3).size; omega))
  refine r_end (n_then (w_seq (w_region (st (s_loadW row31 rfl hB3.range rfl (st (s_call fn48 rfl (rminus_any (n0 := n0) (below_n0 hn0 hb4) (big_of rfl ((hS1.gg0 k3).ggB k4 hB2 (by decide) (by omega))) (Bd.le (bd_hf hlv.2) (show 42 ≤ 90000 by decide))) ?_)))))))
  rintro _ w5 ⟨hq2, v3, rfl, hS2⟩
  have k5 := grown_of_below hq2 none
  have hz4 := hq2.size
  have hb5 := below_g0 hb4 k5
  have hz5 := hb5.size
  have hlt_2 := (((((hB1.g0 k2).g0 k3).gne k4 (by omega)).g0 k5)).lt
  have hlt_3 := ((hB3.g0 k5)).lt
  refine st (s_alloc zero31 ?_)
  intro g3 w6 hg3 hB4 k6 hs4
  have hz6 := hb5.size
  have hb6 := below_g0 hb5 k6
  refine st0 (s_storeN row31 rfl rfl hB4 (by simp only [List.all_cons, List.all_nil, hS2.one, Bool.and_true, Bool.and_self] <;> rfl) rfl rfl ?_)
  intro w7 hB5 k7 hs5
  have hb7 := below_g hb6 k7 (by first | omega | (have h9 := (hb6).size; omega))
  refine r_end (n_then (w_seq (w_region (st (s_faddr fld47_0 rfl (st (s_loadN (us := [.bool (decide (c.x < 0)), px]) row31 rfl ((((((hB1.g0 k2).g0 k3).gne k4 (by omega)).g0 k5).g0 k6).gne k7 (by omega)).range (j := 0) rfl rfl (st (s_loadW row31 rfl hB5.range rfl ?_)))))))))
  refine st (s_call fn23 rfl (rbcmp_any (n0 := n0) (below_n0 hn0 hb7) (big_of rfl (((((((hpx.gg0 k1).gg0 k2).gg0 k3).ggB k4 hB2 (by decide) (by omega)).gg0 k5).gg0 k6).ggB k7 hB4 (by decide) (by omega))) (big_of rfl ((hS2.gg0 k6).ggB k7 hB4 (by decide) (by omega))) (Bd.le hcx (show 50 ≤ 90000 by decide)) (Bd.le (bd_neg (bd_hf hlv.2)) (show 42 ≤ 90000 by decide))) ?_)
  rintro _ w8 ⟨hq3, rfl⟩
  have k8 := grown_of_below hq3 none
  have hz7 := hq3.size
  have hb8 := below_g0 hb7 k8
  have hz8 := hb8.size
  refine st (s_ge rfl rfl (st (s_move rfl ?_)))
  refine r_caseP 17 rfl (fun h1 => ?_) (fun h1 => ?_)
  rotate_left
  · refine s_pass rfl rfl (s_pass rfl rfl (s_pass rfl rfl (s_pass rfl rfl (s_pass rfl rfl (st (s_pick rfl rfl (st (s_move rfl ?_))))))))
    refine s_pass rfl rfl (s_pass rfl rfl (s_pass rfl rfl (s_pass rfl rfl (s_pass rfl rfl (st (s_pick rfl rfl (st (s_move rfl ?_))))))))
    refine s_pass rfl rfl (s_pass rfl rfl (s_pass rfl rfl (s_pass rfl rfl (s_pass rfl rfl (st (s_pick rfl rfl (st (s_assign rfl ?_))))))))
    refine r_end (n_then (w_ret1 rfl rfl ?_))
    exact ⟨_, rfl, hb8, by rw [show inC c lv = false from by unfold inC; rw [decide_eq_false_iff_not]; rintro ⟨h1_, h2_, h3_, h4_⟩; have h5_ := cmpI_ge.2 h1_; have h6_ := cmpI_lti.2 h2_; have h7_ := cmpI_ge.2 h3_; have h8_ := cmpI_lti.2 h4_; omega]⟩
  refine stg (s_faddr fld47_0 rfl (stg (s_loadN (us := [.bool (decide (c.x < 0)), px]) row31 rfl (((((((hB1.g0 k2).g0 k3).gne k4 (by omega)).g0 k5).g0 k6).gne k7 (by omega)).g0 k8).range (j := 0) rfl rfl (stg (s_loadW row31 rfl ((((hB3.g0 k5).g0 k6).gne k7 (by omega)).g0 k8).range rfl ?_)))))
  refine stg (s_call fn23 rfl (rbcmp_any (n0 := n0) (below_n0 hn0 hb8) (big_of rfl ((((((((hpx.gg0 k1).gg0 k2).gg0 k3).ggB k4 hB2 (by decide) (by omega)).gg0 k5).gg0 k6).ggB k7 hB4 (by decide) (by omega)).gg0 k8)) (big_of rfl ((((((hS1.gg0 k3).ggB k4 hB2 (by decide) (by omega)).gg0 k5).gg0 k6).ggB k7 hB4 (by decide) (by omega)).gg0 k8)) (Bd.le hcx (show 50 ≤ 90000 by decide)) (Bd.le (bd_hf hlv.2) (show 42 ≤ 90000 by decide))) ?_)
  rintro _ w9 ⟨hq4, rfl⟩
  have k9 := grown_of_below hq4 none
  have hz9 := hq4.size
  have hb9 := below_g0 hb8 k9
  have hz10 := hb9.size
  refine stg (s_lt rfl rfl (st (s_pick rfl rfl (st (s_move rfl ?_)))))
  refine r_caseP 24 rfl (fun h2 => ?_) (fun h2 => ?_)
  rotate_left
  · refine s_pass rfl rfl (s_pass rfl rfl (s_pass rfl rfl (s_pass rfl rfl (s_pass rfl rfl (st (s_pick rfl rfl (st (s_move rfl ?_))))))))
    refine s_pass rfl rfl (s_pass rfl rfl (s_pass rfl rfl (s_pass rfl rfl (s_pass rfl rfl (st (s_pick rfl rfl (st (s_assign rfl ?_))))))))
    refine r_end (n_then (w_ret1 rfl rfl ?_))
    exact ⟨_, rfl, hb9, by rw [show inC c lv = false from by unfold inC; rw [decide_eq_false_iff_not]; rintro ⟨h1_, h2_, h3_, h4_⟩; have h5_ := cmpI_ge.2 h1_; have h6_ := cmpI_lti.2 h2_; have h7_ := cmpI_ge.2 h3_; have h8_ := cmpI_lti.2 h4_; omega]⟩
  refine stg (s_faddr fld47_1 rfl (stg (s_loadN (us := [.bool (decide (c.y < 0)), py]) row31 rfl ((((((((hB1.g0 k2).g0 k3).gne k4 (by omega)).g0 k5).g0 k6).gne k7 (by omega)).g0 k8).g0 k9).range (j := 2) rfl rfl (stg (s_loadW row31 rfl ((hB5.g0 k8).g0 k9).range rfl (stg (s_call fn23 rfl (rbcmp_any (n0 := n0) (below_n0 hn0 hb9) (big_of rfl (((((((((hpy.gg0 k1).gg0 k2).gg0 k3).ggB k4 hB2 (by decide) (by omega)).gg0 k5).gg0 k6).ggB k7 hB4 (by decide) (by omega)).gg0 k8).gg0 k9)) (big_of rfl ((((hS2.gg0 k6).ggB k7 hB4 (by decide) (by omega)).gg0 k8).gg0 k9)) (Bd.le hcy (show 50 ≤ 90000 by decide)) (Bd.le (bd_neg (bd_hf hlv.2)) (show 42 ≤ 90000 by decide))) ?_)))))))
  rintro _ w10 ⟨hq5, rfl⟩
  have k10 := grown_of_below hq5 none
  have hz11 := hq5.size
  have hb10 := below_g0 hb9 k10
  have hz12 := hb10.size
  refine stg (s_ge rfl rfl (st (s_pick rfl rfl (st (s_move rfl ?_)))))
  refine r_caseP 31 rfl (fun h3 => ?_) (fun h3 => ?_)
  rotate_left
  · refine s_pass rfl rfl (s_pass rfl rfl (s_pass rfl rfl (s_pass rfl rfl (s_pass rfl rfl (st (s_pick rfl rfl (st (s_assign rfl ?_))))))))
    refine r_end (n_then (w_ret1 rfl rfl ?_))
    exact ⟨_, rfl, hb10, by rw [show inC c lv = false from by unfold inC; rw [decide_eq_false_iff_not]; rintro ⟨h1_, h2_, h3_, h4_⟩; have h5_ := cmpI_ge.2 h1_; have h6_ := cmpI_lti.2 h2_; have h7_ := cmpI_ge.2 h3_; have h8_ := cmpI_lti.2 h4_; omega]⟩
  refine stg (s_faddr fld47_1 rfl (stg (s_loadN (us := [.bool (decide (c.y < 0)), py]) row31 rfl (((((((((hB1.g0 k2).g0 k3).gne k4 (by omega)).g0 k5).g0 k6).gne k7 (by omega)).g0 k8).g0 k9).g0 k10).range (j := 2) rfl rfl (stg (s_loadW row31 rfl ((((((hB3.g0 k5).g0 k6).gne k7 (by omega)).g0 k8).g0 k9).g0 k10).range rfl ?_)))))
  refine stg (s_call fn23 rfl (rbcmp_any (n0 := n0) (below_n0 hn0 hb10) (big_of rfl ((((((((((hpy.gg0 k1).gg0 k2).gg0 k3).ggB k4 hB2 (by decide) (by omega)).gg0 k5).gg0 k6).ggB k7 hB4 (by decide) (by omega)).gg0 k8).gg0 k9).gg0 k10)) (big_of rfl ((((((((hS1.gg0 k3).ggB k4 hB2 (by decide) (by omega)).gg0 k5).gg0 k6).ggB k7 hB4 (by decide) (by omega)).gg0 k8).gg0 k9).gg0 k10)) (Bd.le hcy (show 50 ≤ 90000 by decide)) (Bd.le (bd_hf hlv.2) (show 42 ≤ 90000 by decide))) ?_)
  rintro _ w11 ⟨hq6, rfl⟩
  have k11 := grown_of_below hq6 none
  have hz13 := hq6.size
  have hb11 := below_g0 hb10 k11
  have hz14 := hb11.size
  refine stg (s_lt rfl rfl (st (s_pick rfl rfl (st (s_assign rfl (r_end (n_then (w_ret1 rfl rfl ?_))))))))
  exact ⟨_, rfl, hb11, congrArg Value.bool (decide_eq_decide.2 ⟨fun h => ⟨cmpI_ge.1 h1, cmpI_lti.1 h2, cmpI_ge.1 h3, cmpI_lti.1 h⟩, fun h => cmpI_lti.2 h.2.2.2⟩)⟩
end Go.Proofs.Ytfljelnfjbbknaa.Lm
