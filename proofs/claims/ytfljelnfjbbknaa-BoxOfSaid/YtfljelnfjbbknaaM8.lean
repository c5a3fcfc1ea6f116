/- Part of the proof: a library for walks, plain laws, and functions' walks. -/
import Derived.Test.YtfljelnfjbbknaaM7
import Derived.Test.YtfljelnfjbbknaaM5
import Derived.Test.YtfljelnfjbbknaaM4
set_option maxRecDepth 20000
set_option linter.unusedSimpArgs false
set_option linter.unusedVariables false
namespace Go.Proofs.Ytfljelnfjbbknaa.Lm
open Go.RowKit Go.Gw
set_option maxHeartbeats 1000000 in
theorem spans_any {w : World} {F : Nat → Prop} {va : Value} {l : List Nd} {n0 : Nat} (hn0 : n0 ≤ w.heap.size) (hl : Sl Kd.node w F va l) (hl_ok : looseB l = true) (hll : l.length ≤ 100000) :
    Calls Try.prog 41 [va].toArray w (Pure w fun v W => Gw.Own (Kd.span 83 n0) 72 w.heap.size W (fun _ => False) v (spansL l)) := by
  have hb0 := Below.refl w.heap.size w
  have hln1 := hl.lenle
  refine enter Try.func41 rfl rfl (w_seq (w_region (st (s_assign rfl (r_end (n_then (w_seq ?_)))))))
  refine w_region (st (s_call fn49 rfl (of_any (n0 := n0) (below_n0 hn0 hb0) (by omega)) ?_))
  rintro _ w1 ⟨hq1, v1, rfl, hS1⟩
  have k1 := grown_of_below hq1 none
  have hz1 := hq1.size
  have hb1 := below_g0 hb0 k1
  have hz2 := hb1.size
  refine st (s_call fn49 rfl (of_any (n0 := n0) (below_n0 hn0 hb1) (by omega)) ?_)
  rintro _ w2 ⟨hq2, v2, rfl, hS2⟩
  have k2 := grown_of_below hq2 none
  have hz3 := hq2.size
  have hb2 := below_g0 hb1 k2
  have hz4 := hb2.size
  refine st (s_build (ps := [(0, .tmp 12), (1, .tmp 13)]) (ccs := [#[.bool (decide ((1 : Int) < 0)), v1], #[.bool (decide ((1 : Int) < 0)), v2]]) (cells := [.bool (decide ((1 : Int) < 0)), v1, .bool (decide ((1 : Int) < 0)), v2]) rfl rfl (by kernel_rfl) (st (s_build (ps := [(0, .const (.bool true)), (2, .tmp 14)]) (ccs := [#[.bool true], #[.bool (decide ((1 : Int) < 0)), v1, .bool (decide ((1 : Int) < 0)), v2]]) (cells := [.bool true, .bool false, .slice none 0 0, .bool false, .slice none 0 0, .bool (decide ((1 : Int) < 0)), v1, .bool (decide ((1 : Int) < 0)), v2]) rfl rfl (by kernel_rfl) (st (s_alloc zero72 ?_)))))
  intro g1 w3 hg1 hB1 k3 hs1
  have hz5 := hb2.size
  have hb3 := below_g0 hb2 k3
  refine st0 (s_storeN row72 rfl rfl hB1 (by simp only [List.all_cons, List.all_nil, hS1.one, hS2.one, Bool.and_true, Bool.and_self] <;> rfl) rfl rfl ?_)
  intro w4 hB2 k4 hs2
  have hb4 := below_g hb3 k4 (by first | omega | (have h9 := (hb3).size; omega))
  refine r_end (n_then (w_seq (w_region (st (s_move rfl (st (s_len sl22 rfl (hl.at0 hb4) (st (s_add rfl rfl (by omega) ?_)))))))))
  refine st (s_makeC (K := (Kd.span 83 n0)) (base := w4.heap.size) (F := fun _ => False) sl73 rfl rfl (by omega) (by omega) (by omega) (by omega) (fun w F => span_zero _ _ w F) (Nat.le_refl _) (fun _ h => h.elim) ?_)
  intro v3 w5 hO1 k5
  have hn1 := own_fresh hO1 (g := g1) (by have := hB2.lt; omega)
  have hO2 := hO1.rebase (b' := w.heap.size) (by omega)
  have hb5 := below_g0 hb4 k5
  have hz6 := hb5.size
  refine st (s_assign rfl (r_end (n_then (w_seq (w_seq (w_region (st (s_move rfl ?_))))))))
  refine st (s_len sl22 rfl (hl.at0 hb5) (st (s_move rfl (r_end (n_then (w_block ?_))))))
  refine w_loop (α := Int × Value × List Spn) (fun ((i, vo, os) : Int × Value × List Spn) => [(2, .slice none 0 0), (3, .pointer (some ⟨g1, 0, none⟩)), (4, vo), (20, va), (21, .int .i64 (l.length : Int)), (22, .int .i64 i)]) (fun ((i, vo, os) : Int × Value × List Spn) W => Below w.heap.size w W ∧ (0 ≤ i ∧ i ≤ l.length) ∧ (Gw.Own (Kd.span 83 n0) 72 w.heap.size W (fun _ => False) vo os) ∧ ((os.length : Int) = i + 1) ∧ (∀ j : Int, 0 ≤ j → j ≤ i → ix os j = spn (tr l j)) ∧ (Blk W g1 72 [.bool true, .bool false, .slice none 0 0, .bool false, .slice none 0 0, .bool (decide ((1 : Int) < 0)), v1, .bool (decide ((1 : Int) < 0)), v2].toArray) ∧ (vo.ownBlock ≠ some g1) ∧ (Sl Kd.u32 W (G 83 n0 W) v1 (ml (1 : Int))) ∧ (Sl Kd.u32 W (G 83 n0 W) v2 (ml (1 : Int)))) (fun ((i, vo, os) : Int × Value × List Spn) => (l.length - i).toNat) ((0), (v3), (List.replicate (1 : Int).toNat ⟨false, 0, 0, 0, 0⟩)) ⟨hb5, by omega, hO2, rfl, fun j j0 j1 => by rw [show j = 0 by omega, tr_zero]; rfl, (hB2.g0 k5), hn1, ((((hS1.gg0 k2).gg0 k3).ggB k4 hB1 (by decide) (by omega)).gg0 k5), (((hS2.gg0 k3).ggB k4 hB1 (by decide) (by omega)).gg0 k5)⟩ (by exact ⟨rfl, rfl, rfl, rfl, rfl, rfl, trivial⟩) ?_
  rintro ⟨i, vo, os⟩ w6 ⟨hb6, hi, hO, hol, hos, hone, hnv, ho0, ho1⟩
  dsimp only at *
  have hz7 := hb6.size
  have hg1l := hone.lt
  refine w_seq (w_region (st (s_lt rfl rfl (r_end (n_then (w_seq ?_))))))
  refine w_condP rfl (fun h1 => ?_) (fun h1 => ?_)
  rotate_left
  · refine w_exit' (n_then_exit (n_then_exit (n_block_exit (n_then (w_seq (w_region ?_))))))
    refine st (s_move rfl (st (s_assign rfl (r_end (n_then (w_ret1 rfl rfl ?_))))))
    rw [← spans_eq (os := os) (by omega) (fun j j0 j1 => hos j j0 (by omega))]
    exact ⟨_, rfl, hb6, hO⟩
  have hlt := h1
  have hlv := lv_in hl_ok hi.1 hlt
  refine w_skip' (n_then (w_seq (w_block (w_seq (w_region (st (s_idx sl22 rfl rfl (hl.at0 hb6) (by omega) (by omega) ?_)))))))
  rintro b1 o1 _ ⟨rfl, _⟩ hc1 hF1 hlt1
  have hl_1 := Loc.lt hF1
  refine st (s_loadW row101 rfl hc1 rfl ?_)
  have hlt_1 := (hone).lt
  refine st (s_alloc zero101 ?_)
  intro g2 w7 hg2 hB3 k6 hs3
  have hz8 := hb6.size
  have hb7 := below_g0 hb6 k6
  have hO3 := hO.g0 k6
  refine st0 (s_storeN row101 rfl rfl hB3 rfl rfl rfl ?_)
  intro w8 hB4 k7 hs4
  have hb8 := below_g hb7 k7 (by first | omega | (have h9 := (hb7).size; omega))
  have hO4 := Own.keptG (span_gk 83 n0) hO3 k7 (Blk.isG hB3 (by decide) (by omega)) (hO3.neB hB3 (by decide))
  refine r_end (n_then (w_seq (w_region (st (s_faddr fld101_0 rfl (st (s_load one3 rfl hB4.range (j := 0) rfl (st (s_sub rfl rfl (by omega) ?_)))))))))
  refine st (s_call fn42 rfl (bpow_any (n0 := n0) (below_n0 hn0 hb8)) ?_)
  rintro v5 w9 ⟨hq3, hv1⟩
  rw [show (shlN 1 ((ix l i).lv - 1)) = (hf (ix l i).lv) from (shl_hf hlv)] at hv1
  obtain ⟨v4, rfl, hS3⟩ := hv1
  have k8 := grown_of_below hq3 none
  have hz9 := hq3.size
  have hb9 := below_g0 hb8 k8
  have hz10 := hb9.size
  have hO5 := hO4.g0 k8
  have hlt_2 := ((((hone.g0 k6).gne k7 (by omega)).g0 k8)).lt
  have hlt_3 := ((hB4.g0 k8)).lt
  refine st (s_alloc zero31 ?_)
  intro g3 w10 hg3 hB5 k9 hs5
  have hz11 := hb9.size
  have hb10 := below_g0 hb9 k9
  have hO6 := hO5.g0 k9
  refine st0 (s_storeN row31 rfl rfl hB5 (by simp only [List.all_cons, List.all_nil, hS3.one, Bool.and_true, Bool.and_self] <;> rfl) rfl rfl ?_)
  intro w11 hB6 k10 hs6
  have hb11 := below_g hb10 k10 (by first | omega | (have h9 := (hb10).size; omega))
  have hO7 := Own.keptG (span_gk 83 n0) hO6 k10 (Blk.isG hB5 (by decide) (by omega)) (hO6.neB hB5 (by decide))
  refine r_end (n_then (w_seq (w_region ?_)))
  have hlt_4 := ((((((hone.g0 k6).gne k7 (by omega)).g0 k8).g0 k9).gne k10 (by omega))).lt
  have hlt_5 := ((((hB4.g0 k8).g0 k9).gne k10 (by omega))).lt
  have hlt_6 := (hB6).lt
  refine st (s_alloc zero72 ?_)
  intro g4 w12 hg4 hB7 k11 hs7
  have hz12 := hb11.size
  have hn2 := own_new hO7 hg4
  have hb12 := below_g0 hb11 k11
  have hO8 := hO7.g0 k11
  refine r_end (n_then (w_seq (w_seq (w_region (st (s_faddr fld101_1 rfl (st (s_loadN (us := [.int .i64 ((ix l i).k0), .int .i64 ((ix l i).k1), .int .i64 ((ix l i).k2), .int .i64 ((ix l i).k3)]) row99 rfl ((((hB4.g0 k8).g0 k9).gne k10 (by omega)).g0 k11).range (j := 1) rfl rfl ?_))))))))
  refine st (s_move rfl (r_end (n_then (w_block ?_))))
  refine w_loop (α := Int × Value × Value × Value × Value) (fun ((k, afx, afy, atx, aty) : Int × Value × Value × Value × Value) => [(2, .slice none 0 0), (3, .pointer (some ⟨g1, 0, none⟩)), (4, vo), (6, .pointer (some ⟨g2, 0, none⟩)), (7, .pointer (some ⟨g3, 0, none⟩)), (8, .pointer (some ⟨g4, 0, none⟩)), (20, va), (21, .int .i64 (l.length : Int)), (22, .int .i64 i), (31, .agg [.int .i64 ((ix l i).k0), .int .i64 ((ix l i).k1), .int .i64 ((ix l i).k2), .int .i64 ((ix l i).k3)].toArray), (32, .int .i64 k)]) (fun ((k, afx, afy, atx, aty) : Int × Value × Value × Value × Value) W => Below w.heap.size w W ∧ (0 ≤ k ∧ k ≤ 4) ∧ (Gw.Own (Kd.span 83 n0) 72 w.heap.size W (fun _ => False) vo os) ∧ (Blk W g1 72 [.bool true, .bool false, .slice none 0 0, .bool false, .slice none 0 0, .bool (decide ((1 : Int) < 0)), v1, .bool (decide ((1 : Int) < 0)), v2].toArray) ∧ (Sl Kd.u32 W (G 83 n0 W) v1 (ml (1 : Int))) ∧ (Sl Kd.u32 W (G 83 n0 W) v2 (ml (1 : Int))) ∧ (Blk W g2 101 [.int .i64 ((ix l i).lv), .int .i64 ((ix l i).k0), .int .i64 ((ix l i).k1), .int .i64 ((ix l i).k2), .int .i64 ((ix l i).k3)].toArray) ∧ (Blk W g3 31 [.bool (decide ((hf (ix l i).lv) < 0)), v4].toArray) ∧ (Sl Kd.u32 W (G 83 n0 W) v4 (ml (hf (ix l i).lv))) ∧ (Blk W g4 72 [.bool ((spK l (ix l i) k.toNat).some), .bool (decide ((spK l (ix l i) k.toNat).fx < 0)), afx, .bool (decide ((spK l (ix l i) k.toNat).fy < 0)), afy, .bool (decide ((spK l (ix l i) k.toNat).tx < 0)), atx, .bool (decide ((spK l (ix l i) k.toNat).ty < 0)), aty].toArray) ∧ (Sl Kd.u32 W (G 83 n0 W) afx (ml ((spK l (ix l i) k.toNat).fx))) ∧ (Sl Kd.u32 W (G 83 n0 W) afy (ml ((spK l (ix l i) k.toNat).fy))) ∧ (Sl Kd.u32 W (G 83 n0 W) atx (ml ((spK l (ix l i) k.toNat).tx))) ∧ (Sl Kd.u32 W (G 83 n0 W) aty (ml ((spK l (ix l i) k.toNat).ty)))) (fun ((k, afx, afy, atx, aty) : Int × Value × Value × Value × Value) => (4 - k).toNat) ((0), (.slice none 0 0), (.slice none 0 0), (.slice none 0 0), (.slice none 0 0)) ⟨hb12, by omega, hO8, ((((((hone.g0 k6).gne k7 (by omega)).g0 k8).g0 k9).gne k10 (by omega)).g0 k11), ((((((ho0.gg0 k6).ggB k7 hB3 (by decide) (by omega)).gg0 k8).gg0 k9).ggB k10 hB5 (by decide) (by omega)).gg0 k11), ((((((ho1.gg0 k6).ggB k7 hB3 (by decide) (by omega)).gg0 k8).gg0 k9).ggB k10 hB5 (by decide) (by omega)).gg0 k11), ((((hB4.g0 k8).g0 k9).gne k10 (by omega)).g0 k11), (hB6.g0 k11), (((hS3.gg0 k9).ggB k10 hB5 (by decide) (by omega)).gg0 k11), (by rw [show (0 : Int).toNat = 0 from rfl, spK_zero]; exact hB7), (by rw [show (0 : Int).toNat = 0 from rfl, spK_zero]; exact (show Sl Kd.u32 _ (G 83 n0 _) (.slice none 0 0) (ml 0) by rw [ml_zero]; exact nilG)), (by rw [show (0 : Int).toNat = 0 from rfl, spK_zero]; exact (show Sl Kd.u32 _ (G 83 n0 _) (.slice none 0 0) (ml 0) by rw [ml_zero]; exact nilG)), (by rw [show (0 : Int).toNat = 0 from rfl, spK_zero]; exact (show Sl Kd.u32 _ (G 83 n0 _) (.slice none 0 0) (ml 0) by rw [ml_zero]; exact nilG)), (by rw [show (0 : Int).toNat = 0 from rfl, spK_zero]; exact (show Sl Kd.u32 _ (G 83 n0 _) (.slice none 0 0) (ml 0) by rw [ml_zero]; exact nilG))⟩ (by exact ⟨rfl, rfl, rfl, rfl, rfl, rfl, rfl, rfl, rfl, rfl, rfl, trivial⟩) ?_
  rintro ⟨k, afx, afy, atx, aty⟩ w13 ⟨hb13, hk, hOk, honek, ho0k, ho1k, hnk, hhk, hhalf, hsk, hafx, hafy, hatx, haty⟩
  dsimp only at *
  have hz13 := hb13.size
  have hl1k := honek.lt
  have hl2k := hnk.lt
  have hl3k := hhk.lt
  have hl4k := hsk.lt
  refine w_seq (w_region (st (s_lt rfl rfl (r_end (n_then (w_seq ?_))))))
  refine w_condP rfl (fun h2 => ?_) (fun h2 => ?_)
  rotate_left
  · refine w_exit' (n_then_exit (n_then_exit (n_block_exit (n_then (w_region (st (s_move rfl ?_)))))))
    refine st (s_loadW row72 rfl hsk.range rfl (st (s_bslice (ps := [(0, .tmp 64)]) (ccs := [#[.bool ((spK l (ix l i) k.toNat).some), .bool (decide ((spK l (ix l i) k.toNat).fx < 0)), afx, .bool (decide ((spK l (ix l i) k.toNat).fy < 0)), afy, .bool (decide ((spK l (ix l i) k.toNat).tx < 0)), atx, .bool (decide ((spK l (ix l i) k.toNat).ty < 0)), aty]]) (e := 72) (cells := [.bool ((spK l (ix l i) k.toNat).some), .bool (decide ((spK l (ix l i) k.toNat).fx < 0)), afx, .bool (decide ((spK l (ix l i) k.toNat).fy < 0)), afy, .bool (decide ((spK l (ix l i) k.toNat).tx < 0)), atx, .bool (decide ((spK l (ix l i) k.toNat).ty < 0)), aty]) rfl rfl (by kernel_rfl) (by decide) nz72 ?_)))
    intro g6 w28 hg6 hB13 k24 hs12
    have hb28 := below_g0 hb13 k24
    have hz21 := hb28.size
    have hO21 := hOk.g0 k24
    refine st (s_append (K := (Kd.span 83 n0)) sl73 rfl rfl hO21 (lit_span (x := (spK l (ix l i) k.toNat)) hB13 (hafx.gg0 k24) (hafy.gg0 k24) (hatx.gg0 k24) (haty.gg0 k24) hO21 (own_new hOk hg6) (by decide) hn0) (span_gk 83 n0).ones (by simp; omega) (by simp; omega) (by first | exact Nat.le_refl _ | omega) (fun _ h => h.elim) ?_)
    intro v14 w29 hO22 k25 hr3
    have hn3 := own_app hnv hr3 (by have := (honek.g0 k24).lt; omega)
    have hn4 := own_app hn2 hr3 (by have := (hsk.g0 k24).lt; omega)
    have hb29 := hb28.grown k25 hb28.size (fun k_ hk_ => (hO21.lt k_ hk_).1)
    have hz22 := hb29.size
    refine st (s_assign rfl (r_end (n_block (n_then (w_region (st (s_add rfl rfl (by omega) (st (s_move rfl ?_)))))))))
    refine r_end ?_
    exact n_round (((i + 1)), (v14), (os ++ [(spK l (ix l i) k.toNat)])) ⟨hb29, by omega, hO22, by simp; omega, spans_snoc hi.1 hol hos (by rw [show k = 4 by omega]; have h9 := spK_four hl_ok (n := i + 1) (by omega) (by omega); rw [show i + 1 - 1 = i by omega] at h9; exact h9), ((honek.g0 k24).grown k25 (fun e => hnv e.symm)), hn3, ((ho0k.gg0 k24).ggO k25 hO21 (by decide) hn0), ((ho1k.gg0 k24).ggO k25 hO21 (by decide) hn0)⟩ (by dsimp only; omega) (by exact ⟨rfl, rfl, rfl, rfl, rfl, rfl, trivial⟩)
  refine w_skip' (n_then (w_seq (w_block (w_seq (w_region (st (s_move rfl ?_)))))))
  refine st (s_iarr4 arr99 one3 rfl rfl (by omega) (by omega) (st (s_assign rfl (st (s_assign rfl (r_end (n_then (w_seq (w_region ?_)))))))))
  have hlt_7 := (honek).lt
  have hlt_8 := (hnk).lt
  have hlt_9 := (hhk).lt
  have hlt_10 := (hsk).lt
  refine st (s_alloc zero70 ?_)
  intro g5 w14 hg5 hB8 k12 hs8
  have hz14 := hb13.size
  have hb14 := below_g0 hb13 k12
  have hO9 := hOk.g0 k12
  refine r_end (n_then ?_)
  refine w_cut (α := Int × Value) (fun ((A, pA) : Int × Value) => [(2, .slice none 0 0), (3, .pointer (some ⟨g1, 0, none⟩)), (4, vo), (6, .pointer (some ⟨g2, 0, none⟩)), (7, .pointer (some ⟨g3, 0, none⟩)), (8, .pointer (some ⟨g4, 0, none⟩)), (9, .int .i64 k), (10, .int .i64 (sel4 ((ix l i).k0) ((ix l i).k1) ((ix l i).k2) ((ix l i).k3) k)), (11, .pointer (some ⟨g5, 0, none⟩)), (20, va), (21, .int .i64 (l.length : Int)), (22, .int .i64 i), (31, .agg [.int .i64 ((ix l i).k0), .int .i64 ((ix l i).k1), .int .i64 ((ix l i).k2), .int .i64 ((ix l i).k3)].toArray), (32, .int .i64 k)]) (fun ((A, pA)) W => Below w.heap.size w W ∧ (A = if fX k then hf (ix l i).lv else 0) ∧ (Bd 42 A) ∧ (Gw.Own (Kd.span 83 n0) 72 w.heap.size W (fun _ => False) vo os) ∧ (vo.ownBlock ≠ some g1) ∧ (vo.ownBlock ≠ some g4) ∧ (Blk W g1 72 [.bool true, .bool false, .slice none 0 0, .bool false, .slice none 0 0, .bool (decide ((1 : Int) < 0)), v1, .bool (decide ((1 : Int) < 0)), v2].toArray) ∧ (Blk W g2 101 [.int .i64 ((ix l i).lv), .int .i64 ((ix l i).k0), .int .i64 ((ix l i).k1), .int .i64 ((ix l i).k2), .int .i64 ((ix l i).k3)].toArray) ∧ (Blk W g3 31 [.bool (decide ((hf (ix l i).lv) < 0)), v4].toArray) ∧ (Blk W g4 72 [.bool ((spK l (ix l i) k.toNat).some), .bool (decide ((spK l (ix l i) k.toNat).fx < 0)), afx, .bool (decide ((spK l (ix l i) k.toNat).fy < 0)), afy, .bool (decide ((spK l (ix l i) k.toNat).tx < 0)), atx, .bool (decide ((spK l (ix l i) k.toNat).ty < 0)), aty].toArray) ∧ (Blk W g5 70 [.bool (decide (A < 0)), pA, .bool false, .slice none 0 0].toArray) ∧ (Sl Kd.u32 W (G 83 n0 W) v1 (ml (1 : Int))) ∧ (Sl Kd.u32 W (G 83 n0 W) v2 (ml (1 : Int))) ∧ (Sl Kd.u32 W (G 83 n0 W) v4 (ml (hf (ix l i).lv))) ∧ (Sl Kd.u32 W (G 83 n0 W) afx (ml ((spK l (ix l i) k.toNat).fx))) ∧ (Sl Kd.u32 W (G 83 n0 W) afy (ml ((spK l (ix l i) k.toNat).fy))) ∧ (Sl Kd.u32 W (G 83 n0 W) atx (ml ((spK l (ix l i) k.toNat).tx))) ∧ (Sl Kd.u32 W (G 83 n0 W) aty (ml ((spK l (ix l i) k.toNat).ty))) ∧ (Sl Kd.u32 W (G 83 n0 W) pA (ml A))) ?_ ?_
  · refine w_seq (w_region (st (s_move rfl (st (s_andi rfl rfl (by omega) (by omega) (st (s_ne rfl rfl (r_end (n_then ?_)))))))))
    refine w_condP rfl (fun h3 => ?_) (fun h3 => ?_)
    rotate_left
    · refine w_skip' ?_
      exact n_meet ((0), (.slice none 0 0)) ⟨hb14, fX_no hk.1 (by omega) h3, (bd_zero 42), hO9, hnv, hn2, (honek.g0 k12), (hnk.g0 k12), (hhk.g0 k12), (hsk.g0 k12), hB8, (ho0k.gg0 k12), (ho1k.gg0 k12), (hhalf.gg0 k12), (hafx.gg0 k12), (hafy.gg0 k12), (hatx.gg0 k12), (haty.gg0 k12), (show Sl Kd.u32 _ (G 83 n0 _) (.slice none 0 0) (ml 0) by rw [ml_zero]; exact nilG)⟩ (by exact ⟨rfl, rfl, rfl, rfl, rfl, rfl, rfl, rfl, rfl, rfl, rfl, rfl, rfl, rfl, trivial⟩)
    refine w_region (st (s_loadW row31 rfl (hhk.g0 k12).range rfl (st (s_iaddr arr70 rfl rfl (by omega) (by omega) (st0 (s_storeP (o := 0) row31 rfl rfl hB8 (by simp only [List.all_cons, List.all_nil, hhalf.one, Bool.and_true, Bool.and_self] <;> rfl) rfl rfl (of_decide_eq_true rfl) ?_))))))
    intro w15 hB9 k13 hs9
    change Blk w15 g5 70 [.bool (decide ((hf (ix l i).lv) < 0)), v4, .bool false, .slice none 0 0].toArray at hB9
    have hb15 := below_g hb14 k13 (by first | omega | (have h9 := (hb14).size; omega))
    have hO10 := Own.keptG (span_gk 83 n0) hO9 k13 (Blk.isG hB8 (by decide) (by omega)) (hO9.neB hB8 (by decide))
    refine r_end ?_
    exact n_meet (((hf (ix l i).lv)), (v4)) ⟨hb15, fX_yes hk.1 (by omega) h3, (Bd.le (bd_hf hlv.2) (show 42 ≤ 42 by decide)), hO10, hnv, hn2, ((honek.g0 k12).gne k13 (by omega)), ((hnk.g0 k12).gne k13 (by omega)), ((hhk.g0 k12).gne k13 (by omega)), ((hsk.g0 k12).gne k13 (by omega)), hB9, ((ho0k.gg0 k12).ggB k13 hB8 (by decide) (by omega)), ((ho1k.gg0 k12).ggB k13 hB8 (by decide) (by omega)), ((hhalf.gg0 k12).ggB k13 hB8 (by decide) (by omega)), ((hafx.gg0 k12).ggB k13 hB8 (by decide) (by omega)), ((hafy.gg0 k12).ggB k13 hB8 (by decide) (by omega)), ((hatx.gg0 k12).ggB k13 hB8 (by decide) (by omega)), ((haty.gg0 k12).ggB k13 hB8 (by decide) (by omega)), ((hhalf.gg0 k12).ggB k13 hB8 (by decide) (by omega))⟩ (by exact ⟨rfl, rfl, rfl, rfl, rfl, rfl, rfl, rfl, rfl, rfl, rfl, rfl, rfl, rfl, trivial⟩)
  rintro ⟨A, pA⟩ w16 ⟨hb16, hA, hAb, hOxa, hnxa0, hnxa1, hbxa0, hbxa1, hbxa2, hbxa3, hbxa4, hsxa0_6, hsxa0_8, hsxa2_1, hsxa3_2, hsxa3_4, hsxa3_6, hsxa3_8, hsxa4_1⟩
  dsimp only at *
  have hz15 := hb16.size
  have hbxa0l := hbxa0.lt
  have hbxa1l := hbxa1.lt
  have hbxa2l := hbxa2.lt
  have hbxa3l := hbxa3.lt
  have hbxa4l := hbxa4.lt
  refine w_cut (α := Int × Value) (fun ((B, pB) : Int × Value) => [(2, .slice none 0 0), (3, .pointer (some ⟨g1, 0, none⟩)), (4, vo), (6, .pointer (some ⟨g2, 0, none⟩)), (7, .pointer (some ⟨g3, 0, none⟩)), (8, .pointer (some ⟨g4, 0, none⟩)), (10, .int .i64 (sel4 ((ix l i).k0) ((ix l i).k1) ((ix l i).k2) ((ix l i).k3) k)), (11, .pointer (some ⟨g5, 0, none⟩)), (20, va), (21, .int .i64 (l.length : Int)), (22, .int .i64 i), (31, .agg [.int .i64 ((ix l i).k0), .int .i64 ((ix l i).k1), .int .i64 ((ix l i).k2), .int .i64 ((ix l i).k3)].toArray), (32, .int .i64 k)]) (fun ((B, pB)) W => Below w.heap.size w W ∧ (B = if fY k then hf (ix l i).lv else 0) ∧ (Bd 42 B) ∧ (Gw.Own (Kd.span 83 n0) 72 w.heap.size W (fun _ => False) vo os) ∧ (vo.ownBlock ≠ some g1) ∧ (vo.ownBlock ≠ some g4) ∧ (Blk W g1 72 [.bool true, .bool false, .slice none 0 0, .bool false, .slice none 0 0, .bool (decide ((1 : Int) < 0)), v1, .bool (decide ((1 : Int) < 0)), v2].toArray) ∧ (Blk W g2 101 [.int .i64 ((ix l i).lv), .int .i64 ((ix l i).k0), .int .i64 ((ix l i).k1), .int .i64 ((ix l i).k2), .int .i64 ((ix l i).k3)].toArray) ∧ (Blk W g3 31 [.bool (decide ((hf (ix l i).lv) < 0)), v4].toArray) ∧ (Blk W g4 72 [.bool ((spK l (ix l i) k.toNat).some), .bool (decide ((spK l (ix l i) k.toNat).fx < 0)), afx, .bool (decide ((spK l (ix l i) k.toNat).fy < 0)), afy, .bool (decide ((spK l (ix l i) k.toNat).tx < 0)), atx, .bool (decide ((spK l (ix l i) k.toNat).ty < 0)), aty].toArray) ∧ (Blk W g5 70 [.bool (decide (A < 0)), pA, .bool (decide (B < 0)), pB].toArray) ∧ (Sl Kd.u32 W (G 83 n0 W) v1 (ml (1 : Int))) ∧ (Sl Kd.u32 W (G 83 n0 W) v2 (ml (1 : Int))) ∧ (Sl Kd.u32 W (G 83 n0 W) v4 (ml (hf (ix l i).lv))) ∧ (Sl Kd.u32 W (G 83 n0 W) afx (ml ((spK l (ix l i) k.toNat).fx))) ∧ (Sl Kd.u32 W (G 83 n0 W) afy (ml ((spK l (ix l i) k.toNat).fy))) ∧ (Sl Kd.u32 W (G 83 n0 W) atx (ml ((spK l (ix l i) k.toNat).tx))) ∧ (Sl Kd.u32 W (G 83 n0 W) aty (ml ((spK l (ix l i) k.toNat).ty))) ∧ (Sl Kd.u32 W (G 83 n0 W) pA (ml A)) ∧ (Sl Kd.u32 W (G 83 n0 W) pB (ml B))) ?_ ?_
  · refine w_seq (w_region (st (s_move rfl (st (s_andi rfl rfl (by omega) (by omega) (st (s_ne rfl rfl (r_end (n_then ?_)))))))))
    refine w_condP rfl (fun h4 => ?_) (fun h4 => ?_)
    rotate_left
    · refine w_skip' ?_
      exact n_meet ((0), (.slice none 0 0)) ⟨hb16, fY_no hk.1 (by omega) h4, (bd_zero 42), hOxa, hnxa0, hnxa1, hbxa0, hbxa1, hbxa2, hbxa3, hbxa4, hsxa0_6, hsxa0_8, hsxa2_1, hsxa3_2, hsxa3_4, hsxa3_6, hsxa3_8, hsxa4_1, (show Sl Kd.u32 _ (G 83 n0 _) (.slice none 0 0) (ml 0) by rw [ml_zero]; exact nilG)⟩ (by exact ⟨rfl, rfl, rfl, rfl, rfl, rfl, rfl, rfl, rfl, rfl, rfl, rfl, rfl, trivial⟩)
    refine w_region (st (s_loadW row31 rfl hbxa2.range rfl (st (s_iaddr arr70 rfl rfl (by omega) (by omega) (st0 (s_storeP (o := 2) row31 rfl rfl hbxa4 (by simp only [List.all_cons, List.all_nil, hsxa2_1.one, Bool.and_true, Bool.and_self] <;> rfl) rfl rfl (of_decide_eq_true rfl) ?_))))))
    intro w17 hB10 k14 hs10
    change Blk w17 g5 70 [.bool (decide (A < 0)), pA, .bool (decide ((hf (ix l i).lv) < 0)), v4].toArray at hB10
    have hb17 := below_g hb16 k14 (by first | omega | (have h9 := (hb16).size; omega))
    have hO11 := Own.keptG (span_gk 83 n0) hOxa k14 (Blk.isG hbxa4 (by decide) (by omega)) (hOxa.neB hbxa4 (by decide))
    refine r_end ?_
    exact n_meet (((hf (ix l i).lv)), (v4)) ⟨hb17, fY_yes hk.1 (by omega) h4, (Bd.le (bd_hf hlv.2) (show 42 ≤ 42 by decide)), hO11, hnxa0, hnxa1, (hbxa0.gne k14 (by omega)), (hbxa1.gne k14 (by omega)), (hbxa2.gne k14 (by omega)), (hbxa3.gne k14 (by omega)), hB10, (hsxa0_6.ggB k14 hbxa4 (by decide) (by omega)), (hsxa0_8.ggB k14 hbxa4 (by decide) (by omega)), (hsxa2_1.ggB k14 hbxa4 (by decide) (by omega)), (hsxa3_2.ggB k14 hbxa4 (by decide) (by omega)), (hsxa3_4.ggB k14 hbxa4 (by decide) (by omega)), (hsxa3_6.ggB k14 hbxa4 (by decide) (by omega)), (hsxa3_8.ggB k14 hbxa4 (by decide) (by omega)), (hsxa4_1.ggB k14 hbxa4 (by decide) (by omega)), (hsxa2_1.ggB k14 hbxa4 (by decide) (by omega))⟩ (by exact ⟨rfl, rfl, rfl, rfl, rfl, rfl, rfl, rfl, rfl, rfl, rfl, rfl, rfl, trivial⟩)
  rintro ⟨B, pB⟩ w18 ⟨hb18, hB, hBb, hOyb, hnyb0, hnyb1, hbyb0, hbyb1, hbyb2, hbyb3, hbyb4, hsyb0_6, hsyb0_8, hsyb2_1, hsyb3_2, hsyb3_4, hsyb3_6, hsyb3_8, hsyb4_1, hsyb4_3⟩
  dsimp only at *
  have hz16 := hb18.size
  have hbyb0l := hbyb0.lt
  have hbyb1l := hbyb1.lt
  have hbyb2l := hbyb2.lt
  have hbyb3l := hbyb3.lt
  have hbyb4l := hbyb4.lt
  refine w_block (w_seq (w_region (st (s_faddr fld101_0 rfl (st (s_load one3 rfl hbyb1.range (j := 0) rfl (st (s_gt rfl rfl (st (s_assign rfl ?_))))))))))
  refine r_end (n_then ?_)
  refine w_condP rfl (fun h5 => ?_) (fun h5 => ?_)
  rotate_left
  · refine w_seq (w_region (st (s_move rfl (st (s_gt rfl rfl (st (s_assign rfl (r_end (n_then ?_)))))))))
    refine w_condP rfl (fun h6 => ?_) (fun h6 => ?_)
    rotate_left
    · have hk1 := kid1_in hl_ok hi.1 hlt hk.1 (by omega) (by omega)
      refine w_skip' (n_block (n_block (n_then (w_region (st (s_add rfl rfl (by omega) (st (s_move rfl ?_))))))))
      refine r_end ?_
      exact n_round (((k + 1)), (afx), (afy), (atx), (aty)) ⟨hb18, by omega, hOyb, hbyb0, hsyb0_6, hsyb0_8, hbyb1, hbyb2, hsyb2_1, (by rw [← spK_noneI hk.1 (by omega) (by show sel4 _ _ _ _ _ = 0; have := hk1; unfold Nd.kid at this; omega)]; exact hbyb3), (by rw [← spK_noneI hk.1 (by omega) (by show sel4 _ _ _ _ _ = 0; have := hk1; unfold Nd.kid at this; omega)]; exact hsyb3_2), (by rw [← spK_noneI hk.1 (by omega) (by show sel4 _ _ _ _ _ = 0; have := hk1; unfold Nd.kid at this; omega)]; exact hsyb3_4), (by rw [← spK_noneI hk.1 (by omega) (by show sel4 _ _ _ _ _ = 0; have := hk1; unfold Nd.kid at this; omega)]; exact hsyb3_6), (by rw [← spK_noneI hk.1 (by omega) (by show sel4 _ _ _ _ _ = 0; have := hk1; unfold Nd.kid at this; omega)]; exact hsyb3_8)⟩ (by dsimp only; omega) (by exact ⟨rfl, rfl, rfl, rfl, rfl, rfl, rfl, rfl, rfl, rfl, rfl, trivial⟩)
    refine w_region (st (s_loadW row72 rfl hbyb0.range rfl (st (s_loadW row70 rfl hbyb4.range rfl (st (s_call fn75 rfl (join_any (s := (spK l (ix l i) k.toNat)) (t := (⟨true, 0, 0, 1, 1⟩ : Spn)) (a := A) (b := B) hn0 hb18 (by omega) hsyb3_2 hsyb3_4 hsyb3_6 hsyb3_8 (show Sl Kd.u32 _ (G 83 n0 _) (.slice none 0 0) (ml 0) by rw [ml_zero]; exact nilG) (show Sl Kd.u32 _ (G 83 n0 _) (.slice none 0 0) (ml 0) by rw [ml_zero]; exact nilG) hsyb0_6 hsyb0_8 hbyb3 hsyb4_1 hsyb4_3 (spK_bd hl_ok hi.1 hlt k.toNat (by omega)) one_bd (Bd.le hAb (show 42 ≤ 43 by decide)) (Bd.le hBb (show 42 ≤ 43 by decide))) ?_))))))
    rintro _ w27 ⟨rfl, k23, v10, v11, v12, v13, hB12, hS8, hS9, hS10, hS11⟩
    rw [show joinS (spK l (ix l i) k.toNat) (⟨true, 0, 0, 1, 1⟩ : Spn) A B = (spK l (ix l i) (k + 1).toNat) from spK_leafI hk.1 (by omega) (by show sel4 _ _ _ _ _ ≠ 0; omega) hA hB] at hB12 hS8 hS9 hS10 hS11
    have hz19 := k23.size
    have hb27 := below_g hb18 k23 (by first | omega | (have h9 := (hb18).size; omega))
    have hz20 := hb27.size
    have hO20 := Own.keptG (span_gk 83 n0) hOyb k23 (Blk.isG hbyb3 (by decide) (by omega)) hnyb1
    refine r_end (n_block (n_block (n_then (w_region (st (s_add rfl rfl (by omega) (st (s_move rfl ?_))))))))
    refine r_end ?_
    exact n_round (((k + 1)), (v10), (v11), (v12), (v13)) ⟨hb27, by omega, hO20, (hbyb0.gne k23 (by omega)), (hsyb0_6.ggB k23 hbyb3 (by decide) (by omega)), (hsyb0_8.ggB k23 hbyb3 (by decide) (by omega)), (hbyb1.gne k23 (by omega)), (hbyb2.gne k23 (by omega)), (hsyb2_1.ggB k23 hbyb3 (by decide) (by omega)), hB12, hS8, hS9, hS10, hS11⟩ (by dsimp only; omega) (by exact ⟨rfl, rfl, rfl, rfl, rfl, rfl, rfl, rfl, rfl, rfl, rfl, trivial⟩)
  have hkr := kid_rng hl_ok hi.1 hlt (by omega) k hk.1 (by omega)
  have hkr0 : 0 ≤ sel4 (ix l i).k0 (ix l i).k1 (ix l i).k2 (ix l i).k3 k ∧ sel4 (ix l i).k0 (ix l i).k1 (ix l i).k2 (ix l i).k3 k ≤ i := hkr
  obtain ⟨b2, o2, _, hat1, ⟨sp1, sp2, sp3, sp4, rfl, hsp1, hsp2, hsp3, hsp4⟩, hc2, hF2, hlt2⟩ := hOyb.sl.elem (sel4 ((ix l i).k0) ((ix l i).k1) ((ix l i).k2) ((ix l i).k3) k) (by omega) (by omega)
  replace hsp1 := hsp1.ofGF
  replace hsp2 := hsp2.ofGF
  replace hsp3 := hsp3.ofGF
  replace hsp4 := hsp4.ofGF
  refine w_drawT 5 (fun a b => a.grownBy b none) [(some 50, Is <| vo), (some 51, Is <| .int .i64 (sel4 ((ix l i).k0) ((ix l i).k1) ((ix l i).k2) ((ix l i).k3) k)), (some 52, Is <| .pointer (some ⟨b2, o2, none⟩)), (some 53, Is <| .agg [.bool ((ix os (sel4 ((ix l i).k0) ((ix l i).k1) ((ix l i).k2) ((ix l i).k3) k)).some), .bool (decide ((ix os (sel4 ((ix l i).k0) ((ix l i).k1) ((ix l i).k2) ((ix l i).k3) k)).fx < 0)), sp1, .bool (decide ((ix os (sel4 ((ix l i).k0) ((ix l i).k1) ((ix l i).k2) ((ix l i).k3) k)).fy < 0)), sp2, .bool (decide ((ix os (sel4 ((ix l i).k0) ((ix l i).k1) ((ix l i).k2) ((ix l i).k3) k)).tx < 0)), sp3, .bool (decide ((ix os (sel4 ((ix l i).k0) ((ix l i).k1) ((ix l i).k2) ((ix l i).k3) k)).ty < 0)), sp4].toArray), (some 54, Is <| .agg [.bool (decide (A < 0)), pA, .bool (decide (B < 0)), pB].toArray)] [[], [], [0, 1], [2], []] [(2, .slice none 0 0), (3, .pointer (some ⟨g1, 0, none⟩)), (4, vo), (6, .pointer (some ⟨g2, 0, none⟩)), (7, .pointer (some ⟨g3, 0, none⟩)), (8, .pointer (some ⟨g4, 0, none⟩)), (10, .int .i64 (sel4 ((ix l i).k0) ((ix l i).k1) ((ix l i).k2) ((ix l i).k3) k)), (11, .pointer (some ⟨g5, 0, none⟩)), (20, va), (21, .int .i64 (l.length : Int)), (22, .int .i64 i), (31, .agg [.int .i64 ((ix l i).k0), .int .i64 ((ix l i).k1), .int .i64 ((ix l i).k2), .int .i64 ((ix l i).k3)].toArray), (32, .int .i64 k)] (by exact ⟨rfl, rfl, rfl, rfl, rfl, rfl, rfl, rfl, rfl, rfl, rfl, rfl, rfl, trivial⟩) (by kernel_rfl) (by kernel_rfl) grown_none_refl (fun _ _ _ => grown_none_trans) ⟨kv, kv, kv, kv, kv, trivial⟩ ?_
  intro w19 k15 hs11
  have hb19 := below_g0 hb18 k15
  have hO12 := hOyb.g0 k15
  refine ⟨⟨?_, ?_, ?_, ?_, ?_, trivial⟩, ?_⟩
  · intro w20 k16
    refine op1 (s_move rfl ?_)
    exact ⟨rfl, grown_none_refl _⟩
  · intro w21 k17
    refine op1 (s_move rfl ?_)
    exact ⟨rfl, grown_none_refl _⟩
  · intro w22 k18
    intro v_ hv_; subst v_
    rintro _ rfl
    refine op1 (s_idxat sl73 rfl rfl hat1 ?_)
    exact ⟨rfl, grown_none_refl _⟩
  · intro w23 k19
    rintro _ rfl
    refine op1 (s_loadW row72 rfl (range_g0 (range_g0 hc2 k15) k19) rfl ?_)
    exact ⟨rfl, grown_none_refl _⟩
  · intro w24 k20
    refine op1 (s_loadW row70 rfl ((hbyb4.g0 k15).g0 k20).range rfl ?_)
    exact ⟨rfl, grown_none_refl _⟩
  intro w25 k21
  have hb25 := below_g0 hb19 k21
  have hO18 := hO12.g0 k21
  intro v_ hv_; subst v_
  rintro _ rfl _ rfl _ rfl _ rfl
  refine st (s_call fn75 rfl (join_any (s := (spK l (ix l i) k.toNat)) (t := (ix os (sel4 ((ix l i).k0) ((ix l i).k1) ((ix l i).k2) ((ix l i).k3) k))) (a := A) (b := B) hn0 hb25 (by omega) ((hsyb3_2.gg0 k15).gg0 k21) ((hsyb3_4.gg0 k15).gg0 k21) ((hsyb3_6.gg0 k15).gg0 k21) ((hsyb3_8.gg0 k15).gg0 k21) ((hsp1.gg0 k15).gg0 k21) ((hsp2.gg0 k15).gg0 k21) ((hsp3.gg0 k15).gg0 k21) ((hsp4.gg0 k15).gg0 k21) ((hbyb3.g0 k15).g0 k21) ((hsyb4_1.gg0 k15).gg0 k21) ((hsyb4_3.gg0 k15).gg0 k21) (spK_bd hl_ok hi.1 hlt k.toNat (by omega)) (by rw [hos _ hkr0.1 hkr0.2]; exact spn_bd hl_ok hkr0.1 (by omega)) (Bd.le hAb (show 42 ≤ 43 by decide)) (Bd.le hBb (show 42 ≤ 43 by decide))) ?_)
  rintro _ w26 ⟨rfl, k22, v6, v7, v8, v9, hB11, hS4, hS5, hS6, hS7⟩
  rw [show joinS (spK l (ix l i) k.toNat) (ix os (sel4 ((ix l i).k0) ((ix l i).k1) ((ix l i).k2) ((ix l i).k3) k)) A B = (spK l (ix l i) (k + 1).toNat) from spK_ndI hk.1 (by omega) hA hB (hos _ hkr0.1 hkr0.2)] at hB11 hS4 hS5 hS6 hS7
  have hz17 := k22.size
  have hb26 := below_g hb25 k22 (by first | omega | (have h9 := (hb25).size; omega))
  have hz18 := hb26.size
  have hO19 := Own.keptG (span_gk 83 n0) hO18 k22 (Blk.isG ((hbyb3.g0 k15).g0 k21) (by decide) (by omega)) hnyb1
  refine r_end (n_block (n_block (n_then (w_region (st (s_add rfl rfl (by omega) (st (s_move rfl ?_))))))))
  refine r_end ?_
  exact n_round (((k + 1)), (v6), (v7), (v8), (v9)) ⟨hb26, by omega, hO19, (((hbyb0.g0 k15).g0 k21).gne k22 (by omega)), (((hsyb0_6.gg0 k15).gg0 k21).ggB k22 ((hbyb3.g0 k15).g0 k21) (by decide) (by omega)), (((hsyb0_8.gg0 k15).gg0 k21).ggB k22 ((hbyb3.g0 k15).g0 k21) (by decide) (by omega)), (((hbyb1.g0 k15).g0 k21).gne k22 (by omega)), (((hbyb2.g0 k15).g0 k21).gne k22 (by omega)), (((hsyb2_1.gg0 k15).gg0 k21).ggB k22 ((hbyb3.g0 k15).g0 k21) (by decide) (by omega)), hB11, hS4, hS5, hS6, hS7⟩ (by dsimp only; omega) (by exact ⟨rfl, rfl, rfl, rfl, rfl, rfl, rfl, rfl, rfl, rfl, rfl, trivial⟩)
end Go.Proofs.Ytfljelnfjbbknaa.Lm

set_option maxRecDepth 20000
set_option linter.unusedSimpArgs false
set_option linter.unusedVariables false
namespace Go.Proofs.Ytfljelnfjbbknaa.Lm
open Go.RowKit Go.Gw
set_option maxHeartbeats 1000000 in
theorem bof_any {w : World} {F : Nat → Prop} {va : Value} {l : List Nd} {n0 : Nat} (hn0 : n0 ≤ w.heap.size) (hl : Sl Kd.node w F va l) (hl_ok : looseB l = true) (hll : l.length ≤ 100000) :
    Calls Try.prog 12 [.agg [va].toArray].toArray w (Pure w fun r W => ∃ v, r = .tuple #[v, .bool (bxs l).some] ∧ IsBox 83 n0 W v (bxOf l)) := by
  have hb0 := Below.refl w.heap.size w
  have hsl9 := spansL_len l
  refine enter Try.func12 rfl rfl (w_seq (w_region (st (s_box rfl ?_))))
  intro g1 w1 hg1 hB1 k1 hs1
  change Blk w1 g1 25 [va].toArray at hB1
  have hb1 := below_g0 hb0 k1
  have hlt_1 := (hB1).lt
  refine st (s_alloc zero33 ?_)
  intro g2 w2 hg2 hB2 k2 hs2
  have hz1 := hb1.size
  have hb2 := below_g0 hb1 k2
  refine st (s_assign rfl (r_end (n_then (w_seq ?_))))
  have hlt_4 := ((hB1.g0 k2)).lt
  have hlt_5 := (hB2).lt
  refine w_draw 9 (fun a b => a.grownBy b none) [(some 6, Is <| .pointer (some ⟨g1, 0 + 0, none⟩)), (some 7, fun v _ => Sl Kd.node w F v l), (some 8, fun v W => Gw.Own (Kd.span 83 n0) 72 w.heap.size W (fun _ => False) v (spansL l)), (some 9, Is <| .pointer (some ⟨g1, 0 + 0, none⟩)), (some 10, fun v _ => Sl Kd.node w F v l), (some 11, Is <| .int .i64 (l.length : Int)), (some 12, fun p W => IsEl (Kd.span 83 n0) W (fun _ => False) p (ix (spansL l) (l.length : Int))), (some 13, fun v W => ∃ sp1 sp2 sp3 sp4 : Value, v = .agg [.bool ((ix (spansL l) (l.length : Int)).some), .bool (decide ((ix (spansL l) (l.length : Int)).fx < 0)), sp1, .bool (decide ((ix (spansL l) (l.length : Int)).fy < 0)), sp2, .bool (decide ((ix (spansL l) (l.length : Int)).tx < 0)), sp3, .bool (decide ((ix (spansL l) (l.length : Int)).ty < 0)), sp4].toArray ∧ Sl Kd.u32 W (G 83 n0 W) sp1 (ml ((ix (spansL l) (l.length : Int)).fx)) ∧ Sl Kd.u32 W (G 83 n0 W) sp2 (ml ((ix (spansL l) (l.length : Int)).fy)) ∧ Sl Kd.u32 W (G 83 n0 W) sp3 (ml ((ix (spansL l) (l.length : Int)).tx)) ∧ Sl Kd.u32 W (G 83 n0 W) sp4 (ml ((ix (spansL l) (l.length : Int)).ty))), (some 4, fun v W => ∃ g, v = .pointer (some ⟨g, 0, none⟩) ∧ Blk W g 72 #[.bool false, .bool false, .slice none 0 0, .bool false, .slice none 0 0, .bool false, .slice none 0 0, .bool false, .slice none 0 0] ∧ w2.heap.size ≤ g)] [[], [0], [1], [], [3], [4], [2, 5], [6], []] [(1, .pointer (some ⟨g1, 0, none⟩)), (2, .pointer (some ⟨g2, 0, none⟩)), (3, .bool false)] (by exact ⟨rfl, rfl, rfl, trivial⟩) (by kernel_rfl) (by kernel_rfl) grown_none_refl (fun _ _ _ => grown_none_trans) ⟨kv, fun _ _ _ h _ => h, fun _ _ _ h k => h.g0 k, kv, fun _ _ _ h _ => h, kv, fun _ _ _ h k => h.g0 k, fun _ _ _ h k => by obtain ⟨sp1, sp2, sp3, sp4, e, h0, h1, h2, h3⟩ := h; exact ⟨sp1, sp2, sp3, sp4, e, h0.gg0 k, h1.gg0 k, h2.gg0 k, h3.gg0 k⟩, fun _ _ _ h k => by obtain ⟨g, e, hB, hg⟩ := h; exact ⟨g, e, hB.g0 k, hg⟩, trivial⟩ ?_
  intro w5 k5 hs4
  have hb3 := below_g0 hb2 k5
  refine ⟨⟨?_, ?_, ?_, ?_, ?_, ?_, ?_, ?_, ?_, trivial⟩, ?_⟩
  · intro w6 k6
    refine op1 (s_faddr fld25_0 rfl ?_)
    exact ⟨rfl, grown_none_refl _⟩
  · intro w7 k7
    rintro _ rfl
    refine op1 (s_load one22 rfl (((hB1.g0 k2).g0 k5).g0 k7).range (j := 0) rfl ?_)
    exact ⟨hl, grown_none_refl _⟩
  · intro w8 k8
    have hb6 := below_g0 hb3 k8
    intro v2 hS1
    refine op1 (s_call fn41 rfl (spans_any (n0 := n0) (below_n0 hn0 hb6) (hS1.at0 hb6) hl_ok (by omega)) ?_)
    rintro v3 w9 ⟨hq2, hO3⟩
    have k9 := grown_of_below hq2 none
    have hz2 := hq2.size
    have hb7 := below_g0 hb6 k9
    have hz3 := hb7.size
    have hO3_ := hO3
    have hO4 := hO3_.rebase (b' := w.heap.size) hb6.size
    exact ⟨hO4, k9⟩
  · intro w10 k10
    refine op1 (s_faddr fld25_0 rfl ?_)
    exact ⟨rfl, grown_none_refl _⟩
  · intro w11 k11
    rintro _ rfl
    refine op1 (s_load one22 rfl (((hB1.g0 k2).g0 k5).g0 k11).range (j := 0) rfl ?_)
    exact ⟨hl, grown_none_refl _⟩
  · intro w12 k12
    have hb10 := below_g0 hb3 k12
    intro v4 hS2
    refine op1 (s_len sl22 rfl (hS2.at0 hb10) ?_)
    exact ⟨rfl, grown_none_refl _⟩
  · intro w13 k13
    rintro v5 hO5 _ rfl
    refine op1 (s_idxE sl73 rfl rfl hO5.sl (by omega) (by omega) ?_)
    intro p2 hp2
    exact ⟨hp2, grown_none_refl _⟩
  · intro w14 k14
    rintro _ ⟨b3, o3, _, rfl, hlt3, ⟨sp5, sp6, sp7, sp8, rfl, hsp5, hsp6, hsp7, hsp8⟩, hc3⟩
    replace hsp5 := hsp5.ofGF
    replace hsp6 := hsp6.ofGF
    replace hsp7 := hsp7.ofGF
    replace hsp8 := hsp8.ofGF
    refine op1 (s_loadW row72 rfl hc3 rfl ?_)
    exact ⟨⟨_, _, _, _, rfl, hsp5, hsp6, hsp7, hsp8⟩, grown_none_refl _⟩
  · intro w15 k15
    have hb13 := below_g0 hb3 k15
    have hlt_6 := ((((hB1.g0 k2).g0 k5).g0 k15)).lt
    have hlt_7 := (((hB2.g0 k5).g0 k15)).lt
    refine op1 (s_alloc zero72 ?_)
    intro g4 w16 hg4 hB4 k16 hs5
    have hz4 := hb13.size
    exact ⟨⟨_, rfl, hB4, by have h0_ := k5.size; have h1_ := k15.size; have h2_ := k16.size; omega⟩, k16⟩
  intro w17 k17
  have hb15 := below_g0 hb3 k17
  rintro _ rfl v6 hS3 v7 hO6 _ rfl v8 hS4 _ rfl _ ⟨b4, o4, _, rfl, hlt4, ⟨sp9, sp10, sp11, sp12, rfl, hsp9, hsp10, hsp11, hsp12⟩, hc4⟩
  replace hsp9 := hsp9.ofGF
  replace hsp10 := hsp10.ofGF
  replace hsp11 := hsp11.ofGF
  replace hsp12 := hsp12.ofGF
  rintro _ ⟨v9, v10, v11, v12, rfl, hS5, hS6, hS7, hS8⟩ _ ⟨g5, rfl, hB5, hg5⟩
  have hlt_8 := hB5.lt
  refine st0 (s_storeN row72 rfl rfl hB5 (by simp only [List.all_cons, List.all_nil, hS5.one, hS6.one, hS7.one, hS8.one, Bool.and_true, Bool.and_self] <;> rfl) rfl rfl ?_)
  intro w18 hB6 k18 hs6
  have hb16 := below_g hb15 k18 (by first | omega | (have h9 := (hb15).size; omega))
  refine r_end (n_then (w_seq (w_seq (w_region (st (s_faddr fld72_0 rfl (st (s_load one4 rfl hB6.range (j := 0) rfl ?_))))))))
  refine st (s_not rfl (r_end (n_then ?_)))
  refine w_cond rfl (fun h1 => ?_) (fun h1 => ?_)
  · have hsm_ : (bxs l).some = false := by rw [← spansL_last]; simpa using h1
    refine w_seq (w_region (st (s_build (ps := []) (ccs := []) (cells := [.bool false, .slice none 0 0, .bool false, .slice none 0 0, .bool false, .slice none 0 0, .bool false, .slice none 0 0]) rfl rfl (by kernel_rfl) (st0 (s_storeN row33 rfl rfl (((hB2.g0 k5).g0 k17).gne k18 (by omega)) rfl rfl rfl ?_)))))
    intro w19 hB7 k19 hs7
    have hb17 := below_g hb16 k19 (by first | omega | (have h9 := (hb16).size; omega))
    refine st (s_assign rfl (r_end (n_then (w_retc2 rfl row33 rfl rfl hB7.range rfl ?_))))
    refine ⟨_, rfl, hb17, ?_⟩
    rw [hsm_, bxOf_no hsm_]
    exact ⟨_, rfl, _, _, _, _, rfl, (show Sl Kd.u32 _ (G 83 n0 _) (.slice none 0 0) (ml 0) by rw [ml_zero]; exact nilG), (show Sl Kd.u32 _ (G 83 n0 _) (.slice none 0 0) (ml 0) by rw [ml_zero]; exact nilG), (show Sl Kd.u32 _ (G 83 n0 _) (.slice none 0 0) (ml 0) by rw [ml_zero]; exact nilG), (show Sl Kd.u32 _ (G 83 n0 _) (.slice none 0 0) (ml 0) by rw [ml_zero]; exact nilG)⟩
  have hsm_ : (bxs l).some = true := by rw [← spansL_last]; simpa using h1
  have hlv := level_of hl_ok (bxs_some hsm_)
  refine w_skip' (n_then (w_seq (w_region (st (s_loadW row25 rfl ((((hB1.g0 k2).g0 k5).g0 k17).gne k18 (by omega)).range rfl (st (s_call fn43 rfl (Nd.level_any (hl.at0 hb16)) ?_)))))))
  rintro _ w20 ⟨hq3, rfl⟩
  have k20 := grown_of_below hq3 none
  have hz5 := hq3.size
  have hb18 := below_g0 hb16 k20
  have hz6 := hb18.size
  refine st (s_sub rfl rfl (by omega) (st (s_call fn42 rfl (bpow_any (n0 := n0) (below_n0 hn0 hb18)) ?_)))
  rintro v14 w21 ⟨hq4, hv1⟩
  rw [show (shlN 1 ((levelN l) - 1)) = (hf (levelN l)) from (shl_hf hlv)] at hv1
  obtain ⟨v13, rfl, hS9⟩ := hv1
  have k21 := grown_of_below hq4 none
  have hz7 := hq4.size
  have hb19 := below_g0 hb18 k21
  have hz8 := hb19.size
  have hlt_9 := (((((((hB1.g0 k2).g0 k5).g0 k17).gne k18 (by omega)).g0 k20).g0 k21)).lt
  have hlt_10 := ((((((hB2.g0 k5).g0 k17).gne k18 (by omega)).g0 k20).g0 k21)).lt
  have hlt_11 := (((hB6.g0 k20).g0 k21)).lt
  refine st (s_alloc zero31 ?_)
  intro g6 w22 hg6 hB8 k22 hs8
  have hz9 := hb19.size
  have hb20 := below_g0 hb19 k22
  refine st0 (s_storeN row31 rfl rfl hB8 (by simp only [List.all_cons, List.all_nil, hS9.one, Bool.and_true, Bool.and_self] <;> rfl) rfl rfl ?_)
  intro w23 hB9 k23 hs9
  have hb21 := below_g hb20 k23 (by first | omega | (have h9 := (hb20).size; omega))
  refine r_end (n_then (w_seq ?_))
  refine w_draw 25 (fun a b => a.grownBy b none) [(some 22, Is <| .pointer (some ⟨g5, 0 + 1, none⟩)), (some 23, Is <| .pointer (some ⟨g5, 0 + 1 + (0 : Int).toNat * 2, none⟩)), (some 24, Is <| .agg [.bool (decide ((ix (spansL l) (l.length : Int)).fx < 0)), v9].toArray), (some 25, Is <| .agg [.bool (decide ((hf (levelN l)) < 0)), v13].toArray), (some 26, fun v W => IsBig 83 n0 W v ((((ix (spansL l) (l.length : Int)).fx) - (hf (levelN l))))), (some 27, Is <| .pointer (some ⟨g5, 0 + 1, none⟩)), (some 28, Is <| .pointer (some ⟨g5, 0 + 1 + (1 : Int).toNat * 2, none⟩)), (some 29, Is <| .agg [.bool (decide ((ix (spansL l) (l.length : Int)).fy < 0)), v10].toArray), (some 30, Is <| .agg [.bool (decide ((hf (levelN l)) < 0)), v13].toArray), (some 31, fun v W => IsBig 83 n0 W v ((((ix (spansL l) (l.length : Int)).fy) - (hf (levelN l))))), (some 32, Is <| .pointer (some ⟨g5, 0 + 5, none⟩)), (some 33, Is <| .pointer (some ⟨g5, 0 + 5 + (0 : Int).toNat * 2, none⟩)), (some 34, Is <| .agg [.bool (decide ((ix (spansL l) (l.length : Int)).tx < 0)), v11].toArray), (some 35, Is <| .pointer (some ⟨g5, 0 + 1, none⟩)), (some 36, Is <| .pointer (some ⟨g5, 0 + 1 + (0 : Int).toNat * 2, none⟩)), (some 37, Is <| .agg [.bool (decide ((ix (spansL l) (l.length : Int)).fx < 0)), v9].toArray), (some 38, fun v W => IsBig 83 n0 W v ((((ix (spansL l) (l.length : Int)).tx) - ((ix (spansL l) (l.length : Int)).fx)))), (some 39, Is <| .pointer (some ⟨g5, 0 + 5, none⟩)), (some 40, Is <| .pointer (some ⟨g5, 0 + 5 + (1 : Int).toNat * 2, none⟩)), (some 41, Is <| .agg [.bool (decide ((ix (spansL l) (l.length : Int)).ty < 0)), v12].toArray), (some 42, Is <| .pointer (some ⟨g5, 0 + 1, none⟩)), (some 43, Is <| .pointer (some ⟨g5, 0 + 1 + (1 : Int).toNat * 2, none⟩)), (some 44, Is <| .agg [.bool (decide ((ix (spansL l) (l.length : Int)).fy < 0)), v10].toArray), (some 45, fun v W => IsBig 83 n0 W v ((((ix (spansL l) (l.length : Int)).ty) - ((ix (spansL l) (l.length : Int)).fy)))), (some 46, fun v W => ∃ v15 v16 v17 v18 : Value, v = .agg [.bool (decide ((((ix (spansL l) (l.length : Int)).fx) - (hf (levelN l))) < 0)), v15, .bool (decide ((((ix (spansL l) (l.length : Int)).fy) - (hf (levelN l))) < 0)), v16, .bool (decide ((((ix (spansL l) (l.length : Int)).tx) - ((ix (spansL l) (l.length : Int)).fx)) < 0)), v17, .bool (decide ((((ix (spansL l) (l.length : Int)).ty) - ((ix (spansL l) (l.length : Int)).fy)) < 0)), v18].toArray ∧ Sl Kd.u32 W (G 83 n0 W) v15 (ml (((ix (spansL l) (l.length : Int)).fx) - (hf (levelN l)))) ∧ Sl Kd.u32 W (G 83 n0 W) v16 (ml (((ix (spansL l) (l.length : Int)).fy) - (hf (levelN l)))) ∧ Sl Kd.u32 W (G 83 n0 W) v17 (ml (((ix (spansL l) (l.length : Int)).tx) - ((ix (spansL l) (l.length : Int)).fx))) ∧ Sl Kd.u32 W (G 83 n0 W) v18 (ml (((ix (spansL l) (l.length : Int)).ty) - ((ix (spansL l) (l.length : Int)).fy))))] [[], [0], [1], [], [2, 3], [], [5], [6], [], [7, 8], [], [10], [11], [], [13], [14], [12, 15], [], [17], [18], [], [20], [21], [19, 22], [4, 9, 16, 23]] [(2, .pointer (some ⟨g2, 0, none⟩)), (3, .bool false), (4, .pointer (some ⟨g5, 0, none⟩)), (5, .pointer (some ⟨g6, 0, none⟩))] (by exact ⟨rfl, rfl, rfl, rfl, trivial⟩) (by kernel_rfl) (by kernel_rfl) grown_none_refl (fun _ _ _ => grown_none_trans) ⟨kv, kv, kv, kv, fun _ _ _ h k => h.g0 k, kv, kv, kv, kv, fun _ _ _ h k => h.g0 k, kv, kv, kv, kv, kv, kv, fun _ _ _ h k => h.g0 k, kv, kv, kv, kv, kv, kv, fun _ _ _ h k => h.g0 k, fun _ _ _ h k => by obtain ⟨v15, v16, v17, v18, e, h0, h1, h2, h3⟩ := h; exact ⟨v15, v16, v17, v18, e, h0.gg0 k, h1.gg0 k, h2.gg0 k, h3.gg0 k⟩, trivial⟩ ?_
  intro w28 k28 hs10
  have hb22 := below_g0 hb21 k28
  refine ⟨⟨?_, ?_, ?_, ?_, ?_, ?_, ?_, ?_, ?_, ?_, ?_, ?_, ?_, ?_, ?_, ?_, ?_, ?_, ?_, ?_, ?_, ?_, ?_, ?_, ?_, trivial⟩, ?_⟩
  · intro w29 k29
    refine op1 (s_faddr fld72_1 rfl ?_)
    exact ⟨rfl, grown_none_refl _⟩
  · intro w30 k30
    rintro _ rfl
    refine op1 (s_iaddr arr70 rfl rfl (by omega) (by omega) ?_)
    exact ⟨rfl, grown_none_refl _⟩
  · intro w31 k31
    rintro _ rfl
    refine op1 (s_loadN (us := [.bool (decide ((ix (spansL l) (l.length : Int)).fx < 0)), v9]) row31 rfl ((((((hB6.g0 k20).g0 k21).g0 k22).gne k23 (by omega)).g0 k28).g0 k31).range (j := 1) rfl rfl ?_)
    exact ⟨rfl, grown_none_refl _⟩
  · intro w32 k32
    refine op1 (s_loadW row31 rfl ((hB9.g0 k28).g0 k32).range rfl ?_)
    exact ⟨rfl, grown_none_refl _⟩
  · intro w33 k33
    have hb27 := below_g0 hb22 k33
    rintro _ rfl _ rfl
    refine op1 (s_call fn44 rfl (bsub_any (n0 := n0) (below_n0 hn0 hb27) (big_of rfl (((((((hS5.ggB k18 hB5 (by decide) (by omega)).gg0 k20).gg0 k21).gg0 k22).ggB k23 hB8 (by decide) (by omega)).gg0 k28).gg0 k33)) (big_of rfl ((((hS9.gg0 k22).ggB k23 hB8 (by decide) (by omega)).gg0 k28).gg0 k33)) (Bd.le (by rw [spansL_last]; exact (bxs_bd hl_ok).fx) (show 43 ≤ 90000 by decide)) (Bd.le (bd_hf hlv.2) (show 42 ≤ 90000 by decide))) ?_)
    rintro _ w34 ⟨hq9, v19, rfl, hS14⟩
    have k34 := grown_of_below hq9 none
    have hz10 := hq9.size
    have hb28 := below_g0 hb27 k34
    have hz11 := hb28.size
    exact ⟨⟨_, rfl, hS14⟩, k34⟩
  · intro w35 k35
    refine op1 (s_faddr fld72_1 rfl ?_)
    exact ⟨rfl, grown_none_refl _⟩
  · intro w36 k36
    rintro _ rfl
    refine op1 (s_iaddr arr70 rfl rfl (by omega) (by omega) ?_)
    exact ⟨rfl, grown_none_refl _⟩
  · intro w37 k37
    rintro _ rfl
    refine op1 (s_loadN (us := [.bool (decide ((ix (spansL l) (l.length : Int)).fy < 0)), v10]) row31 rfl ((((((hB6.g0 k20).g0 k21).g0 k22).gne k23 (by omega)).g0 k28).g0 k37).range (j := 3) rfl rfl ?_)
    exact ⟨rfl, grown_none_refl _⟩
  · intro w38 k38
    refine op1 (s_loadW row31 rfl ((hB9.g0 k28).g0 k38).range rfl ?_)
    exact ⟨rfl, grown_none_refl _⟩
  · intro w39 k39
    have hb33 := below_g0 hb22 k39
    rintro _ rfl _ rfl
    refine op1 (s_call fn44 rfl (bsub_any (n0 := n0) (below_n0 hn0 hb33) (big_of rfl (((((((hS6.ggB k18 hB5 (by decide) (by omega)).gg0 k20).gg0 k21).gg0 k22).ggB k23 hB8 (by decide) (by omega)).gg0 k28).gg0 k39)) (big_of rfl ((((hS9.gg0 k22).ggB k23 hB8 (by decide) (by omega)).gg0 k28).gg0 k39)) (Bd.le (by rw [spansL_last]; exact (bxs_bd hl_ok).fy) (show 43 ≤ 90000 by decide)) (Bd.le (bd_hf hlv.2) (show 42 ≤ 90000 by decide))) ?_)
    rintro _ w40 ⟨hq10, v20, rfl, hS15⟩
    have k40 := grown_of_below hq10 none
    have hz12 := hq10.size
    have hb34 := below_g0 hb33 k40
    have hz13 := hb34.size
    exact ⟨⟨_, rfl, hS15⟩, k40⟩
  · intro w41 k41
    refine op1 (s_faddr fld72_2 rfl ?_)
    exact ⟨rfl, grown_none_refl _⟩
  · intro w42 k42
    rintro _ rfl
    refine op1 (s_iaddr arr70 rfl rfl (by omega) (by omega) ?_)
    exact ⟨rfl, grown_none_refl _⟩
  · intro w43 k43
    rintro _ rfl
    refine op1 (s_loadN (us := [.bool (decide ((ix (spansL l) (l.length : Int)).tx < 0)), v11]) row31 rfl ((((((hB6.g0 k20).g0 k21).g0 k22).gne k23 (by omega)).g0 k28).g0 k43).range (j := 5) rfl rfl ?_)
    exact ⟨rfl, grown_none_refl _⟩
  · intro w44 k44
    refine op1 (s_faddr fld72_1 rfl ?_)
    exact ⟨rfl, grown_none_refl _⟩
  · intro w45 k45
    rintro _ rfl
    refine op1 (s_iaddr arr70 rfl rfl (by omega) (by omega) ?_)
    exact ⟨rfl, grown_none_refl _⟩
  · intro w46 k46
    rintro _ rfl
    refine op1 (s_loadN (us := [.bool (decide ((ix (spansL l) (l.length : Int)).fx < 0)), v9]) row31 rfl ((((((hB6.g0 k20).g0 k21).g0 k22).gne k23 (by omega)).g0 k28).g0 k46).range (j := 1) rfl rfl ?_)
    exact ⟨rfl, grown_none_refl _⟩
  · intro w47 k47
    have hb41 := below_g0 hb22 k47
    rintro _ rfl _ rfl
    refine op1 (s_call fn44 rfl (bsub_any (n0 := n0) (below_n0 hn0 hb41) (big_of rfl (((((((hS7.ggB k18 hB5 (by decide) (by omega)).gg0 k20).gg0 k21).gg0 k22).ggB k23 hB8 (by decide) (by omega)).gg0 k28).gg0 k47)) (big_of rfl (((((((hS5.ggB k18 hB5 (by decide) (by omega)).gg0 k20).gg0 k21).gg0 k22).ggB k23 hB8 (by decide) (by omega)).gg0 k28).gg0 k47)) (Bd.le (by rw [spansL_last]; exact (bxs_bd hl_ok).tx) (show 43 ≤ 90000 by decide)) (Bd.le (by rw [spansL_last]; exact (bxs_bd hl_ok).fx) (show 43 ≤ 90000 by decide))) ?_)
    rintro _ w48 ⟨hq11, v21, rfl, hS16⟩
    have k48 := grown_of_below hq11 none
    have hz14 := hq11.size
    have hb42 := below_g0 hb41 k48
    have hz15 := hb42.size
    exact ⟨⟨_, rfl, hS16⟩, k48⟩
  · intro w49 k49
    refine op1 (s_faddr fld72_2 rfl ?_)
    exact ⟨rfl, grown_none_refl _⟩
  · intro w50 k50
    rintro _ rfl
    refine op1 (s_iaddr arr70 rfl rfl (by omega) (by omega) ?_)
    exact ⟨rfl, grown_none_refl _⟩
  · intro w51 k51
    rintro _ rfl
    refine op1 (s_loadN (us := [.bool (decide ((ix (spansL l) (l.length : Int)).ty < 0)), v12]) row31 rfl ((((((hB6.g0 k20).g0 k21).g0 k22).gne k23 (by omega)).g0 k28).g0 k51).range (j := 7) rfl rfl ?_)
    exact ⟨rfl, grown_none_refl _⟩
  · intro w52 k52
    refine op1 (s_faddr fld72_1 rfl ?_)
    exact ⟨rfl, grown_none_refl _⟩
  · intro w53 k53
    rintro _ rfl
    refine op1 (s_iaddr arr70 rfl rfl (by omega) (by omega) ?_)
    exact ⟨rfl, grown_none_refl _⟩
  · intro w54 k54
    rintro _ rfl
    refine op1 (s_loadN (us := [.bool (decide ((ix (spansL l) (l.length : Int)).fy < 0)), v10]) row31 rfl ((((((hB6.g0 k20).g0 k21).g0 k22).gne k23 (by omega)).g0 k28).g0 k54).range (j := 3) rfl rfl ?_)
    exact ⟨rfl, grown_none_refl _⟩
  · intro w55 k55
    have hb49 := below_g0 hb22 k55
    rintro _ rfl _ rfl
    refine op1 (s_call fn44 rfl (bsub_any (n0 := n0) (below_n0 hn0 hb49) (big_of rfl (((((((hS8.ggB k18 hB5 (by decide) (by omega)).gg0 k20).gg0 k21).gg0 k22).ggB k23 hB8 (by decide) (by omega)).gg0 k28).gg0 k55)) (big_of rfl (((((((hS6.ggB k18 hB5 (by decide) (by omega)).gg0 k20).gg0 k21).gg0 k22).ggB k23 hB8 (by decide) (by omega)).gg0 k28).gg0 k55)) (Bd.le (by rw [spansL_last]; exact (bxs_bd hl_ok).ty) (show 43 ≤ 90000 by decide)) (Bd.le (by rw [spansL_last]; exact (bxs_bd hl_ok).fy) (show 43 ≤ 90000 by decide))) ?_)
    rintro _ w56 ⟨hq12, v22, rfl, hS17⟩
    have k56 := grown_of_below hq12 none
    have hz16 := hq12.size
    have hb50 := below_g0 hb49 k56
    have hz17 := hb50.size
    exact ⟨⟨_, rfl, hS17⟩, k56⟩
  · intro w57 k57
    rintro _ ⟨v23, rfl, hS18⟩ _ ⟨v24, rfl, hS19⟩ _ ⟨v25, rfl, hS20⟩ _ ⟨v26, rfl, hS21⟩
    refine op1 (s_build (ps := [(0, .tmp 26), (1, .tmp 31), (2, .tmp 38), (3, .tmp 45)]) (ccs := [#[.bool (decide ((((ix (spansL l) (l.length : Int)).fx) - (hf (levelN l))) < 0)), v23], #[.bool (decide ((((ix (spansL l) (l.length : Int)).fy) - (hf (levelN l))) < 0)), v24], #[.bool (decide ((((ix (spansL l) (l.length : Int)).tx) - ((ix (spansL l) (l.length : Int)).fx)) < 0)), v25], #[.bool (decide ((((ix (spansL l) (l.length : Int)).ty) - ((ix (spansL l) (l.length : Int)).fy)) < 0)), v26]]) (cells := [.bool (decide ((((ix (spansL l) (l.length : Int)).fx) - (hf (levelN l))) < 0)), v23, .bool (decide ((((ix (spansL l) (l.length : Int)).fy) - (hf (levelN l))) < 0)), v24, .bool (decide ((((ix (spansL l) (l.length : Int)).tx) - ((ix (spansL l) (l.length : Int)).fx)) < 0)), v25, .bool (decide ((((ix (spansL l) (l.length : Int)).ty) - ((ix (spansL l) (l.length : Int)).fy)) < 0)), v26]) rfl rfl (by kernel_rfl) ?_)
    exact ⟨⟨_, _, _, _, rfl, hS18, hS19, hS20, hS21⟩, grown_none_refl _⟩
  intro w58 k58
  have hb52 := below_g0 hb22 k58
  rintro _ rfl _ rfl _ rfl _ rfl _ ⟨v27, rfl, hS22⟩ _ rfl _ rfl _ rfl _ rfl _ ⟨v28, rfl, hS23⟩ _ rfl _ rfl _ rfl _ rfl _ rfl _ rfl _ ⟨v29, rfl, hS24⟩ _ rfl _ rfl _ rfl _ rfl _ rfl _ rfl _ ⟨v30, rfl, hS25⟩ _ ⟨v31, v32, v33, v34, rfl, hS26, hS27, hS28, hS29⟩
  refine st0 (s_storeN row33 rfl rfl (((((((((hB2.g0 k5).g0 k17).gne k18 (by omega)).g0 k20).g0 k21).g0 k22).gne k23 (by omega)).g0 k28).g0 k58) (by simp only [List.all_cons, List.all_nil, hS26.one, hS27.one, hS28.one, hS29.one, Bool.and_true, Bool.and_self] <;> rfl) rfl rfl ?_)
  intro w59 hB10 k59 hs11
  have hb53 := below_g hb52 k59 (by first | omega | (have h9 := (hb52).size; omega))
  refine st (s_assign rfl (r_end (n_then (w_retc2 rfl row33 rfl rfl hB10.range rfl ?_))))
  refine ⟨_, rfl, hb53, ?_⟩
  rw [hsm_, bxOf_yes hsm_, ← spansL_last]
  exact ⟨_, rfl, _, _, _, _, rfl, (hS26.ggB k59 (((((((((hB2.g0 k5).g0 k17).gne k18 (by omega)).g0 k20).g0 k21).g0 k22).gne k23 (by omega)).g0 k28).g0 k58) (by decide) (by omega)), (hS27.ggB k59 (((((((((hB2.g0 k5).g0 k17).gne k18 (by omega)).g0 k20).g0 k21).g0 k22).gne k23 (by omega)).g0 k28).g0 k58) (by decide) (by omega)), (hS28.ggB k59 (((((((((hB2.g0 k5).g0 k17).gne k18 (by omega)).g0 k20).g0 k21).g0 k22).gne k23 (by omega)).g0 k28).g0 k58) (by decide) (by omega)), (hS29.ggB k59 (((((((((hB2.g0 k5).g0 k17).gne k18 (by omega)).g0 k20).g0 k21).g0 k22).gne k23 (by omega)).g0 k28).g0 k58) (by decide) (by omega))⟩

set_option maxHeartbeats 1000000 in
theorem within_any {w : World} {F : Nat → Prop} {va : Value} {l : List Nd} {m : Int} {n0 : Nat} (hn0 : n0 ≤ w.heap.size) (hl : Sl Kd.node w F va l) (hl_ok : looseB l = true) (hll : l.length ≤ 100000) (hm : -9223372036854775808 ≤ m ∧ m ≤ 9223372036854775807) :
    Calls Try.prog 15 [.agg [va].toArray, .int .i64 m].toArray w (Pure w fun v _ => v = .bool (withinB (bxOf l) m)) := by
  have hb0 := Below.refl w.heap.size w
  refine enter Try.func15 rfl rfl (w_seq (w_region (st (s_box rfl ?_))))
  intro g1 w1 hg1 hB1 k1 hs1
  change Blk w1 g1 25 [va].toArray at hB1
  have hb1 := below_g0 hb0 k1
  refine st (s_assign rfl (r_end (n_then (w_seq (w_region (st (s_loadW row25 rfl hB1.range rfl (st (s_call fn12 rfl (bof_any (n0 := n0) (below_n0 hn0 hb1) (hl.at0 hb1) hl_ok (by omega)) ?_)))))))))
  rintro _ w2 ⟨hq1, _, rfl, v1, v2, v3, v4, rfl, hS1, hS2, hS3, hS4⟩
  have k2 := grown_of_below hq1 none
  have hz1 := hq1.size
  have hb2 := below_g0 hb1 k2
  have hz2 := hb2.size
  refine st (s_move rfl (st (s_extract rfl rfl (st (s_extract rfl rfl ?_)))))
  have hlt_1 := ((hB1.g0 k2)).lt
  refine st (s_alloc zero33 ?_)
  intro g2 w3 hg2 hB2 k3 hs2
  have hz3 := hb2.size
  have hb3 := below_g0 hb2 k3
  refine st0 (s_storeN row33 rfl rfl hB2 (by simp only [List.all_cons, List.all_nil, hS1.one, hS2.one, hS3.one, hS4.one, Bool.and_true, Bool.and_self] <;> rfl) rfl rfl ?_)
  intro w4 hB3 k4 hs3
  have hb4 := below_g hb3 k4 (by first | omega | (have h9 := (hb3).size; omega))
  refine st (s_assign rfl (r_end (n_then (w_seq (w_region (st (s_move rfl (st (s_call fn49 rfl (of_any (n0 := n0) (below_n0 hn0 hb4) (by omega)) ?_)))))))))
  rintro _ w5 ⟨hq2, v5, rfl, hS5⟩
  have k5 := grown_of_below hq2 none
  have hz4 := hq2.size
  have hb5 := below_g0 hb4 k5
  have hz5 := hb5.size
  have hlt_2 := (((((hB1.g0 k2).g0 k3).gne k4 (by omega)).g0 k5)).lt
  have hlt_3 := ((hB3.g0 k5)).lt
  refine st (s_alloc zero31 ?_)
  intro g3 w6 hg3 hB4 k6 hs4
  have hz6 := hb5.size
  have hb6 := below_g0 hb5 k6
  refine st0 (s_storeN row31 rfl rfl hB4 (by simp only [List.all_cons, List.all_nil, hS5.one, Bool.and_true, Bool.and_self] <;> rfl) rfl rfl ?_)
  intro w7 hB5 k7 hs5
  have hb7 := below_g hb6 k7 (by first | omega | (have h9 := (hb6).size; omega))
  refine r_end (n_then (w_seq (w_region (st (s_faddr fld33_2 rfl (st (s_loadN (us := [.bool (decide ((bxOf l).w < 0)), v3]) row31 rfl (((hB3.g0 k5).g0 k6).gne k7 (by omega)).range (j := 4) rfl rfl (st (s_loadW row31 rfl hB5.range rfl ?_)))))))))
  refine st (s_call fn50 rfl (bcmp_any0 ((((((hS3.gg0 k3).ggB k4 hB2 (by decide) (by omega)).gg0 k5).gg0 k6).ggB k7 hB4 (by decide) (by omega))).none (((hS5.gg0 k6).ggB k7 hB4 (by decide) (by omega))).none) ?_)
  rintro _ w8 ⟨hq3, rfl⟩
  have k8 := grown_of_below hq3 none
  have hz7 := hq3.size
  have hb8 := below_g0 hb7 k8
  have hz8 := hb8.size
  refine st (s_le rfl rfl (st (s_move rfl ?_)))
  refine r_caseP 20 rfl (fun h1 => ?_) (fun h1 => ?_)
  rotate_left
  · refine s_pass rfl rfl (s_pass rfl rfl (s_pass rfl rfl (s_pass rfl rfl (s_pass rfl rfl (st (s_pick rfl rfl (st (s_assign rfl ?_))))))))
    refine r_end (n_then (w_ret1 rfl rfl ?_))
    exact ⟨_, rfl, hb8, by unfold withinB; rw [decide_eq_false (fun e => h1 (cmpI_le.2 e))]; rfl⟩
  refine stg (s_faddr fld33_3 rfl (stg (s_loadN (us := [.bool (decide ((bxOf l).h < 0)), v4]) row31 rfl ((((hB3.g0 k5).g0 k6).gne k7 (by omega)).g0 k8).range (j := 6) rfl rfl (stg (s_loadW row31 rfl (hB5.g0 k8).range rfl (stg (s_call fn50 rfl (bcmp_any0 (((((((hS4.gg0 k3).ggB k4 hB2 (by decide) (by omega)).gg0 k5).gg0 k6).ggB k7 hB4 (by decide) (by omega)).gg0 k8)).none ((((hS5.gg0 k6).ggB k7 hB4 (by decide) (by omega)).gg0 k8)).none) ?_)))))))
  rintro _ w9 ⟨hq4, rfl⟩
  have k9 := grown_of_below hq4 none
  have hz9 := hq4.size
  have hb9 := below_g0 hb8 k9
  have hz10 := hb9.size
  refine stg (s_le rfl rfl (st (s_pick rfl rfl (st (s_assign rfl (r_end (n_then (w_ret1 rfl rfl ?_))))))))
  exact ⟨_, rfl, hb9, by unfold withinB; rw [decide_eq_true (cmpI_le.1 h1), Bool.true_and]; exact congrArg Value.bool (decide_eq_decide.2 cmpI_le)⟩

set_option maxHeartbeats 1000000 in
theorem bxsame_any {w : World} {a b : Bx} {px : Value} {py : Value} {pw : Value} {ph : Value} (hpx : Sl Kd.u32 w (fun _ => False) px (ml a.x)) (hpy : Sl Kd.u32 w (fun _ => False) py (ml a.y)) (hpw : Sl Kd.u32 w (fun _ => False) pw (ml a.w)) (hph : Sl Kd.u32 w (fun _ => False) ph (ml a.h)) {qx : Value} {qy : Value} {qw : Value} {qh : Value} (hqx : Sl Kd.u32 w (fun _ => False) qx (ml b.x)) (hqy : Sl Kd.u32 w (fun _ => False) qy (ml b.y)) (hqw : Sl Kd.u32 w (fun _ => False) qw (ml b.w)) (hqh : Sl Kd.u32 w (fun _ => False) qh (ml b.h)) :
    Calls Try.prog 17 [.agg [.bool (decide (a.x < 0)), px, .bool (decide (a.y < 0)), py, .bool (decide (a.w < 0)), pw, .bool (decide (a.h < 0)), ph].toArray, .agg [.bool (decide (b.x < 0)), qx, .bool (decide (b.y < 0)), qy, .bool (decide (b.w < 0)), qw, .bool (decide (b.h < 0)), qh].toArray].toArray w (Pure w fun v _ => v = .bool (decide (a = b))) := by
  have hb0 := Below.refl w.heap.size w
  refine enter Try.func17 rfl rfl (w_seq (w_region (st (s_box rfl ?_))))
  intro g1 w1 hg1 hB1 k1 hs1
  change Blk w1 g1 33 [.bool (decide (a.x < 0)), px, .bool (decide (a.y < 0)), py, .bool (decide (a.w < 0)), pw, .bool (decide (a.h < 0)), ph].toArray at hB1
  have hb1 := below_g0 hb0 k1
  refine st (s_box rfl ?_)
  intro g2 w2 hg2 hB2 k2 hs2
  change Blk w2 g2 33 [.bool (decide (b.x < 0)), qx, .bool (decide (b.y < 0)), qy, .bool (decide (b.w < 0)), qw, .bool (decide (b.h < 0)), qh].toArray at hB2
  have hb2 := below_g0 hb1 k2
  refine st (s_assign rfl (r_end (n_then (w_seq (w_region (st (s_faddr fld33_0 rfl (st (s_loadN (us := [.bool (decide (a.x < 0)), px]) row31 rfl (hB1.g0 k2).range (j := 0) rfl rfl ?_)))))))))
  refine st (s_faddr fld33_0 rfl (st (s_loadN (us := [.bool (decide (b.x < 0)), qx]) row31 rfl hB2.range (j := 0) rfl rfl (st (s_call fn51 rfl (bsame_any ((hpx.at0 hb2)).none ((hqx.at0 hb2)).none) ?_)))))
  rintro v1 w3 ⟨hq1, hv1⟩
  rw [show decide (decide (a.x < 0) = decide (b.x < 0) ∧ ml a.x = ml b.x) = decide (a.x = b.x) from decide_eq_decide.2 same_big] at hv1
  subst hv1
  have k3 := grown_of_below hq1 none
  have hz1 := hq1.size
  have hb3 := below_g0 hb2 k3
  have hz2 := hb3.size
  refine st (s_move rfl ?_)
  refine r_caseP 10 rfl (fun h1 => ?_) (fun h1 => ?_)
  rotate_left
  · refine s_pass rfl rfl (s_pass rfl rfl (s_pass rfl rfl (s_pass rfl rfl (s_pass rfl rfl (st (s_pick rfl rfl (st (s_move rfl ?_))))))))
    refine s_pass rfl rfl (s_pass rfl rfl (s_pass rfl rfl (s_pass rfl rfl (s_pass rfl rfl (st (s_pick rfl rfl (st (s_move rfl ?_))))))))
    refine s_pass rfl rfl (s_pass rfl rfl (s_pass rfl rfl (s_pass rfl rfl (s_pass rfl rfl (st (s_pick rfl rfl (st (s_assign rfl ?_))))))))
    refine r_end (n_then (w_ret1 rfl rfl ?_))
    exact ⟨_, rfl, hb3, by rw [decide_eq_false (fun e => h1 (by rw [e]))]⟩
  refine stg (s_faddr fld33_1 rfl (stg (s_loadN (us := [.bool (decide (a.y < 0)), py]) row31 rfl ((hB1.g0 k2).g0 k3).range (j := 2) rfl rfl (stg (s_faddr fld33_1 rfl (stg (s_loadN (us := [.bool (decide (b.y < 0)), qy]) row31 rfl (hB2.g0 k3).range (j := 2) rfl rfl (stg (s_call fn51 rfl (bsame_any ((hpy.at0 hb3)).none ((hqy.at0 hb3)).none) ?_)))))))))
  rintro v2 w4 ⟨hq2, hv2⟩
  rw [show decide (decide (a.y < 0) = decide (b.y < 0) ∧ ml a.y = ml b.y) = decide (a.y = b.y) from decide_eq_decide.2 same_big] at hv2
  subst hv2
  have k4 := grown_of_below hq2 none
  have hz3 := hq2.size
  have hb4 := below_g0 hb3 k4
  have hz4 := hb4.size
  refine st (s_pick rfl rfl (st (s_move rfl ?_)))
  refine r_caseP 17 rfl (fun h2 => ?_) (fun h2 => ?_)
  rotate_left
  · refine s_pass rfl rfl (s_pass rfl rfl (s_pass rfl rfl (s_pass rfl rfl (s_pass rfl rfl (st (s_pick rfl rfl (st (s_move rfl ?_))))))))
    refine s_pass rfl rfl (s_pass rfl rfl (s_pass rfl rfl (s_pass rfl rfl (s_pass rfl rfl (st (s_pick rfl rfl (st (s_assign rfl ?_))))))))
    refine r_end (n_then (w_ret1 rfl rfl ?_))
    exact ⟨_, rfl, hb4, by rw [decide_eq_false (fun e => h2 (by rw [e]))]⟩
  refine stg (s_faddr fld33_2 rfl (stg (s_loadN (us := [.bool (decide (a.w < 0)), pw]) row31 rfl (((hB1.g0 k2).g0 k3).g0 k4).range (j := 4) rfl rfl (stg (s_faddr fld33_2 rfl (stg (s_loadN (us := [.bool (decide (b.w < 0)), qw]) row31 rfl ((hB2.g0 k3).g0 k4).range (j := 4) rfl rfl (stg (s_call fn51 rfl (bsame_any ((hpw.at0 hb4)).none ((hqw.at0 hb4)).none) ?_)))))))))
  rintro v3 w5 ⟨hq3, hv3⟩
  rw [show decide (decide (a.w < 0) = decide (b.w < 0) ∧ ml a.w = ml b.w) = decide (a.w = b.w) from decide_eq_decide.2 same_big] at hv3
  subst hv3
  have k5 := grown_of_below hq3 none
  have hz5 := hq3.size
  have hb5 := below_g0 hb4 k5
  have hz6 := hb5.size
  refine st (s_pick rfl rfl (st (s_move rfl ?_)))
  refine r_caseP 24 rfl (fun h3 => ?_) (fun h3 => ?_)
  rotate_left
  · refine s_pass rfl rfl (s_pass rfl rfl (s_pass rfl rfl (s_pass rfl rfl (s_pass rfl rfl (st (s_pick rfl rfl (st (s_assign rfl ?_))))))))
    refine r_end (n_then (w_ret1 rfl rfl ?_))
    exact ⟨_, rfl, hb5, by rw [decide_eq_false (fun e => h3 (by rw [e]))]⟩
  refine stg (s_faddr fld33_3 rfl (stg (s_loadN (us := [.bool (decide (a.h < 0)), ph]) row31 rfl ((((hB1.g0 k2).g0 k3).g0 k4).g0 k5).range (j := 6) rfl rfl (stg (s_faddr fld33_3 rfl (stg (s_loadN (us := [.bool (decide (b.h < 0)), qh]) row31 rfl (((hB2.g0 k3).g0 k4).g0 k5).range (j := 6) rfl rfl (stg (s_call fn51 rfl (bsame_any ((hph.at0 hb5)).none ((hqh.at0 hb5)).none) ?_)))))))))
  rintro v4 w6 ⟨hq4, hv4⟩
  rw [show decide (decide (a.h < 0) = decide (b.h < 0) ∧ ml a.h = ml b.h) = decide (a.h = b.h) from decide_eq_decide.2 same_big] at hv4
  subst hv4
  have k6 := grown_of_below hq4 none
  have hz7 := hq4.size
  have hb6 := below_g0 hb5 k6
  have hz8 := hb6.size
  refine st (s_pick rfl rfl (st (s_assign rfl (r_end (n_then (w_ret1 rfl rfl ?_))))))
  exact ⟨_, rfl, hb6, congrArg Value.bool (decide_eq_decide.2 ⟨fun e => bx_eq.1 ⟨h1, h2, h3, e⟩, fun e => by rw [e]⟩)⟩

set_option maxHeartbeats 1000000 in
theorem rbxsame_any {w : World} {a b : Bx} {px : Value} {py : Value} {pw : Value} {ph : Value} (hpx : Sl Kd.u32 w (fun _ => False) px (ml a.x)) (hpy : Sl Kd.u32 w (fun _ => False) py (ml a.y)) (hpw : Sl Kd.u32 w (fun _ => False) pw (ml a.w)) (hph : Sl Kd.u32 w (fun _ => False) ph (ml a.h)) {qx : Value} {qy : Value} {qw : Value} {qh : Value} (hqx : Sl Kd.u32 w (fun _ => False) qx (ml b.x)) (hqy : Sl Kd.u32 w (fun _ => False) qy (ml b.y)) (hqw : Sl Kd.u32 w (fun _ => False) qw (ml b.w)) (hqh : Sl Kd.u32 w (fun _ => False) qh (ml b.h)) :
    Calls Try.prog 14 [.agg [.bool (decide (a.x < 0)), px, .bool (decide (a.y < 0)), py, .bool (decide (a.w < 0)), pw, .bool (decide (a.h < 0)), ph].toArray, .agg [.bool (decide (b.x < 0)), qx, .bool (decide (b.y < 0)), qy, .bool (decide (b.w < 0)), qw, .bool (decide (b.h < 0)), qh].toArray].toArray w (Pure w fun v _ => v = .bool (decide (a = b))) := by
  have hb0 := Below.refl w.heap.size w
  refine enter Try.func14 rfl rfl (w_seq (w_region (st (s_box rfl ?_))))
  intro g1 w1 hg1 hB1 k1 hs1
  change Blk w1 g1 33 [.bool (decide (a.x < 0)), px, .bool (decide (a.y < 0)), py, .bool (decide (a.w < 0)), pw, .bool (decide (a.h < 0)), ph].toArray at hB1
  have hb1 := below_g0 hb0 k1
  refine st (s_box rfl ?_)
  intro g2 w2 hg2 hB2 k2 hs2
  change Blk w2 g2 33 [.bool (decide (b.x < 0)), qx, .bool (decide (b.y < 0)), qy, .bool (decide (b.w < 0)), qw, .bool (decide (b.h < 0)), qh].toArray at hB2
  have hb2 := below_g0 hb1 k2
  refine st (s_assign rfl (r_end (n_then (w_seq (w_region (st (s_faddr fld33_0 rfl (st (s_loadN (us := [.bool (decide (a.x < 0)), px]) row31 rfl (hB1.g0 k2).range (j := 0) rfl rfl ?_)))))))))
  refine st (s_faddr fld33_0 rfl (st (s_loadN (us := [.bool (decide (b.x < 0)), qx]) row31 rfl hB2.range (j := 0) rfl rfl (st (s_call fn24 rfl (rbsame_any ((hpx.at0 hb2)).none ((hqx.at0 hb2)).none) ?_)))))
  rintro v1 w3 ⟨hq1, hv1⟩
  rw [show decide (decide (a.x < 0) = decide (b.x < 0) ∧ ml a.x = ml b.x) = decide (a.x = b.x) from decide_eq_decide.2 same_big] at hv1
  subst hv1
  have k3 := grown_of_below hq1 none
  have hz1 := hq1.size
  have hb3 := below_g0 hb2 k3
  have hz2 := hb3.size
  refine st (s_move rfl ?_)
  refine r_caseP 10 rfl (fun h1 => ?_) (fun h1 => ?_)
  rotate_left
  · refine s_pass rfl rfl (s_pass rfl rfl (s_pass rfl rfl (s_pass rfl rfl (s_pass rfl rfl (st (s_pick rfl rfl (st (s_move rfl ?_))))))))
    refine s_pass rfl rfl (s_pass rfl rfl (s_pass rfl rfl (s_pass rfl rfl (s_pass rfl rfl (st (s_pick rfl rfl (st (s_move rfl ?_))))))))
    refine s_pass rfl rfl (s_pass rfl rfl (s_pass rfl rfl (s_pass rfl rfl (s_pass rfl rfl (st (s_pick rfl rfl (st (s_assign rfl ?_))))))))
    refine r_end (n_then (w_ret1 rfl rfl ?_))
    exact ⟨_, rfl, hb3, by rw [decide_eq_false (fun e => h1 (by rw [e]))]⟩
  refine stg (s_faddr fld33_1 rfl (stg (s_loadN (us := [.bool (decide (a.y < 0)), py]) row31 rfl ((hB1.g0 k2).g0 k3).range (j := 2) rfl rfl (stg (s_faddr fld33_1 rfl (stg (s_loadN (us := [.bool (decide (b.y < 0)), qy]) row31 rfl (hB2.g0 k3).range (j := 2) rfl rfl (stg (s_call fn24 rfl (rbsame_any ((hpy.at0 hb3)).none ((hqy.at0 hb3)).none) ?_)))))))))
  rintro v2 w4 ⟨hq2, hv2⟩
  rw [show decide (decide (a.y < 0) = decide (b.y < 0) ∧ ml a.y = ml b.y) = decide (a.y = b.y) from decide_eq_decide.2 same_big] at hv2
  subst hv2
  have k4 := grown_of_below hq2 none
  have hz3 := hq2.size
  have hb4 := below_g0 hb3 k4
  have hz4 := hb4.size
  refine st (s_pick rfl rfl (st (s_move rfl ?_)))
  refine r_caseP 17 rfl (fun h2 => ?_) (fun h2 => ?_)
  rotate_left
  · refine s_pass rfl rfl (s_pass rfl rfl (s_pass rfl rfl (s_pass rfl rfl (s_pass rfl rfl (st (s_pick rfl rfl (st (s_move rfl ?_))))))))
    refine s_pass rfl rfl (s_pass rfl rfl (s_pass rfl rfl (s_pass rfl rfl (s_pass rfl rfl (st (s_pick rfl rfl (st (s_assign rfl ?_))))))))
    refine r_end (n_then (w_ret1 rfl rfl ?_))
    exact ⟨_, rfl, hb4, by rw [decide_eq_false (fun e => h2 (by rw [e]))]⟩
  refine stg (s_faddr fld33_2 rfl (stg (s_loadN (us := [.bool (decide (a.w < 0)), pw]) row31 rfl (((hB1.g0 k2).g0 k3).g0 k4).range (j := 4) rfl rfl (stg (s_faddr fld33_2 rfl (stg (s_loadN (us := [.bool (decide (b.w < 0)), qw]) row31 rfl ((hB2.g0 k3).g0 k4).range (j := 4) rfl rfl (stg (s_call fn24 rfl (rbsame_any ((hpw.at0 hb4)).none ((hqw.at0 hb4)).none) ?_)))))))))
  rintro v3 w5 ⟨hq3, hv3⟩
  rw [show decide (decide (a.w < 0) = decide (b.w < 0) ∧ ml a.w = ml b.w) = decide (a.w = b.w) from decide_eq_decide.2 same_big] at hv3
  subst hv3
  have k5 := grown_of_below hq3 none
  have hz5 := hq3.size
  have hb5 := below_g0 hb4 k5
  have hz6 := hb5.size
  refine st (s_pick rfl rfl (st (s_move rfl ?_)))
  refine r_caseP 24 rfl (fun h3 => ?_) (fun h3 => ?_)
  rotate_left
  · refine s_pass rfl rfl (s_pass rfl rfl (s_pass rfl rfl (s_pass rfl rfl (s_pass rfl rfl (st (s_pick rfl rfl (st (s_assign rfl ?_))))))))
    refine r_end (n_then (w_ret1 rfl rfl ?_))
    exact ⟨_, rfl, hb5, by rw [decide_eq_false (fun e => h3 (by rw [e]))]⟩
  refine stg (s_faddr fld33_3 rfl (stg (s_loadN (us := [.bool (decide (a.h < 0)), ph]) row31 rfl ((((hB1.g0 k2).g0 k3).g0 k4).g0 k5).range (j := 6) rfl rfl (stg (s_faddr fld33_3 rfl (stg (s_loadN (us := [.bool (decide (b.h < 0)), qh]) row31 rfl (((hB2.g0 k3).g0 k4).g0 k5).range (j := 6) rfl rfl (stg (s_call fn24 rfl (rbsame_any ((hph.at0 hb5)).none ((hqh.at0 hb5)).none) ?_)))))))))
  rintro v4 w6 ⟨hq4, hv4⟩
  rw [show decide (decide (a.h < 0) = decide (b.h < 0) ∧ ml a.h = ml b.h) = decide (a.h = b.h) from decide_eq_decide.2 same_big] at hv4
  subst hv4
  have k6 := grown_of_below hq4 none
  have hz7 := hq4.size
  have hb6 := below_g0 hb5 k6
  have hz8 := hb6.size
  refine st (s_pick rfl rfl (st (s_assign rfl (r_end (n_then (w_ret1 rfl rfl ?_))))))
  exact ⟨_, rfl, hb6, congrArg Value.bool (decide_eq_decide.2 ⟨fun e => bx_eq.1 ⟨h1, h2, h3, e⟩, fun e => by rw [e]⟩)⟩
end Go.Proofs.Ytfljelnfjbbknaa.Lm

set_option maxRecDepth 20000
set_option linter.unusedSimpArgs false
set_option linter.unusedVariables false
namespace Go.Proofs.Ytfljelnfjbbknaa.Lm
open Go.RowKit Go.Gw
set_option maxHeartbeats 1600000 in
theorem edges_any {w : World} {F : Nat → Prop} {va : Value} {l : List Nd} {f : Int → Bool} {a b c d : Int} {n0 : Nat} (hn0 : n0 ≤ w.heap.size) (hl : Sl Kd.node w F va l) (hl_ok : looseB l = true) (hll : l.length ≤ 100000) (hfull : Full l) (hsd : Sides f a b c d) :
    Calls Try.prog 45 [va, .agg [.int .i64 a, .int .i64 b].toArray, .agg [.int .i64 c, .int .i64 d].toArray].toArray w (Pure w fun v W => Gw.Own (Kd.big 83 n0) 31 w.heap.size W (fun _ => False) v (edgeL f l)) := by
  have hb0 := Below.refl w.heap.size w
  have hln1 := hl.lenle
  have hra := hsd.ra
  have hrb := hsd.rb
  have hrc := hsd.rc
  have hrd := hsd.rd
  refine enter Try.func45 rfl rfl (w_seq (w_region (st (s_box rfl ?_))))
  intro g1 w1 hg1 hB1 k1 hs1
  have hb1 := below_g0 hb0 k1
  refine st (s_box rfl ?_)
  intro g2 w2 hg2 hB2 k2 hs2
  have hb2 := below_g0 hb1 k2
  refine st (s_assign rfl (r_end (n_then (w_seq (w_region (st (s_move rfl (st (s_len sl22 rfl (hl.at0 hb2) ?_)))))))))
  refine st (s_add rfl rfl (by omega) (st (s_make (K := (Kd.big 83 n0)) (base := w.heap.size) (F := (fun _ => False)) sl76 rfl (by omega) (by omega) (by omega) (fun w F => big_zero _ _ w F) (by omega) (fun _ h => h.elim) ?_)))
  intro v1 w3 hO1 k3
  have hb3 := below_g0 hb2 k3
  have hz1 := hb3.size
  refine st (s_assign rfl (r_end (n_then (w_seq (w_seq (w_region (st (s_assign rfl ?_))))))))
  refine r_end (n_then (w_block ?_))
  refine w_loop (α := Int × Value × List Int) (fun ((i, vo, os) : Int × Value × List Int) => [(0, va), (4, .pointer (some ⟨g1, 0, none⟩)), (5, .pointer (some ⟨g2, 0, none⟩)), (6, .slice none 0 0), (7, vo), (8, .int .i64 i)]) (fun ((i, vo, os) : Int × Value × List Int) W => Below w.heap.size w W ∧ (0 ≤ i ∧ i ≤ l.length) ∧ (Gw.Own (Kd.big 83 n0) 31 w.heap.size W (fun _ => False) vo os) ∧ ((os.length : Int) = l.length + 1) ∧ (∀ q : Int, 0 ≤ q → q ≤ i → ix os q = (ea f (tr l q)).getD 0) ∧ (∀ q : Int, i < q → ix os q = 0) ∧ (Blk W g1 78 [.int .i64 a, .int .i64 b].toArray) ∧ (Blk W g2 78 [.int .i64 c, .int .i64 d].toArray)) (fun ((i, vo, os) : Int × Value × List Int) => (l.length - i).toNat) ((0), (v1), (List.replicate (((l.length : Int) + 1)).toNat (0 : Int))) ⟨hb3, by omega, hO1, by simp <;> omega, fun q q0 q1 => by rw [zeros_ix, show q = 0 by omega, tr_zero]; rfl, fun q _ => zeros_ix _ q, ((hB1.g0 k2).g0 k3), (hB2.g0 k3)⟩ (by exact ⟨rfl, rfl, rfl, rfl, rfl, rfl, trivial⟩) ?_
  rintro ⟨i, vo, os⟩ w4 ⟨hb4, hi, hO, hol, hos, hz, hbg1, hbg2⟩
  dsimp only at *
  have hz2 := hb4.size
  have hl1k := hbg1.lt
  have hl2k := hbg2.lt
  refine w_seq (w_seq (w_region (st (s_move rfl (st (s_move rfl (st (s_len sl22 rfl (hl.at0 hb4) (st (s_lt rfl rfl ?_))))))))))
  refine r_end (n_then ?_)
  refine w_condP rfl (fun h1 => ?_) (fun h1 => ?_)
  rotate_left
  · refine w_exit' (n_then_exit (n_then_exit (n_block_exit (n_then (w_seq (w_region ?_))))))
    refine st (s_move rfl (st (s_assign rfl (r_end (n_then (w_ret1 rfl rfl ?_))))))
    rw [← edges_eq (os := os) hol (fun q q0 q1 => hos q q0 (by omega))]
    exact ⟨_, rfl, hb4, hO⟩
  have hlt := h1
  have hlv := lv_in hl_ok hi.1 hlt
  refine w_skip' (n_then (w_seq (w_block (w_seq (w_region (st (s_move rfl ?_)))))))
  refine st (s_move rfl (st (s_idx sl22 rfl rfl (hl.at0 hb4) (by omega) (by omega) ?_)))
  rintro b1 o1 _ ⟨rfl, _⟩ hc1 hF1 hlt1
  have hl_1 := Loc.lt hF1
  refine st (s_faddr fld101_0 rfl (st (s_load one3 rfl hc1 (j := 0) rfl (st (s_sub rfl rfl (by omega) (st (s_call fn47 rfl (rbpow_any (n0 := n0) (below_n0 hn0 hb4)) ?_)))))))
  rintro v3 w5 ⟨hq1, hv1⟩
  rw [show (shlN 1 ((ix l i).lv - 1)) = (hf (ix l i).lv) from (shl_hf hlv)] at hv1
  obtain ⟨v2, rfl, hS1⟩ := hv1
  have k4 := grown_of_below hq1 none
  have hz3 := hq1.size
  have hb5 := below_g0 hb4 k4
  have hz4 := hb5.size
  have hO2 := hO.g0 k4
  have hlt_1 := ((hbg1.g0 k4)).lt
  have hlt_2 := ((hbg2.g0 k4)).lt
  refine st (s_alloc zero31 ?_)
  intro g3 w6 hg3 hB3 k5 hs3
  have hz5 := hb5.size
  have hn1 := own_new hO2 hg3
  have hb6 := below_g0 hb5 k5
  have hO3 := hO2.g0 k5
  refine st0 (s_storeN row31 rfl rfl hB3 (by simp only [List.all_cons, List.all_nil, hS1.one, Bool.and_true, Bool.and_self] <;> rfl) rfl rfl ?_)
  intro w7 hB4 k6 hs4
  have hb7 := below_g hb6 k6 (by first | omega | (have h9 := (hb6).size; omega))
  have hO4 := Own.keptG (big_gk 83 n0) hO3 k6 (Blk.isG hB3 (by decide) (by omega)) hn1
  refine r_end (n_then (w_seq (w_region (st (s_assign rfl (r_end (n_then ?_)))))))
  refine w_seq (w_region (st (s_assign rfl (r_end (n_then (w_block ?_))))))
  refine w_loop (α := Int × List Int × Bool) (fun ((j, os2, fd) : Int × List Int × Bool) => [(0, va), (4, .pointer (some ⟨g1, 0, none⟩)), (5, .pointer (some ⟨g2, 0, none⟩)), (6, .slice none 0 0), (7, vo), (8, .int .i64 i), (9, .pointer (some ⟨g3, 0, none⟩)), (10, .bool fd), (11, .int .i64 j)]) (fun ((j, os2, fd) : Int × List Int × Bool) W => Below w.heap.size w W ∧ (0 ≤ j ∧ j ≤ 4) ∧ (Gw.Own (Kd.big 83 n0) 31 w.heap.size W (fun _ => False) vo os2) ∧ ((os2.length : Int) = l.length + 1) ∧ (∀ q : Int, 0 ≤ q → q ≤ i → ix os2 q = (ea f (tr l q)).getD 0) ∧ (∀ q : Int, i + 1 < q → ix os2 q = 0) ∧ (ESt l f (ix l i) a b c d j fd (ix os2 (i + 1))) ∧ (Blk W g1 78 [.int .i64 a, .int .i64 b].toArray) ∧ (Blk W g2 78 [.int .i64 c, .int .i64 d].toArray) ∧ (Blk W g3 31 [.bool (decide ((hf (ix l i).lv) < 0)), v2].toArray) ∧ (vo.ownBlock ≠ some g3) ∧ (Sl Kd.u32 W (G 83 n0 W) v2 (ml (hf (ix l i).lv)))) (fun ((j, os2, fd) : Int × List Int × Bool) => (4 - j).toNat) ((0), (os), (false)) ⟨hb7, by omega, hO4, hol, hos, fun q q0 => hz q (by omega), by rw [hz _ (by omega)]; exact est_zero l f _ a b c d, (((hbg1.g0 k4).g0 k5).gne k6 (by omega)), (((hbg2.g0 k4).g0 k5).gne k6 (by omega)), hB4, hn1, ((hS1.gg0 k5).ggB k6 hB3 (by decide) (by omega))⟩ (by exact ⟨rfl, rfl, rfl, rfl, rfl, rfl, rfl, rfl, rfl, trivial⟩) ?_
  rintro ⟨j, os2, fd⟩ w8 ⟨hb8, hj, hOk, hol2, hos2, hz2, hac, hcg1, hcg2, hcg3, hnv, hhalf⟩
  dsimp only at *
  have hz6 := hb8.size
  have hl3k := hcg1.lt
  have hl4k := hcg2.lt
  have hl5k := hcg3.lt
  have hsn := sel2_bd (i := j % 2) hsd.ra hsd.rb
  have hsf := sel2_bd (i := j % 2) hsd.rc hsd.rd
  have hcur : ix os2 (i + 1) = ix os2 (i + 1) := rfl
  have hcurbd := est_bd hl_ok hi.1 hlt hsd hac
  refine w_seq (w_seq (w_region (st (s_move rfl (st (s_lt rfl rfl (r_end (n_then ?_))))))))
  refine w_condP rfl (fun h2 => ?_) (fun h2 => ?_)
  rotate_left
  · refine w_exit' (n_then_exit (n_then_exit (n_block_exit (n_block (n_then (w_region ?_))))))
    refine st (s_move rfl (st (s_add rfl rfl (by omega) (st (s_assign rfl (r_end ?_))))))
    exact n_round (((i + 1)), (vo), (os2)) ⟨hb8, by omega, hOk, by simpa using hol2, fun q q0 q1 => if e : q = i + 1 then by rw [e, ← acc_four hsd hl_ok hi.1 hlt, show (4 : Int) = j by omega]; exact hac.2 else hos2 q q0 (by omega), fun q q0 => hz2 q (by omega), hcg1, hcg2⟩ (by dsimp only; omega) (by exact ⟨rfl, rfl, rfl, rfl, rfl, rfl, trivial⟩)
  refine w_skip' (n_then (w_seq (w_block (w_seq (w_region (st (s_move rfl ?_)))))))
  refine st (s_remk rfl rfl (by omega) (by omega) (st (s_iaddr arr78 rfl rfl (by omega) (by omega) (st (s_load2 one3 rfl hcg1.range (j := 0) rfl rfl (by omega) (by omega) (st (s_build (ps := []) (ccs := []) (cells := [.bool false, .slice none 0 0]) rfl rfl (by kernel_rfl) ?_)))))))
  have hlt_3 := (hcg1).lt
  have hlt_4 := (hcg2).lt
  have hlt_5 := (hcg3).lt
  refine st (s_alloc zero31 ?_)
  intro g4 w9 hg4 hB5 k7 hs5
  have hz7 := hb8.size
  have hn2 := own_new hOk hg4
  have hb9 := below_g0 hb8 k7
  have hO5 := hOk.g0 k7
  refine st (s_assign rfl (st0 (s_storeN row31 rfl rfl hB5 rfl rfl rfl ?_)))
  intro w10 hB6 k8 hs6
  have hb10 := below_g hb9 k8 (by first | omega | (have h9 := (hb9).size; omega))
  have hO6 := Own.keptG (big_gk 83 n0) hO5 k8 (Blk.isG hB5 (by decide) (by omega)) hn2
  refine r_end (n_then ?_)
  refine w_cut (α := Int × Int × Value) (fun ((K, M, pM) : Int × Int × Value) => [(0, va), (4, .pointer (some ⟨g1, 0, none⟩)), (5, .pointer (some ⟨g2, 0, none⟩)), (6, .slice none 0 0), (7, vo), (8, .int .i64 i), (9, .pointer (some ⟨g3, 0, none⟩)), (10, .bool fd), (11, .int .i64 j), (12, .int .i64 K), (13, .pointer (some ⟨g4, 0, none⟩))]) (fun ((K, M, pM)) W => Below w.heap.size w W ∧ (K = pm a b c d j) ∧ (0 ≤ K ∧ K < 4) ∧ (M = if f K then hf (ix l i).lv else 0) ∧ (Bd 42 M) ∧ (Gw.Own (Kd.big 83 n0) 31 w.heap.size W (fun _ => False) vo os2) ∧ (vo.ownBlock ≠ some g3) ∧ (vo.ownBlock ≠ some g4) ∧ (Blk W g1 78 [.int .i64 a, .int .i64 b].toArray) ∧ (Blk W g2 78 [.int .i64 c, .int .i64 d].toArray) ∧ (Blk W g3 31 [.bool (decide ((hf (ix l i).lv) < 0)), v2].toArray) ∧ (Blk W g4 31 [.bool (decide (M < 0)), pM].toArray) ∧ (Sl Kd.u32 W (G 83 n0 W) v2 (ml (hf (ix l i).lv))) ∧ (Sl Kd.u32 W (G 83 n0 W) pM (ml M))) ?_ ?_
  · refine w_seq (w_region (st (s_move rfl (st (s_gt rfl rfl (r_end (n_then ?_)))))))
    refine w_condP rfl (fun h3 => ?_) (fun h3 => ?_)
    rotate_left
    · refine w_skip' ?_
      exact n_meet (((sel2 a b (j % 2))), (0), (.slice none 0 0)) ⟨hb10, (pm_near h3).symm, by omega, by rw [(sel2_f hsd.na hsd.nb)]; rfl, (bd_zero 42), hO6, hnv, hn2, ((hcg1.g0 k7).gne k8 (by omega)), ((hcg2.g0 k7).gne k8 (by omega)), ((hcg3.g0 k7).gne k8 (by omega)), hB6, ((hhalf.gg0 k7).ggB k8 hB5 (by decide) (by omega)), (show Sl Kd.u32 _ (G 83 n0 _) (.slice none 0 0) (ml 0) by rw [ml_zero]; exact nilG)⟩ (by exact ⟨rfl, rfl, rfl, rfl, rfl, rfl, rfl, rfl, rfl, rfl, rfl, trivial⟩)
    refine w_draw 6 (fun a b => a.grownBy b none) [(some 44, Is <| .int .i64 j), (some 45, Is <| .int .i64 (j % 2)), (some 46, Is <| .pointer (some ⟨g2, 0 + ((j % 2)).toNat * 1, none⟩)), (some 47, Is <| .int .i64 (sel2 c d (j % 2))), (some 48, Is <| .agg [.bool (decide ((hf (ix l i).lv) < 0)), v2].toArray), (some 12, Is <| .int .i64 (sel2 c d (j % 2)))] [[], [0], [1], [2], [], [3]] [(0, va), (4, .pointer (some ⟨g1, 0, none⟩)), (5, .pointer (some ⟨g2, 0, none⟩)), (6, .slice none 0 0), (7, vo), (8, .int .i64 i), (9, .pointer (some ⟨g3, 0, none⟩)), (10, .bool fd), (11, .int .i64 j), (13, .pointer (some ⟨g4, 0, none⟩))] (by exact ⟨rfl, rfl, rfl, rfl, rfl, rfl, rfl, rfl, rfl, rfl, trivial⟩) (by kernel_rfl) (by kernel_rfl) grown_none_refl (fun _ _ _ => grown_none_trans) ⟨kv, kv, kv, kv, kv, kv, trivial⟩ ?_
    intro w11 k9 hs7
    have hb11 := below_g0 hb10 k9
    have hO7 := hO6.g0 k9
    refine ⟨⟨?_, ?_, ?_, ?_, ?_, ?_, trivial⟩, ?_⟩
    · intro w12 k10
      refine op1 (s_move rfl ?_)
      exact ⟨rfl, grown_none_refl _⟩
    · intro w13 k11
      rintro _ rfl
      refine op1 (s_remk rfl rfl (by omega) (by omega) ?_)
      exact ⟨rfl, grown_none_refl _⟩
    · intro w14 k12
      rintro _ rfl
      refine op1 (s_iaddr arr78 rfl rfl (by omega) (by omega) ?_)
      exact ⟨rfl, grown_none_refl _⟩
    · intro w15 k13
      rintro _ rfl
      refine op1 (s_load2 one3 rfl ((((hcg2.g0 k7).gne k8 (by omega)).g0 k9).g0 k13).range (j := 0) rfl rfl (by omega) (by omega) ?_)
      exact ⟨rfl, grown_none_refl _⟩
    · intro w16 k14
      refine op1 (s_loadW row31 rfl ((((hcg3.g0 k7).gne k8 (by omega)).g0 k9).g0 k14).range rfl ?_)
      exact ⟨rfl, grown_none_refl _⟩
    · intro w17 k15
      rintro _ rfl
      refine op1 (s_assign rfl ?_)
      exact ⟨rfl, grown_none_refl _⟩
    intro w18 k16
    have hb18 := below_g0 hb11 k16
    have hO14 := hO7.g0 k16
    rintro _ rfl _ rfl _ rfl _ rfl _ rfl _ rfl
    refine st0 (s_storeN row31 rfl rfl ((hB6.g0 k9).g0 k16) (by simp only [List.all_cons, List.all_nil, hhalf.one, Bool.and_true, Bool.and_self] <;> rfl) rfl rfl ?_)
    intro w19 hB7 k17 hs8
    have hb19 := below_g hb18 k17 (by first | omega | (have h9 := (hb18).size; omega))
    have hO15 := Own.keptG (big_gk 83 n0) hO14 k17 (Blk.isG ((hB6.g0 k9).g0 k16) (by decide) (by omega)) hn2
    refine r_end ?_
    exact n_meet (((sel2 c d (j % 2))), ((hf (ix l i).lv)), (v2)) ⟨hb19, (pm_far h3).symm, by omega, by rw [(sel2_f hsd.fc hsd.fd)]; rfl, (Bd.le (bd_hf hlv.2) (show 42 ≤ 42 by decide)), hO15, hnv, hn2, (((((hcg1.g0 k7).gne k8 (by omega)).g0 k9).g0 k16).gne k17 (by omega)), (((((hcg2.g0 k7).gne k8 (by omega)).g0 k9).g0 k16).gne k17 (by omega)), (((((hcg3.g0 k7).gne k8 (by omega)).g0 k9).g0 k16).gne k17 (by omega)), hB7, (((((hhalf.gg0 k7).ggB k8 hB5 (by decide) (by omega)).gg0 k9).gg0 k16).ggB k17 ((hB6.g0 k9).g0 k16) (by decide) (by omega)), (((((hhalf.gg0 k7).ggB k8 hB5 (by decide) (by omega)).gg0 k9).gg0 k16).ggB k17 ((hB6.g0 k9).g0 k16) (by decide) (by omega))⟩ (by exact ⟨rfl, rfl, rfl, rfl, rfl, rfl, rfl, rfl, rfl, rfl, rfl, trivial⟩)
  rintro ⟨K, M, pM⟩ w20 ⟨hb20, hK, hKr, hM, hMb, hOm, hnm0, hnm1, hbm0, hbm1, hbm2, hbm3, hsm2_1, hsm3_1⟩
  dsimp only at *
  have hz8 := hb20.size
  have hbm0l := hbm0.lt
  have hbm1l := hbm1.lt
  have hbm2l := hbm2.lt
  have hbm3l := hbm3.lt
  refine w_seq (w_region (st (s_move rfl (st (s_move rfl (st (s_move rfl (st (s_idx sl22 rfl rfl (hl.at0 hb20) (by omega) (by omega) ?_)))))))))
  rintro b2 o2 _ ⟨rfl, _⟩ hc2 hF2 hlt2
  have hl_2 := Loc.lt hF2
  refine st (s_faddr fld101_1 rfl (st (s_iaddr arr99 rfl rfl (by omega) (by omega) (st (s_load4 one3 rfl hc2 (j := 1) rfl rfl (by omega) (by omega) (st (s_assign rfl (r_end (n_then (w_seq ?_))))))))))
  refine w_seq (w_region (st (s_move rfl (st (s_eq rfl rfl (r_end (n_then ?_)))))))
  refine w_condP rfl (fun h4 => ?_) (fun h4 => ?_)
  · refine w_exit' (n_then_exit (n_block_exit (n_then (w_region (st (s_move rfl (st (s_add rfl rfl (by omega) ?_))))))))
    refine st (s_assign rfl (r_end ?_))
    exact n_round (((j + 1)), (os2), (fd)) ⟨hb20, by omega, hOm, hol2, hos2, hz2, est_skip hj.1 hac (by rw [← hK]; exact eK_zero h4), hbm0, hbm1, hbm2, hnm0, hsm2_1⟩ (by dsimp only; omega) (by exact ⟨rfl, rfl, rfl, rfl, rfl, rfl, rfl, rfl, rfl, trivial⟩)
  refine w_skip' (n_then (w_seq (w_region (st (s_loadW row31 rfl hbm3.range rfl ?_)))))
  have hlt_6 := (hbm0).lt
  have hlt_7 := (hbm1).lt
  have hlt_8 := (hbm2).lt
  have hlt_9 := (hbm3).lt
  refine st (s_alloc zero31 ?_)
  intro g5 w21 hg5 hB8 k18 hs9
  have hz9 := hb20.size
  have hn3 := own_new hOm hg5
  have hb21 := below_g0 hb20 k18
  have hO16 := hOm.g0 k18
  refine st0 (s_storeN row31 rfl rfl hB8 (by simp only [List.all_cons, List.all_nil, hsm3_1.one, Bool.and_true, Bool.and_self] <;> rfl) rfl rfl ?_)
  intro w22 hB9 k19 hs10
  have hb22 := below_g hb21 k19 (by first | omega | (have h9 := (hb21).size; omega))
  have hO17 := Own.keptG (big_gk 83 n0) hO16 k19 (Blk.isG hB8 (by decide) (by omega)) hn3
  refine r_end (n_then ?_)
  refine w_cut (α := Int × Value) (fun ((D, pD) : Int × Value) => [(0, va), (4, .pointer (some ⟨g1, 0, none⟩)), (5, .pointer (some ⟨g2, 0, none⟩)), (6, .slice none 0 0), (7, vo), (8, .int .i64 i), (9, .pointer (some ⟨g3, 0, none⟩)), (10, .bool fd), (11, .int .i64 j), (12, .int .i64 K), (15, .pointer (some ⟨g5, 0, none⟩))]) (fun ((D, pD)) W => Below w.heap.size w W ∧ (egK mo 0 f l (ix l i) (pm a b c d j) = some D) ∧ (Bd 44 D) ∧ (Gw.Own (Kd.big 83 n0) 31 w.heap.size W (fun _ => False) vo os2) ∧ (vo.ownBlock ≠ some g3) ∧ (vo.ownBlock ≠ some g4) ∧ (vo.ownBlock ≠ some g5) ∧ (Blk W g1 78 [.int .i64 a, .int .i64 b].toArray) ∧ (Blk W g2 78 [.int .i64 c, .int .i64 d].toArray) ∧ (Blk W g3 31 [.bool (decide ((hf (ix l i).lv) < 0)), v2].toArray) ∧ (Blk W g4 31 [.bool (decide (M < 0)), pM].toArray) ∧ (Blk W g5 31 [.bool (decide (D < 0)), pD].toArray) ∧ (Sl Kd.u32 W (G 83 n0 W) v2 (ml (hf (ix l i).lv))) ∧ (Sl Kd.u32 W (G 83 n0 W) pM (ml M)) ∧ (Sl Kd.u32 W (G 83 n0 W) pD (ml D))) ?_ ?_
  · refine w_seq (w_region (st (s_move rfl (st (s_move rfl (st (s_idx sl22 rfl rfl (hl.at0 hb22) (by omega) (by omega) ?_)))))))
    rintro b3 o3 _ ⟨rfl, _⟩ hc3 hF3 hlt3
    have hl_3 := Loc.lt hF3
    refine st (s_faddr fld101_0 rfl (st (s_load one3 rfl hc3 (j := 0) rfl (st (s_gt rfl rfl (r_end (n_then ?_)))))))
    refine w_condP rfl (fun h5 => ?_) (fun h5 => ?_)
    rotate_left
    · refine w_skip' ?_
      exact n_meet ((M), (pM)) ⟨hb22, by rw [← hK]; have h9 := eK_leaf (l := l) (f := f) (x := ix l i) (k := K) (by omega) h4; rw [← hM] at h9; exact h9, (Bd.le hMb (show 42 ≤ 44 by decide)), hO17, hnm0, hnm1, hn3, ((hbm0.g0 k18).gne k19 (by omega)), ((hbm1.g0 k18).gne k19 (by omega)), ((hbm2.g0 k18).gne k19 (by omega)), ((hbm3.g0 k18).gne k19 (by omega)), hB9, ((hsm2_1.gg0 k18).ggB k19 hB8 (by decide) (by omega)), ((hsm3_1.gg0 k18).ggB k19 hB8 (by decide) (by omega)), ((hsm3_1.gg0 k18).ggB k19 hB8 (by decide) (by omega))⟩ (by exact ⟨rfl, rfl, rfl, rfl, rfl, rfl, rfl, rfl, rfl, rfl, rfl, trivial⟩)
    have hkr := kid_rng hl_ok hi.1 hlt (by omega) K (by omega) (by omega)
    have hkr0 : 0 ≤ sel4 (ix l i).k0 (ix l i).k1 (ix l i).k2 (ix l i).k3 K ∧ sel4 (ix l i).k0 (ix l i).k1 (ix l i).k2 (ix l i).k3 K ≤ i := hkr
    obtain ⟨b4, o4, _, hat1, ⟨sb1, rfl, hsb1⟩, hc4, hF4, hlt4⟩ := hO17.sl.elem (sel4 ((ix l i).k0) ((ix l i).k1) ((ix l i).k2) ((ix l i).k3) K) (by omega) (by omega)
    replace hsb1 := hsb1.ofGF
    refine w_draw 6 (fun a b => a.grownBy b none) [(some 65, Is <| .agg [.bool (decide (M < 0)), pM].toArray), (some 66, Is <| vo), (some 67, Is <| .int .i64 (sel4 ((ix l i).k0) ((ix l i).k1) ((ix l i).k2) ((ix l i).k3) K)), (some 68, Is <| .pointer (some ⟨b4, o4, none⟩)), (some 69, Is <| .agg [.bool (decide ((ix os2 (sel4 ((ix l i).k0) ((ix l i).k1) ((ix l i).k2) ((ix l i).k3) K)) < 0)), sb1].toArray), (some 70, fun v W => IsBig 83 n0 W v ((M + (ix os2 (sel4 ((ix l i).k0) ((ix l i).k1) ((ix l i).k2) ((ix l i).k3) K)))))] [[], [], [], [1, 2], [3], [0, 4]] [(0, va), (4, .pointer (some ⟨g1, 0, none⟩)), (5, .pointer (some ⟨g2, 0, none⟩)), (6, .slice none 0 0), (7, vo), (8, .int .i64 i), (9, .pointer (some ⟨g3, 0, none⟩)), (10, .bool fd), (11, .int .i64 j), (12, .int .i64 K), (13, .pointer (some ⟨g4, 0, none⟩)), (14, .int .i64 (sel4 ((ix l i).k0) ((ix l i).k1) ((ix l i).k2) ((ix l i).k3) K)), (15, .pointer (some ⟨g5, 0, none⟩))] (by exact ⟨rfl, rfl, rfl, rfl, rfl, rfl, rfl, rfl, rfl, rfl, rfl, rfl, rfl, trivial⟩) (by kernel_rfl) (by kernel_rfl) grown_none_refl (fun _ _ _ => grown_none_trans) ⟨kv, kv, kv, kv, kv, fun _ _ _ h k => h.g0 k, trivial⟩ ?_
    intro w24 k21 hs11
    have hb23 := below_g0 hb22 k21
    have hO18 := hO17.g0 k21
    refine ⟨⟨?_, ?_, ?_, ?_, ?_, ?_, trivial⟩, ?_⟩
    · intro w25 k22
      refine op1 (s_loadW row31 rfl ((((hbm3.g0 k18).gne k19 (by omega)).g0 k21).g0 k22).range rfl ?_)
      exact ⟨rfl, grown_none_refl _⟩
    · intro w26 k23
      refine op1 (s_move rfl ?_)
      exact ⟨rfl, grown_none_refl _⟩
    · intro w27 k24
      refine op1 (s_move rfl ?_)
      exact ⟨rfl, grown_none_refl _⟩
    · intro w28 k25
      intro v_ hv_; subst v_
      rintro _ rfl
      refine op1 (s_idxat sl76 rfl rfl hat1 ?_)
      exact ⟨rfl, grown_none_refl _⟩
    · intro w29 k26
      rintro _ rfl
      refine op1 (s_loadW row31 rfl (range_g0 (range_g0 hc4 k21) k26) rfl ?_)
      exact ⟨rfl, grown_none_refl _⟩
    · intro w30 k27
      have hb29 := below_g0 hb23 k27
      rintro _ rfl _ rfl
      refine op1 (s_call fn22 rfl (rbadd_any (n0 := n0) (below_n0 hn0 hb29) (big_of rfl ((((hsm3_1.gg0 k18).ggB k19 hB8 (by decide) (by omega)).gg0 k21).gg0 k27)) (big_of rfl ((hsb1.gg0 k21).gg0 k27)) (Bd.le hMb (show 42 ≤ 90000 by decide)) (Bd.le (by rw [hos2 _ hkr0.1 hkr0.2]; exact ea_bd hl_ok hkr0.1 (by omega)) (show 42 ≤ 90000 by decide))) ?_)
      rintro _ w31 ⟨hq3, v5, rfl, hS3⟩
      have k28 := grown_of_below hq3 none
      have hz10 := hq3.size
      have hb30 := below_g0 hb29 k28
      have hz11 := hb30.size
      exact ⟨⟨_, rfl, hS3⟩, k28⟩
    intro w32 k29
    have hb31 := below_g0 hb23 k29
    have hO26 := hO18.g0 k29
    rintro _ rfl
    intro v_ hv_; subst v_
    rintro _ rfl _ rfl _ rfl _ ⟨v6, rfl, hS4⟩
    refine st0 (s_storeN row31 rfl rfl ((hB9.g0 k21).g0 k29) (by simp only [List.all_cons, List.all_nil, hS4.one, Bool.and_true, Bool.and_self] <;> rfl) rfl rfl ?_)
    intro w33 hB10 k30 hs12
    have hb32 := below_g hb31 k30 (by first | omega | (have h9 := (hb31).size; omega))
    have hO27 := Own.keptG (big_gk 83 n0) hO26 k30 (Blk.isG ((hB9.g0 k21).g0 k29) (by decide) (by omega)) hn3
    refine r_end ?_
    exact n_meet (((M + (ix os2 (sel4 ((ix l i).k0) ((ix l i).k1) ((ix l i).k2) ((ix l i).k3) K)))), (v6)) ⟨hb32, by rw [← hK]; have h9 := eK_nd (l := l) (f := f) (x := ix l i) (k := K) (by omega) (hfull _ (by show 1 ≤ sel4 _ _ _ _ _; omega) (by show sel4 _ _ _ _ _ ≤ _; omega)); rw [← hM, ← hos2 _ (by show 0 ≤ sel4 _ _ _ _ _; omega) (by show sel4 _ _ _ _ _ ≤ i; omega)] at h9; exact h9, (Bd.le (bd_add hMb (by rw [hos2 _ hkr0.1 hkr0.2]; exact ea_bd hl_ok hkr0.1 (by omega)) (show 42 < 43 by decide) (show 42 < 43 by decide)) (show 43 ≤ 44 by decide)), hO27, hnm0, hnm1, hn3, (((((hbm0.g0 k18).gne k19 (by omega)).g0 k21).g0 k29).gne k30 (by omega)), (((((hbm1.g0 k18).gne k19 (by omega)).g0 k21).g0 k29).gne k30 (by omega)), (((((hbm2.g0 k18).gne k19 (by omega)).g0 k21).g0 k29).gne k30 (by omega)), (((((hbm3.g0 k18).gne k19 (by omega)).g0 k21).g0 k29).gne k30 (by omega)), hB10, (((((hsm2_1.gg0 k18).ggB k19 hB8 (by decide) (by omega)).gg0 k21).gg0 k29).ggB k30 ((hB9.g0 k21).g0 k29) (by decide) (by omega)), (((((hsm3_1.gg0 k18).ggB k19 hB8 (by decide) (by omega)).gg0 k21).gg0 k29).ggB k30 ((hB9.g0 k21).g0 k29) (by decide) (by omega)), (hS4.ggB k30 ((hB9.g0 k21).g0 k29) (by decide) (by omega))⟩ (by exact ⟨rfl, rfl, rfl, rfl, rfl, rfl, rfl, rfl, rfl, rfl, rfl, trivial⟩)
  rintro ⟨D, pD⟩ w34 ⟨hb33, hD, hDb, hOd, hnd0, hnd1, hnd2, hbd0, hbd1, hbd2, hbd3, hbd4, hsd2_1, hsd3_1, hsd4_1⟩
  dsimp only at *
  have hz12 := hb33.size
  have hbd0l := hbd0.lt
  have hbd1l := hbd1.lt
  have hbd2l := hbd2.lt
  have hbd3l := hbd3.lt
  have hbd4l := hbd4.lt
  refine w_seq ?_
  rcases Bool.eq_false_or_eq_true ((!fd)) with h6 | h6
  · refine w_draw 12 (fun a b => a.grownBy b none) [(some 71, Is <| .bool fd), (some 72, Is <| .bool (!fd)), (some 73, Is <| .bool true), (some 74, Is <| undef), (some 75, Is <| undef), (some 76, Is <| undef), (some 77, Is <| undef), (some 78, Is <| undef), (some 79, Is <| undef), (some 80, Is <| undef), (some 81, Is <| undef), (some 82, Is <| .bool true)] [[], [0], [1], [2], [2], [2], [2, 5], [2, 4, 6], [2, 7], [2, 3, 8], [2, 9], [2, 10]] [(0, va), (4, .pointer (some ⟨g1, 0, none⟩)), (5, .pointer (some ⟨g2, 0, none⟩)), (6, .slice none 0 0), (7, vo), (8, .int .i64 i), (9, .pointer (some ⟨g3, 0, none⟩)), (10, .bool fd), (11, .int .i64 j), (15, .pointer (some ⟨g5, 0, none⟩))] (by exact ⟨rfl, rfl, rfl, rfl, rfl, rfl, rfl, rfl, rfl, rfl, trivial⟩) (by kernel_rfl) (by kernel_rfl) grown_none_refl (fun _ _ _ => grown_none_trans) ⟨kv, kv, kv, kv, kv, kv, kv, kv, kv, kv, kv, kv, trivial⟩ ?_
    intro w35 k31 hs13
    have hb34 := below_g0 hb33 k31
    have hO28 := hOd.g0 k31
    refine ⟨⟨?_, ?_, ?_, ?_, ?_, ?_, ?_, ?_, ?_, ?_, ?_, ?_, trivial⟩, ?_⟩
    · intro w36 k32
      refine op1 (s_move rfl ?_)
      exact ⟨rfl, grown_none_refl _⟩
    · intro w37 k33
      rintro _ rfl
      refine op1 (s_not rfl ?_)
      exact ⟨rfl, grown_none_refl _⟩
    · intro w38 k34
      rintro _ rfl
      refine op1 (s_move rfl ?_)
      exact ⟨(by rw [h6]), grown_none_refl _⟩
    · intro w39 k35
      rintro _ rfl
      refine op1p ⟨rfl, grown_none_refl _⟩
    · intro w40 k36
      rintro _ rfl
      refine op1p ⟨rfl, grown_none_refl _⟩
    · intro w41 k37
      rintro _ rfl
      refine op1p ⟨rfl, grown_none_refl _⟩
    · intro w42 k38
      rintro _ rfl
      intro v_ hv_; subst v_
      refine op1p ⟨rfl, grown_none_refl _⟩
    · intro w43 k39
      rintro _ rfl
      intro v_ hv_; subst v_
      intro v_ hv_; subst v_
      refine op1p ⟨rfl, grown_none_refl _⟩
    · intro w44 k40
      rintro _ rfl
      intro v_ hv_; subst v_
      refine op1p ⟨rfl, grown_none_refl _⟩
    · intro w45 k41
      rintro _ rfl
      intro v_ hv_; subst v_
      intro v_ hv_; subst v_
      refine op1p ⟨rfl, grown_none_refl _⟩
    · intro w46 k42
      rintro _ rfl
      intro v_ hv_; subst v_
      refine op1p ⟨rfl, grown_none_refl _⟩
    · intro w47 k43
      rintro _ rfl
      intro v_ hv_; subst v_
      refine op1 (s_pick rfl rfl ?_)
      exact ⟨rfl, grown_none_refl _⟩
    intro w48 k44
    have hb47 := below_g0 hb34 k44
    have hO41 := hO28.g0 k44
    rintro _ rfl _ rfl _ rfl
    intro v_ hv_; subst v_
    intro v_ hv_; subst v_
    intro v_ hv_; subst v_
    intro v_ hv_; subst v_
    intro v_ hv_; subst v_
    intro v_ hv_; subst v_
    intro v_ hv_; subst v_
    intro v_ hv_; subst v_
    rintro _ rfl
    refine r_end (n_then (w_condT rfl (w_draw 5 (fun a b => a.grownBy b none) [(some 83, Is <| vo), (some 84, Is <| .int .i64 i), (some 85, Is <| .int .i64 (i + 1)), (some 86, Is <| .agg [.bool (decide (D < 0)), pD].toArray), (some 10, Is <| .bool true)] [[], [], [1], [], []] [(0, va), (4, .pointer (some ⟨g1, 0, none⟩)), (5, .pointer (some ⟨g2, 0, none⟩)), (6, .slice none 0 0), (7, vo), (8, .int .i64 i), (9, .pointer (some ⟨g3, 0, none⟩)), (11, .int .i64 j), (15, .pointer (some ⟨g5, 0, none⟩))] (by exact ⟨rfl, rfl, rfl, rfl, rfl, rfl, rfl, rfl, rfl, trivial⟩) (by kernel_rfl) (by kernel_rfl) grown_none_refl (fun _ _ _ => grown_none_trans) ⟨kv, kv, kv, kv, kv, trivial⟩ ?_)))
    intro w49 k45 hs14
    have hb48 := below_g0 hb47 k45
    have hO42 := hO41.g0 k45
    refine ⟨⟨?_, ?_, ?_, ?_, ?_, trivial⟩, ?_⟩
    · intro w50 k46
      refine op1 (s_move rfl ?_)
      exact ⟨rfl, grown_none_refl _⟩
    · intro w51 k47
      refine op1 (s_move rfl ?_)
      exact ⟨rfl, grown_none_refl _⟩
    · intro w52 k48
      rintro _ rfl
      refine op1 (s_add rfl rfl (by omega) ?_)
      exact ⟨rfl, grown_none_refl _⟩
    · intro w53 k49
      refine op1 (s_loadW row31 rfl ((((hbd4.g0 k31).g0 k44).g0 k45).g0 k49).range rfl ?_)
      exact ⟨rfl, grown_none_refl _⟩
    · intro w54 k50
      refine op1 (s_assign rfl ?_)
      exact ⟨rfl, grown_none_refl _⟩
    intro w55 k51
    have hb54 := below_g0 hb48 k51
    have hO48 := hO42.g0 k51
    intro v_ hv_; subst v_
    rintro _ rfl _ rfl _ rfl _ rfl
    refine st (s_oidx sl76 rfl rfl hO48 (by omega) (by omega) ?_)
    intro g6 hg6 hl_4 hl_5
    refine st0 (s_ostoreN (x0 := D) row31 rfl rfl rfl (by simp only [List.all_cons, List.all_nil, hsd4_1.one, Bool.and_true, Bool.and_self] <;> rfl) rfl hO48 hg6 (by omega) (by omega) ⟨_, rfl, (((((hsd4_1.gg0 k31).gg0 k44).gg0 k45).gg0 k51)).outG hO48 (by decide) hn0⟩ ?_)
    intro w56 hO49 k52 hs15
    have hb55 := below_g hb54 k52 (by first | omega | (have h9 := (hb54).size; omega))
    refine r_end (n_block (n_then (w_region (st (s_move rfl (st (s_add rfl rfl (by omega) (st (s_assign rfl ?_)))))))))
    refine r_end ?_
    exact n_round (((j + 1)), (os2.set ((i + 1)).toNat D), (true)) ⟨hb55, by omega, hO49, by simpa using hol2, fun q q0 q1 => by rw [ix_set_ne (by omega) (by omega) (by omega)]; exact hos2 q q0 q1, fun q q0 => by rw [ix_set_ne (by omega) (by omega) (by omega)]; exact hz2 q q0, by rw [ix_set_eq (by omega) (by omega)]; exact est_put hj.1 hac hD (.inl (by simpa using h6)), (((((hbd0.g0 k31).g0 k44).g0 k45).g0 k51).gne k52 (hO48.blk_ne ((((hbd0.g0 k31).g0 k44).g0 k45).g0 k51) (by decide) hg6)), (((((hbd1.g0 k31).g0 k44).g0 k45).g0 k51).gne k52 (hO48.blk_ne ((((hbd1.g0 k31).g0 k44).g0 k45).g0 k51) (by decide) hg6)), (((((hbd2.g0 k31).g0 k44).g0 k45).g0 k51).gne k52 (ne_own_of hnd0 hg6)), hnd0, (((((hsd2_1.gg0 k31).gg0 k44).gg0 k45).gg0 k51).ggO (by rw [hg6]; exact k52) hO48 (by decide) hn0)⟩ (by dsimp only; omega) (by exact ⟨rfl, rfl, rfl, rfl, rfl, rfl, rfl, rfl, rfl, trivial⟩)
  obtain ⟨b5, o5, _, hat2, ⟨sb2, rfl, hsb2⟩, hc5, hF5, hlt5⟩ := hOd.sl.elem (i + 1) (by omega) (by omega)
  replace hsb2 := hsb2.ofGF
  refine w_draw 12 (fun a b => a.grownBy b none) [(some 71, Is <| .bool fd), (some 72, Is <| .bool (!fd)), (some 73, Is <| .bool false), (some 74, Is <| .agg [.bool (decide (D < 0)), pD].toArray), (some 75, Is <| vo), (some 76, Is <| .int .i64 i), (some 77, Is <| .int .i64 (i + 1)), (some 78, Is <| .pointer (some ⟨b5, o5, none⟩)), (some 79, Is <| .agg [.bool (decide ((ix os2 (i + 1)) < 0)), sb2].toArray), (some 80, Is <| .int .i64 (cmpI D (ix os2 (i + 1)))), (some 81, Is <| .bool (decide ((cmpI D (ix os2 (i + 1))) < 0))), (some 82, Is <| .bool (decide ((cmpI D (ix os2 (i + 1))) < 0)))] [[], [0], [1], [2], [2], [2], [2, 5], [2, 4, 6], [2, 7], [2, 3, 8], [2, 9], [2, 10]] [(0, va), (4, .pointer (some ⟨g1, 0, none⟩)), (5, .pointer (some ⟨g2, 0, none⟩)), (6, .slice none 0 0), (7, vo), (8, .int .i64 i), (9, .pointer (some ⟨g3, 0, none⟩)), (10, .bool fd), (11, .int .i64 j), (15, .pointer (some ⟨g5, 0, none⟩))] (by exact ⟨rfl, rfl, rfl, rfl, rfl, rfl, rfl, rfl, rfl, rfl, trivial⟩) (by kernel_rfl) (by kernel_rfl) grown_none_refl (fun _ _ _ => grown_none_trans) ⟨kv, kv, kv, kv, kv, kv, kv, kv, kv, kv, kv, kv, trivial⟩ ?_
  intro w58 k54 hs16
  have hb56 := below_g0 hb33 k54
  have hO50 := hOd.g0 k54
  refine ⟨⟨?_, ?_, ?_, ?_, ?_, ?_, ?_, ?_, ?_, ?_, ?_, ?_, trivial⟩, ?_⟩
  · intro w59 k55
    refine op1 (s_move rfl ?_)
    exact ⟨rfl, grown_none_refl _⟩
  · intro w60 k56
    rintro _ rfl
    refine op1 (s_not rfl ?_)
    exact ⟨rfl, grown_none_refl _⟩
  · intro w61 k57
    rintro _ rfl
    refine op1 (s_move rfl ?_)
    exact ⟨(by rw [h6]), grown_none_refl _⟩
  · intro w62 k58
    rintro _ rfl
    refine op1g (s_loadW row31 rfl ((hbd4.g0 k54).g0 k58).range rfl ?_)
    exact ⟨rfl, grown_none_refl _⟩
  · intro w63 k59
    rintro _ rfl
    refine op1g (s_move rfl ?_)
    exact ⟨rfl, grown_none_refl _⟩
  · intro w64 k60
    rintro _ rfl
    refine op1g (s_move rfl ?_)
    exact ⟨rfl, grown_none_refl _⟩
  · intro w65 k61
    rintro _ rfl _ rfl
    refine op1g (s_add rfl rfl (by omega) ?_)
    exact ⟨rfl, grown_none_refl _⟩
  · intro w66 k62
    rintro _ rfl
    intro v_ hv_; subst v_
    rintro _ rfl
    refine op1g (s_idxat sl76 rfl rfl hat2 ?_)
    exact ⟨rfl, grown_none_refl _⟩
  · intro w67 k63
    rintro _ rfl _ rfl
    refine op1g (s_loadW row31 rfl (range_g0 (range_g0 hc5 k54) k63) rfl ?_)
    exact ⟨rfl, grown_none_refl _⟩
  · intro w68 k64
    have hb66 := below_g0 hb56 k64
    rintro _ rfl _ rfl _ rfl
    refine op1g (s_call fn23 rfl (rbcmp_any (n0 := n0) (below_n0 hn0 hb66) (big_of rfl ((hsd4_1.gg0 k54).gg0 k64)) (big_of rfl ((hsb2.gg0 k54).gg0 k64)) (Bd.le hDb (show 44 ≤ 90000 by decide)) (Bd.le hcurbd (show 43 ≤ 90000 by decide))) ?_)
    rintro _ w69 ⟨hq5, rfl⟩
    have k65 := grown_of_below hq5 none
    have hz13 := hq5.size
    have hb67 := below_g0 hb66 k65
    have hz14 := hb67.size
    exact ⟨rfl, k65⟩
  · intro w70 k66
    rintro _ rfl _ rfl
    refine op1g (s_lt rfl rfl ?_)
    exact ⟨rfl, grown_none_refl _⟩
  · intro w71 k67
    rintro _ rfl _ rfl
    refine op1 (s_pick rfl rfl ?_)
    exact ⟨rfl, grown_none_refl _⟩
  intro w72 k68
  have hb70 := below_g0 hb56 k68
  have hO64 := hO50.g0 k68
  rintro _ rfl _ rfl _ rfl _ rfl
  intro v_ hv_; subst v_
  rintro _ rfl _ rfl _ rfl _ rfl _ rfl _ rfl _ rfl
  refine r_end (n_then ?_)
  refine w_condP rfl (fun h7 => ?_) (fun h7 => ?_)
  rotate_left
  · refine w_skip' (n_block (n_then (w_region (st (s_move rfl (st (s_add rfl rfl (by omega) (st (s_assign rfl ?_)))))))))
    refine r_end ?_
    exact n_round (((j + 1)), (os2), (fd)) ⟨hb70, by omega, hO64, hol2, hos2, hz2, est_keep hj.1 hac hD (by simpa using h6) (by rw [← hcur]; exact h7), ((hbd0.g0 k54).g0 k68), ((hbd1.g0 k54).g0 k68), ((hbd2.g0 k54).g0 k68), hnd0, ((hsd2_1.gg0 k54).gg0 k68)⟩ (by dsimp only; omega) (by exact ⟨rfl, rfl, rfl, rfl, rfl, rfl, rfl, rfl, rfl, trivial⟩)
  refine w_draw 5 (fun a b => a.grownBy b none) [(some 83, Is <| vo), (some 84, Is <| .int .i64 i), (some 85, Is <| .int .i64 (i + 1)), (some 86, Is <| .agg [.bool (decide (D < 0)), pD].toArray), (some 10, Is <| .bool true)] [[], [], [1], [], []] [(0, va), (4, .pointer (some ⟨g1, 0, none⟩)), (5, .pointer (some ⟨g2, 0, none⟩)), (6, .slice none 0 0), (7, vo), (8, .int .i64 i), (9, .pointer (some ⟨g3, 0, none⟩)), (11, .int .i64 j), (15, .pointer (some ⟨g5, 0, none⟩))] (by exact ⟨rfl, rfl, rfl, rfl, rfl, rfl, rfl, rfl, rfl, trivial⟩) (by kernel_rfl) (by kernel_rfl) grown_none_refl (fun _ _ _ => grown_none_trans) ⟨kv, kv, kv, kv, kv, trivial⟩ ?_
  intro w73 k69 hs17
  have hb71 := below_g0 hb70 k69
  have hO65 := hO64.g0 k69
  refine ⟨⟨?_, ?_, ?_, ?_, ?_, trivial⟩, ?_⟩
  · intro w74 k70
    refine op1 (s_move rfl ?_)
    exact ⟨rfl, grown_none_refl _⟩
  · intro w75 k71
    refine op1 (s_move rfl ?_)
    exact ⟨rfl, grown_none_refl _⟩
  · intro w76 k72
    rintro _ rfl
    refine op1 (s_add rfl rfl (by omega) ?_)
    exact ⟨rfl, grown_none_refl _⟩
  · intro w77 k73
    refine op1 (s_loadW row31 rfl ((((hbd4.g0 k54).g0 k68).g0 k69).g0 k73).range rfl ?_)
    exact ⟨rfl, grown_none_refl _⟩
  · intro w78 k74
    refine op1 (s_assign rfl ?_)
    exact ⟨rfl, grown_none_refl _⟩
  intro w79 k75
  have hb77 := below_g0 hb71 k75
  have hO71 := hO65.g0 k75
  intro v_ hv_; subst v_
  rintro _ rfl _ rfl _ rfl _ rfl
  refine st (s_oidx sl76 rfl rfl hO71 (by omega) (by omega) ?_)
  intro g7 hg7 hl_6 hl_7
  refine st0 (s_ostoreN (x0 := D) row31 rfl rfl rfl (by simp only [List.all_cons, List.all_nil, hsd4_1.one, Bool.and_true, Bool.and_self] <;> rfl) rfl hO71 hg7 (by omega) (by omega) ⟨_, rfl, (((((hsd4_1.gg0 k54).gg0 k68).gg0 k69).gg0 k75)).outG hO71 (by decide) hn0⟩ ?_)
  intro w80 hO72 k76 hs18
  have hb78 := below_g hb77 k76 (by first | omega | (have h9 := (hb77).size; omega))
  refine r_end (n_block (n_then (w_region (st (s_move rfl (st (s_add rfl rfl (by omega) (st (s_assign rfl ?_)))))))))
  refine r_end ?_
  exact n_round (((j + 1)), (os2.set ((i + 1)).toNat D), (true)) ⟨hb78, by omega, hO72, by simpa using hol2, fun q q0 q1 => by rw [ix_set_ne (by omega) (by omega) (by omega)]; exact hos2 q q0 q1, fun q q0 => by rw [ix_set_ne (by omega) (by omega) (by omega)]; exact hz2 q q0, by rw [ix_set_eq (by omega) (by omega)]; exact est_put hj.1 hac hD (.inr (by rw [← hcur]; exact h7)), (((((hbd0.g0 k54).g0 k68).g0 k69).g0 k75).gne k76 (hO71.blk_ne ((((hbd0.g0 k54).g0 k68).g0 k69).g0 k75) (by decide) hg7)), (((((hbd1.g0 k54).g0 k68).g0 k69).g0 k75).gne k76 (hO71.blk_ne ((((hbd1.g0 k54).g0 k68).g0 k69).g0 k75) (by decide) hg7)), (((((hbd2.g0 k54).g0 k68).g0 k69).g0 k75).gne k76 (ne_own_of hnd0 hg7)), hnd0, (((((hsd2_1.gg0 k54).gg0 k68).gg0 k69).gg0 k75).ggO (by rw [hg7]; exact k76) hO71 (by decide) hn0)⟩ (by dsimp only; omega) (by exact ⟨rfl, rfl, rfl, rfl, rfl, rfl, rfl, rfl, rfl, trivial⟩)
end Go.Proofs.Ytfljelnfjbbknaa.Lm

set_option maxRecDepth 20000
set_option linter.unusedSimpArgs false
set_option linter.unusedVariables false
namespace Go.Proofs.Ytfljelnfjbbknaa.Lm
open Go.RowKit Go.Gw
set_option maxHeartbeats 1000000 in
theorem rlevel_any {va : Value} {l : List Nd} {F : Nat → Prop} {w : World} (hl : Sl Kd.node w F va l) :
    Calls Try.prog 46 [.agg [va].toArray].toArray w (Pure w fun v _ => v = .int .i64 (levelN l)) := by
  have hb0 := Below.refl w.heap.size w
  have hln0 := hl.lenle
  refine enter Try.func46 rfl rfl (w_seq (w_region (st (s_box rfl ?_))))
  intro g1 w1 hg1 hB1 k1 hs1
  change Blk w1 g1 25 [va].toArray at hB1
  have hb1 := below_g0 hb0 k1
  refine st (s_assign rfl (r_end (n_then (w_seq (w_seq (w_region (st (s_faddr fld25_0 rfl ?_))))))))
  refine st (s_load one22 rfl hB1.range (j := 0) rfl (st (s_len sl22 rfl (hl.at0 hb1) (st (s_eq rfl rfl (r_end (n_then ?_)))))))
  refine w_condP rfl (fun h1 => ?_) (fun h1 => ?_)
  · refine w_seq (w_region (st (s_assign rfl (r_end (n_then (w_ret1 rfl rfl ?_))))))
    exact ⟨_, rfl, hb1, by simp only [levelN]; split <;> first | rfl | omega⟩
  refine w_skip' (n_then (w_seq (w_region (st (s_faddr fld25_0 rfl (st (s_load one22 rfl hB1.range (j := 0) rfl (st (s_faddr fld25_0 rfl ?_)))))))))
  refine st (s_load one22 rfl hB1.range (j := 0) rfl (st (s_len sl22 rfl (hl.at0 hb1) (st (s_sub rfl rfl (by omega) (st (s_idx sl22 rfl rfl (hl.at0 hb1) (by omega) (by omega) ?_)))))))
  rintro b1 o1 _ ⟨rfl, _⟩ hc1 hF1 hlt1
  have hl_1 := Loc.lt hF1
  refine st (s_faddr fld101_0 rfl (st (s_load one3 rfl hc1 (j := 0) rfl (st (s_assign rfl (r_end (n_then (w_ret1 rfl rfl ?_))))))))
  exact ⟨_, rfl, hb1, by simp only [levelN]; split <;> first | rfl | omega⟩

set_option maxHeartbeats 1600000 in
theorem rbof_any {w : World} {F : Nat → Prop} {va : Value} {l : List Nd} {n0 : Nat} (hn0 : n0 ≤ w.heap.size) (hl : Sl Kd.node w F va l) (hl_ok : looseB l = true) (hll : l.length ≤ 100000) (hfull : Full l) :
    Calls Try.prog 13 [.agg [va].toArray].toArray w (Pure w fun r W => ∃ v, r = .tuple #[v, .bool (bxs l).some] ∧ IsBox 83 n0 W v (bxOf l)) := by
  have hb0 := Below.refl w.heap.size w
  refine enter Try.func13 rfl rfl (w_seq (w_region (st (s_box rfl ?_))))
  intro g1 w1 hg1 hB1 k1 hs1
  change Blk w1 g1 25 [va].toArray at hB1
  have hb1 := below_g0 hb0 k1
  have hlt_1 := (hB1).lt
  refine st (s_alloc zero33 ?_)
  intro g2 w2 hg2 hB2 k2 hs2
  have hz1 := hb1.size
  have hb2 := below_g0 hb1 k2
  refine st (s_assign rfl (r_end (n_then (w_seq (w_region (st (s_faddr fld25_0 rfl (st (s_load one22 rfl (hB1.g0 k2).range (j := 0) rfl ?_)))))))))
  refine st (s_len sl22 rfl (hl.at0 hb2) (st (s_assign rfl (r_end (n_then (w_seq (w_seq (w_region ?_))))))))
  refine st (s_move rfl (st (s_eq rfl rfl (r_end (n_then ?_)))))
  refine w_condP rfl (fun h1 => ?_) (fun h1 => ?_)
  · have hnil : l = [] := List.eq_nil_of_length_eq_zero (by omega)
    refine w_seq (w_region (st (s_build (ps := []) (ccs := []) (cells := [.bool false, .slice none 0 0, .bool false, .slice none 0 0, .bool false, .slice none 0 0, .bool false, .slice none 0 0]) rfl rfl (by kernel_rfl) (st0 (s_storeN row33 rfl rfl hB2 rfl rfl rfl ?_)))))
    intro w3 hB3 k3 hs3
    have hb3 := below_g hb2 k3 (by first | omega | (have h9 := (hb2).size; omega))
    refine st (s_assign rfl (r_end (n_then (w_retc2 rfl row33 rfl rfl hB3.range rfl ?_))))
    refine ⟨_, rfl, hb3, ?_⟩
    subst hnil
    exact ⟨_, rfl, _, _, _, _, rfl, (show Sl Kd.u32 _ (G 83 n0 _) (.slice none 0 0) (ml 0) by rw [ml_zero]; exact nilG), (show Sl Kd.u32 _ (G 83 n0 _) (.slice none 0 0) (ml 0) by rw [ml_zero]; exact nilG), (show Sl Kd.u32 _ (G 83 n0 _) (.slice none 0 0) (ml 0) by rw [ml_zero]; exact nilG), (show Sl Kd.u32 _ (G 83 n0 _) (.slice none 0 0) (ml 0) by rw [ml_zero]; exact nilG)⟩
  have hnn : l ≠ [] := by rintro rfl; exact h1 rfl
  have hlv := level_of hl_ok hnn
  refine w_skip' (n_then (w_seq (w_region (st (s_faddr fld25_0 rfl (st (s_load one22 rfl (hB1.g0 k2).range (j := 0) rfl (st (s_build (ps := [(0, .const (.int .i64 0)), (1, .const (.int .i64 2))]) (ccs := [#[.int .i64 0], #[.int .i64 2]]) (cells := [.int .i64 0, .int .i64 2]) rfl rfl (by kernel_rfl) ?_)))))))))
  refine st (s_build (ps := [(0, .const (.int .i64 1)), (1, .const (.int .i64 3))]) (ccs := [#[.int .i64 1], #[.int .i64 3]]) (cells := [.int .i64 1, .int .i64 3]) rfl rfl (by kernel_rfl) (st (s_call fn45 rfl (edges_any (n0 := n0) (below_n0 hn0 hb2) (hl.at0 hb2) hl_ok (by omega) hfull west_sides) ?_)))
  rintro v1 w4 ⟨hq1, hO1⟩
  have k4 := grown_of_below hq1 none
  have hz2 := hq1.size
  have hb4 := below_g0 hb2 k4
  have hz3 := hb4.size
  have hO2 := hO1.rebase (b' := w.heap.size) hb2.size
  have hel1 := edgeL_len fX l
  refine st (s_move rfl (st (s_idx sl76 rfl rfl hO2.sl (by omega) (by omega) ?_)))
  rintro b1 o1 _ ⟨sb1, rfl, hsb1⟩ hc1 hF1 hlt1
  replace hsb1 := hsb1.ofGF
  refine st (s_loadW row31 rfl hc1 rfl ?_)
  have hlt_2 := (((hB1.g0 k2).g0 k4)).lt
  have hlt_3 := ((hB2.g0 k4)).lt
  refine st (s_alloc zero31 ?_)
  intro g3 w5 hg3 hB4 k5 hs4
  have hz4 := hb4.size
  have hn1 := own_new hO2 hg3
  have hb5 := below_g0 hb4 k5
  have hO3 := hO2.g0 k5
  refine st0 (s_storeN row31 rfl rfl hB4 (by simp only [List.all_cons, List.all_nil, hsb1.one, Bool.and_true, Bool.and_self] <;> rfl) rfl rfl ?_)
  intro w6 hB5 k6 hs5
  have hb6 := below_g hb5 k6 (by first | omega | (have h9 := (hb5).size; omega))
  have hO4 := Own.keptG (big_gk 83 n0) hO3 k6 (Blk.isG hB4 (by decide) (by omega)) hn1
  refine r_end (n_then (w_seq (w_region (st (s_faddr fld25_0 rfl (st (s_load one22 rfl ((((hB1.g0 k2).g0 k4).g0 k5).gne k6 (by omega)).range (j := 0) rfl (st (s_build (ps := [(0, .const (.int .i64 1)), (1, .const (.int .i64 3))]) (ccs := [#[.int .i64 1], #[.int .i64 3]]) (cells := [.int .i64 1, .int .i64 3]) rfl rfl (by kernel_rfl) ?_)))))))))
  refine st (s_build (ps := [(0, .const (.int .i64 0)), (1, .const (.int .i64 2))]) (ccs := [#[.int .i64 0], #[.int .i64 2]]) (cells := [.int .i64 0, .int .i64 2]) rfl rfl (by kernel_rfl) (st (s_call fn45 rfl (edges_any (n0 := n0) (below_n0 hn0 hb6) (hl.at0 hb6) hl_ok (by omega) hfull east_sides) ?_)))
  rintro v2 w7 ⟨hq2, hO5⟩
  have k7 := grown_of_below hq2 none
  have hz5 := hq2.size
  have hb7 := below_g0 hb6 k7
  have hz6 := hb7.size
  have hO7 := hO4.g0 k7
  have hO6 := hO5.rebase (b' := w.heap.size) hb6.size
  have hel2 := edgeL_len (fun k => !fX k) l
  refine st (s_move rfl (st (s_idx sl76 rfl rfl hO6.sl (by omega) (by omega) ?_)))
  rintro b2 o2 _ ⟨sb2, rfl, hsb2⟩ hc2 hF2 hlt2
  replace hsb2 := hsb2.ofGF
  refine st (s_loadW row31 rfl hc2 rfl ?_)
  have hlt_4 := ((((((hB1.g0 k2).g0 k4).g0 k5).gne k6 (by omega)).g0 k7)).lt
  have hlt_5 := (((((hB2.g0 k4).g0 k5).gne k6 (by omega)).g0 k7)).lt
  have hlt_6 := ((hB5.g0 k7)).lt
  refine st (s_alloc zero31 ?_)
  intro g4 w8 hg4 hB6 k8 hs6
  have hz7 := hb7.size
  have hn2 := own_new hO7 hg4
  have hn3 := own_new hO6 hg4
  have hb8 := below_g0 hb7 k8
  have hO8 := hO7.g0 k8
  have hO9 := hO6.g0 k8
  refine st0 (s_storeN row31 rfl rfl hB6 (by simp only [List.all_cons, List.all_nil, hsb2.one, Bool.and_true, Bool.and_self] <;> rfl) rfl rfl ?_)
  intro w9 hB7 k9 hs7
  have hb9 := below_g hb8 k9 (by first | omega | (have h9 := (hb8).size; omega))
  have hO10 := Own.keptG (big_gk 83 n0) hO8 k9 (Blk.isG hB6 (by decide) (by omega)) hn2
  have hO11 := Own.keptG (big_gk 83 n0) hO9 k9 (Blk.isG hB6 (by decide) (by omega)) hn3
  refine r_end (n_then (w_seq (w_region (st (s_faddr fld25_0 rfl (st (s_load one22 rfl (((((((hB1.g0 k2).g0 k4).g0 k5).gne k6 (by omega)).g0 k7).g0 k8).gne k9 (by omega)).range (j := 0) rfl (st (s_build (ps := [(0, .const (.int .i64 0)), (1, .const (.int .i64 1))]) (ccs := [#[.int .i64 0], #[.int .i64 1]]) (cells := [.int .i64 0, .int .i64 1]) rfl rfl (by kernel_rfl) ?_)))))))))
  refine st (s_build (ps := [(0, .const (.int .i64 2)), (1, .const (.int .i64 3))]) (ccs := [#[.int .i64 2], #[.int .i64 3]]) (cells := [.int .i64 2, .int .i64 3]) rfl rfl (by kernel_rfl) (st (s_call fn45 rfl (edges_any (n0 := n0) (below_n0 hn0 hb9) (hl.at0 hb9) hl_ok (by omega) hfull north_sides) ?_)))
  rintro v3 w10 ⟨hq3, hO12⟩
  have k10 := grown_of_below hq3 none
  have hz8 := hq3.size
  have hb10 := below_g0 hb9 k10
  have hz9 := hb10.size
  have hO14 := hO10.g0 k10
  have hO15 := hO11.g0 k10
  have hO13 := hO12.rebase (b' := w.heap.size) hb9.size
  have hel3 := edgeL_len fY l
  refine st (s_move rfl (st (s_idx sl76 rfl rfl hO13.sl (by omega) (by omega) ?_)))
  rintro b3 o3 _ ⟨sb3, rfl, hsb3⟩ hc3 hF3 hlt3
  replace hsb3 := hsb3.ofGF
  refine st (s_loadW row31 rfl hc3 rfl ?_)
  have hlt_7 := (((((((((hB1.g0 k2).g0 k4).g0 k5).gne k6 (by omega)).g0 k7).g0 k8).gne k9 (by omega)).g0 k10)).lt
  have hlt_8 := ((((((((hB2.g0 k4).g0 k5).gne k6 (by omega)).g0 k7).g0 k8).gne k9 (by omega)).g0 k10)).lt
  have hlt_9 := (((((hB5.g0 k7).g0 k8).gne k9 (by omega)).g0 k10)).lt
  have hlt_10 := ((hB7.g0 k10)).lt
  refine st (s_alloc zero31 ?_)
  intro g5 w11 hg5 hB8 k11 hs8
  have hz10 := hb10.size
  have hn4 := own_new hO14 hg5
  have hn5 := own_new hO15 hg5
  have hn6 := own_new hO13 hg5
  have hb11 := below_g0 hb10 k11
  have hO16 := hO14.g0 k11
  have hO17 := hO15.g0 k11
  have hO18 := hO13.g0 k11
  refine st0 (s_storeN row31 rfl rfl hB8 (by simp only [List.all_cons, List.all_nil, hsb3.one, Bool.and_true, Bool.and_self] <;> rfl) rfl rfl ?_)
  intro w12 hB9 k12 hs9
  have hb12 := below_g hb11 k12 (by first | omega | (have h9 := (hb11).size; omega))
  have hO19 := Own.keptG (big_gk 83 n0) hO16 k12 (Blk.isG hB8 (by decide) (by omega)) hn4
  have hO20 := Own.keptG (big_gk 83 n0) hO17 k12 (Blk.isG hB8 (by decide) (by omega)) hn5
  have hO21 := Own.keptG (big_gk 83 n0) hO18 k12 (Blk.isG hB8 (by decide) (by omega)) hn6
  refine r_end (n_then (w_seq (w_region (st (s_faddr fld25_0 rfl (st (s_load one22 rfl ((((((((((hB1.g0 k2).g0 k4).g0 k5).gne k6 (by omega)).g0 k7).g0 k8).gne k9 (by omega)).g0 k10).g0 k11).gne k12 (by omega)).range (j := 0) rfl (st (s_build (ps := [(0, .const (.int .i64 2)), (1, .const (.int .i64 3))]) (ccs := [#[.int .i64 2], #[.int .i64 3]]) (cells := [.int .i64 2, .int .i64 3]) rfl rfl (by kernel_rfl) ?_)))))))))
  refine st (s_build (ps := [(0, .const (.int .i64 0)), (1, .const (.int .i64 1))]) (ccs := [#[.int .i64 0], #[.int .i64 1]]) (cells := [.int .i64 0, .int .i64 1]) rfl rfl (by kernel_rfl) (st (s_call fn45 rfl (edges_any (n0 := n0) (below_n0 hn0 hb12) (hl.at0 hb12) hl_ok (by omega) hfull south_sides) ?_)))
  rintro v4 w13 ⟨hq4, hO22⟩
  have k13 := grown_of_below hq4 none
  have hz11 := hq4.size
  have hb13 := below_g0 hb12 k13
  have hz12 := hb13.size
  have hO24 := hO19.g0 k13
  have hO25 := hO20.g0 k13
  have hO26 := hO21.g0 k13
  have hO23 := hO22.rebase (b' := w.heap.size) hb12.size
  have hel4 := edgeL_len (fun k => !fY k) l
  refine st (s_move rfl (st (s_idx sl76 rfl rfl hO23.sl (by omega) (by omega) ?_)))
  rintro b4 o4 _ ⟨sb4, rfl, hsb4⟩ hc4 hF4 hlt4
  replace hsb4 := hsb4.ofGF
  refine st (s_loadW row31 rfl hc4 rfl ?_)
  have hlt_11 := ((((((((((((hB1.g0 k2).g0 k4).g0 k5).gne k6 (by omega)).g0 k7).g0 k8).gne k9 (by omega)).g0 k10).g0 k11).gne k12 (by omega)).g0 k13)).lt
  have hlt_12 := (((((((((((hB2.g0 k4).g0 k5).gne k6 (by omega)).g0 k7).g0 k8).gne k9 (by omega)).g0 k10).g0 k11).gne k12 (by omega)).g0 k13)).lt
  have hlt_13 := ((((((((hB5.g0 k7).g0 k8).gne k9 (by omega)).g0 k10).g0 k11).gne k12 (by omega)).g0 k13)).lt
  have hlt_14 := (((((hB7.g0 k10).g0 k11).gne k12 (by omega)).g0 k13)).lt
  have hlt_15 := ((hB9.g0 k13)).lt
  refine st (s_alloc zero31 ?_)
  intro g6 w14 hg6 hB10 k14 hs10
  have hz13 := hb13.size
  have hn7 := own_new hO24 hg6
  have hn8 := own_new hO25 hg6
  have hn9 := own_new hO26 hg6
  have hn10 := own_new hO23 hg6
  have hb14 := below_g0 hb13 k14
  have hO27 := hO24.g0 k14
  have hO28 := hO25.g0 k14
  have hO29 := hO26.g0 k14
  have hO30 := hO23.g0 k14
  refine st0 (s_storeN row31 rfl rfl hB10 (by simp only [List.all_cons, List.all_nil, hsb4.one, Bool.and_true, Bool.and_self] <;> rfl) rfl rfl ?_)
  intro w15 hB11 k15 hs11
  have hb15 := below_g hb14 k15 (by first | omega | (have h9 := (hb14).size; omega))
  have hO31 := Own.keptG (big_gk 83 n0) hO27 k15 (Blk.isG hB10 (by decide) (by omega)) hn7
  have hO32 := Own.keptG (big_gk 83 n0) hO28 k15 (Blk.isG hB10 (by decide) (by omega)) hn8
  have hO33 := Own.keptG (big_gk 83 n0) hO29 k15 (Blk.isG hB10 (by decide) (by omega)) hn9
  have hO34 := Own.keptG (big_gk 83 n0) hO30 k15 (Blk.isG hB10 (by decide) (by omega)) hn10
  refine r_end (n_then (w_seq (w_region (st (s_loadW row25 rfl (((((((((((((hB1.g0 k2).g0 k4).g0 k5).gne k6 (by omega)).g0 k7).g0 k8).gne k9 (by omega)).g0 k10).g0 k11).gne k12 (by omega)).g0 k13).g0 k14).gne k15 (by omega)).range rfl (st (s_call fn46 rfl (rlevel_any (hl.at0 hb15)) ?_)))))))
  rintro _ w16 ⟨hq5, rfl⟩
  have k16 := grown_of_below hq5 none
  have hz14 := hq5.size
  have hb16 := below_g0 hb15 k16
  have hz15 := hb16.size
  have hO35 := hO31.g0 k16
  have hO36 := hO32.g0 k16
  have hO37 := hO33.g0 k16
  have hO38 := hO34.g0 k16
  refine st (s_assign rfl (r_end (n_then (w_seq (w_region (st (s_move rfl (st (s_call fn47 rfl (rbpow_any (n0 := n0) (below_n0 hn0 hb16)) ?_)))))))))
  rintro v6 w17 ⟨hq6, hv1⟩
  rw [show (shlN 1 (levelN l)) = (hf (levelN l + 1)) from (shl_hf1 hlv)] at hv1
  obtain ⟨v5, rfl, hS1⟩ := hv1
  have k17 := grown_of_below hq6 none
  have hz16 := hq6.size
  have hb17 := below_g0 hb16 k17
  have hz17 := hb17.size
  have hO39 := hO35.g0 k17
  have hO40 := hO36.g0 k17
  have hO41 := hO37.g0 k17
  have hO42 := hO38.g0 k17
  refine st (s_move rfl (st (s_sub rfl rfl (by omega) (st (s_call fn47 rfl (rbpow_any (n0 := n0) (below_n0 hn0 hb17)) ?_)))))
  rintro v8 w18 ⟨hq7, hv2⟩
  rw [show (shlN 1 ((levelN l) - 1)) = (hf (levelN l)) from (shl_hf hlv)] at hv2
  obtain ⟨v7, rfl, hS2⟩ := hv2
  have k18 := grown_of_below hq7 none
  have hz18 := hq7.size
  have hb18 := below_g0 hb17 k18
  have hz19 := hb18.size
  have hO43 := hO39.g0 k18
  have hO44 := hO40.g0 k18
  have hO45 := hO41.g0 k18
  have hO46 := hO42.g0 k18
  refine st (s_call fn48 rfl (rminus_any (n0 := n0) (below_n0 hn0 hb18) (big_of rfl hS2) (Bd.le (bd_hf hlv.2) (show 42 ≤ 90000 by decide))) ?_)
  rintro _ w19 ⟨hq8, v9, rfl, hS3⟩
  have k19 := grown_of_below hq8 none
  have hz20 := hq8.size
  have hb19 := below_g0 hb18 k19
  have hz21 := hb19.size
  have hO47 := hO43.g0 k19
  have hO48 := hO44.g0 k19
  have hO49 := hO45.g0 k19
  have hO50 := hO46.g0 k19
  have hlt_16 := ((((((((((((((((((hB1.g0 k2).g0 k4).g0 k5).gne k6 (by omega)).g0 k7).g0 k8).gne k9 (by omega)).g0 k10).g0 k11).gne k12 (by omega)).g0 k13).g0 k14).gne k15 (by omega)).g0 k16).g0 k17).g0 k18).g0 k19)).lt
  have hlt_17 := (((((((((((((((((hB2.g0 k4).g0 k5).gne k6 (by omega)).g0 k7).g0 k8).gne k9 (by omega)).g0 k10).g0 k11).gne k12 (by omega)).g0 k13).g0 k14).gne k15 (by omega)).g0 k16).g0 k17).g0 k18).g0 k19)).lt
  have hlt_18 := ((((((((((((((hB5.g0 k7).g0 k8).gne k9 (by omega)).g0 k10).g0 k11).gne k12 (by omega)).g0 k13).g0 k14).gne k15 (by omega)).g0 k16).g0 k17).g0 k18).g0 k19)).lt
  have hlt_19 := (((((((((((hB7.g0 k10).g0 k11).gne k12 (by omega)).g0 k13).g0 k14).gne k15 (by omega)).g0 k16).g0 k17).g0 k18).g0 k19)).lt
  have hlt_20 := ((((((((hB9.g0 k13).g0 k14).gne k15 (by omega)).g0 k16).g0 k17).g0 k18).g0 k19)).lt
  have hlt_21 := (((((hB11.g0 k16).g0 k17).g0 k18).g0 k19)).lt
  refine st (s_alloc zero31 ?_)
  intro g7 w20 hg7 hB12 k20 hs12
  have hz22 := hb19.size
  have hn11 := own_new hO47 hg7
  have hn12 := own_new hO48 hg7
  have hn13 := own_new hO49 hg7
  have hn14 := own_new hO50 hg7
  have hb20 := below_g0 hb19 k20
  have hO51 := hO47.g0 k20
  have hO52 := hO48.g0 k20
  have hO53 := hO49.g0 k20
  have hO54 := hO50.g0 k20
  have hlt_22 := (((((((((((((((((((hB1.g0 k2).g0 k4).g0 k5).gne k6 (by omega)).g0 k7).g0 k8).gne k9 (by omega)).g0 k10).g0 k11).gne k12 (by omega)).g0 k13).g0 k14).gne k15 (by omega)).g0 k16).g0 k17).g0 k18).g0 k19).g0 k20)).lt
  have hlt_23 := ((((((((((((((((((hB2.g0 k4).g0 k5).gne k6 (by omega)).g0 k7).g0 k8).gne k9 (by omega)).g0 k10).g0 k11).gne k12 (by omega)).g0 k13).g0 k14).gne k15 (by omega)).g0 k16).g0 k17).g0 k18).g0 k19).g0 k20)).lt
  have hlt_24 := (((((((((((((((hB5.g0 k7).g0 k8).gne k9 (by omega)).g0 k10).g0 k11).gne k12 (by omega)).g0 k13).g0 k14).gne k15 (by omega)).g0 k16).g0 k17).g0 k18).g0 k19).g0 k20)).lt
  have hlt_25 := ((((((((((((hB7.g0 k10).g0 k11).gne k12 (by omega)).g0 k13).g0 k14).gne k15 (by omega)).g0 k16).g0 k17).g0 k18).g0 k19).g0 k20)).lt
  have hlt_26 := (((((((((hB9.g0 k13).g0 k14).gne k15 (by omega)).g0 k16).g0 k17).g0 k18).g0 k19).g0 k20)).lt
  have hlt_27 := ((((((hB11.g0 k16).g0 k17).g0 k18).g0 k19).g0 k20)).lt
  have hlt_28 := (hB12).lt
  refine st (s_alloc zero31 ?_)
  intro g8 w21 hg8 hB13 k21 hs13
  have hz23 := hb20.size
  have hn15 := own_new hO51 hg8
  have hn16 := own_new hO52 hg8
  have hn17 := own_new hO53 hg8
  have hn18 := own_new hO54 hg8
  have hb21 := below_g0 hb20 k21
  refine st0 (s_storeN row31 rfl rfl (hB12.g0 k21) (by simp only [List.all_cons, List.all_nil, hS1.one, Bool.and_true, Bool.and_self] <;> rfl) rfl rfl ?_)
  intro w22 hB14 k22 hs14
  have hb22 := below_g hb21 k22 (by first | omega | (have h9 := (hb21).size; omega))
  refine st0 (s_storeN row31 rfl rfl (hB13.gne k22 (by omega)) (by simp only [List.all_cons, List.all_nil, hS3.one, Bool.and_true, Bool.and_self] <;> rfl) rfl rfl ?_)
  intro w23 hB15 k23 hs15
  have hb23 := below_g hb22 k23 (by first | omega | (have h9 := (hb22).size; omega))
  refine r_end (n_then (w_seq ?_))
  refine w_draw 17 (fun a b => a.grownBy b none) [(some 58, Is <| .agg [.bool (decide ((-(hf (levelN l))) < 0)), v9].toArray), (some 59, Is <| .agg [.bool (decide ((ix (edgeL fX l) (l.length : Int)) < 0)), sb1].toArray), (some 60, fun v W => IsBig 83 n0 W v (((-(hf (levelN l))) + (ix (edgeL fX l) (l.length : Int))))), (some 61, Is <| .agg [.bool (decide ((-(hf (levelN l))) < 0)), v9].toArray), (some 62, Is <| .agg [.bool (decide ((ix (edgeL fY l) (l.length : Int)) < 0)), sb3].toArray), (some 63, fun v W => IsBig 83 n0 W v (((-(hf (levelN l))) + (ix (edgeL fY l) (l.length : Int))))), (some 64, Is <| .agg [.bool (decide ((hf (levelN l + 1)) < 0)), v5].toArray), (some 65, Is <| .agg [.bool (decide ((ix (edgeL fX l) (l.length : Int)) < 0)), sb1].toArray), (some 66, Is <| .agg [.bool (decide ((ix (edgeL (fun k => !fX k) l) (l.length : Int)) < 0)), sb2].toArray), (some 67, fun v W => IsBig 83 n0 W v (((ix (edgeL fX l) (l.length : Int)) + (ix (edgeL (fun k => !fX k) l) (l.length : Int))))), (some 68, fun v W => IsBig 83 n0 W v (((hf (levelN l + 1)) - ((ix (edgeL fX l) (l.length : Int)) + (ix (edgeL (fun k => !fX k) l) (l.length : Int)))))), (some 69, Is <| .agg [.bool (decide ((hf (levelN l + 1)) < 0)), v5].toArray), (some 70, Is <| .agg [.bool (decide ((ix (edgeL fY l) (l.length : Int)) < 0)), sb3].toArray), (some 71, Is <| .agg [.bool (decide ((ix (edgeL (fun k => !fY k) l) (l.length : Int)) < 0)), sb4].toArray), (some 72, fun v W => IsBig 83 n0 W v (((ix (edgeL fY l) (l.length : Int)) + (ix (edgeL (fun k => !fY k) l) (l.length : Int))))), (some 73, fun v W => IsBig 83 n0 W v (((hf (levelN l + 1)) - ((ix (edgeL fY l) (l.length : Int)) + (ix (edgeL (fun k => !fY k) l) (l.length : Int)))))), (some 74, fun v W => ∃ v10 v11 v13 v15 : Value, v = .agg [.bool (decide (((-(hf (levelN l))) + (ix (edgeL fX l) (l.length : Int))) < 0)), v10, .bool (decide (((-(hf (levelN l))) + (ix (edgeL fY l) (l.length : Int))) < 0)), v11, .bool (decide (((hf (levelN l + 1)) - ((ix (edgeL fX l) (l.length : Int)) + (ix (edgeL (fun k => !fX k) l) (l.length : Int)))) < 0)), v13, .bool (decide (((hf (levelN l + 1)) - ((ix (edgeL fY l) (l.length : Int)) + (ix (edgeL (fun k => !fY k) l) (l.length : Int)))) < 0)), v15].toArray ∧ Sl Kd.u32 W (G 83 n0 W) v10 (ml ((-(hf (levelN l))) + (ix (edgeL fX l) (l.length : Int)))) ∧ Sl Kd.u32 W (G 83 n0 W) v11 (ml ((-(hf (levelN l))) + (ix (edgeL fY l) (l.length : Int)))) ∧ Sl Kd.u32 W (G 83 n0 W) v13 (ml ((hf (levelN l + 1)) - ((ix (edgeL fX l) (l.length : Int)) + (ix (edgeL (fun k => !fX k) l) (l.length : Int))))) ∧ Sl Kd.u32 W (G 83 n0 W) v15 (ml ((hf (levelN l + 1)) - ((ix (edgeL fY l) (l.length : Int)) + (ix (edgeL (fun k => !fY k) l) (l.length : Int))))))] [[], [], [0, 1], [], [], [3, 4], [], [], [], [7, 8], [6, 9], [], [], [], [12, 13], [11, 14], [2, 5, 10, 15]] [(2, .pointer (some ⟨g2, 0, none⟩)), (3, .bool false), (5, .pointer (some ⟨g3, 0, none⟩)), (6, .pointer (some ⟨g4, 0, none⟩)), (7, .pointer (some ⟨g5, 0, none⟩)), (8, .pointer (some ⟨g6, 0, none⟩)), (10, .pointer (some ⟨g7, 0, none⟩)), (11, .pointer (some ⟨g8, 0, none⟩))] (by exact ⟨rfl, rfl, rfl, rfl, rfl, rfl, rfl, rfl, trivial⟩) (by kernel_rfl) (by kernel_rfl) grown_none_refl (fun _ _ _ => grown_none_trans) ⟨kv, kv, fun _ _ _ h k => h.g0 k, kv, kv, fun _ _ _ h k => h.g0 k, kv, kv, kv, fun _ _ _ h k => h.g0 k, fun _ _ _ h k => h.g0 k, kv, kv, kv, fun _ _ _ h k => h.g0 k, fun _ _ _ h k => h.g0 k, fun _ _ _ h k => by obtain ⟨v10, v11, v13, v15, e, h0, h1, h2, h3⟩ := h; exact ⟨v10, v11, v13, v15, e, h0.gg0 k, h1.gg0 k, h2.gg0 k, h3.gg0 k⟩, trivial⟩ ?_
  intro w30 k30 hs16
  have hb24 := below_g0 hb23 k30
  refine ⟨⟨?_, ?_, ?_, ?_, ?_, ?_, ?_, ?_, ?_, ?_, ?_, ?_, ?_, ?_, ?_, ?_, ?_, trivial⟩, ?_⟩
  · intro w31 k31
    refine op1 (s_loadW row31 rfl ((hB15.g0 k30).g0 k31).range rfl ?_)
    exact ⟨rfl, grown_none_refl _⟩
  · intro w32 k32
    refine op1 (s_loadW row31 rfl (((((((((((((((((((hB5.g0 k7).g0 k8).gne k9 (by omega)).g0 k10).g0 k11).gne k12 (by omega)).g0 k13).g0 k14).gne k15 (by omega)).g0 k16).g0 k17).g0 k18).g0 k19).g0 k20).g0 k21).gne k22 (by omega)).gne k23 (by omega)).g0 k30).g0 k32).range rfl ?_)
    exact ⟨rfl, grown_none_refl _⟩
  · intro w33 k33
    have hb27 := below_g0 hb24 k33
    rintro _ rfl _ rfl
    refine op1 (s_call fn22 rfl (rbadd_any (n0 := n0) (below_n0 hn0 hb27) (big_of rfl ((((((hS3.gg0 k20).gg0 k21).ggB k22 (hB12.g0 k21) (by decide) (by omega)).ggB k23 (hB13.gne k22 (by omega)) (by decide) (by omega)).gg0 k30).gg0 k33)) (big_of rfl (((((((((((((((((((((hsb1.gg0 k5).ggB k6 hB4 (by decide) (by omega)).gg0 k7).gg0 k8).ggB k9 hB6 (by decide) (by omega)).gg0 k10).gg0 k11).ggB k12 hB8 (by decide) (by omega)).gg0 k13).gg0 k14).ggB k15 hB10 (by decide) (by omega)).gg0 k16).gg0 k17).gg0 k18).gg0 k19).gg0 k20).gg0 k21).ggB k22 (hB12.g0 k21) (by decide) (by omega)).ggB k23 (hB13.gne k22 (by omega)) (by decide) (by omega)).gg0 k30).gg0 k33)) (Bd.le (bd_neg (bd_hf hlv.2)) (show 42 ≤ 90000 by decide)) (Bd.le (edgeL_bd (f := fX) hl_ok) (show 42 ≤ 90000 by decide))) ?_)
    rintro _ w34 ⟨hq15, v16, rfl, hS10⟩
    have k34 := grown_of_below hq15 none
    have hz24 := hq15.size
    have hb28 := below_g0 hb27 k34
    have hz25 := hb28.size
    exact ⟨⟨_, rfl, hS10⟩, k34⟩
  · intro w35 k35
    refine op1 (s_loadW row31 rfl ((hB15.g0 k30).g0 k35).range rfl ?_)
    exact ⟨rfl, grown_none_refl _⟩
  · intro w36 k36
    refine op1 (s_loadW row31 rfl (((((((((((((hB9.g0 k13).g0 k14).gne k15 (by omega)).g0 k16).g0 k17).g0 k18).g0 k19).g0 k20).g0 k21).gne k22 (by omega)).gne k23 (by omega)).g0 k30).g0 k36).range rfl ?_)
    exact ⟨rfl, grown_none_refl _⟩
  · intro w37 k37
    have hb31 := below_g0 hb24 k37
    rintro _ rfl _ rfl
    refine op1 (s_call fn22 rfl (rbadd_any (n0 := n0) (below_n0 hn0 hb31) (big_of rfl ((((((hS3.gg0 k20).gg0 k21).ggB k22 (hB12.g0 k21) (by decide) (by omega)).ggB k23 (hB13.gne k22 (by omega)) (by decide) (by omega)).gg0 k30).gg0 k37)) (big_of rfl (((((((((((((((hsb3.gg0 k11).ggB k12 hB8 (by decide) (by omega)).gg0 k13).gg0 k14).ggB k15 hB10 (by decide) (by omega)).gg0 k16).gg0 k17).gg0 k18).gg0 k19).gg0 k20).gg0 k21).ggB k22 (hB12.g0 k21) (by decide) (by omega)).ggB k23 (hB13.gne k22 (by omega)) (by decide) (by omega)).gg0 k30).gg0 k37)) (Bd.le (bd_neg (bd_hf hlv.2)) (show 42 ≤ 90000 by decide)) (Bd.le (edgeL_bd (f := fY) hl_ok) (show 42 ≤ 90000 by decide))) ?_)
    rintro _ w38 ⟨hq16, v17, rfl, hS11⟩
    have k38 := grown_of_below hq16 none
    have hz26 := hq16.size
    have hb32 := below_g0 hb31 k38
    have hz27 := hb32.size
    exact ⟨⟨_, rfl, hS11⟩, k38⟩
  · intro w39 k39
    refine op1 (s_loadW row31 rfl (((hB14.gne k23 (by omega)).g0 k30).g0 k39).range rfl ?_)
    exact ⟨rfl, grown_none_refl _⟩
  · intro w40 k40
    refine op1 (s_loadW row31 rfl (((((((((((((((((((hB5.g0 k7).g0 k8).gne k9 (by omega)).g0 k10).g0 k11).gne k12 (by omega)).g0 k13).g0 k14).gne k15 (by omega)).g0 k16).g0 k17).g0 k18).g0 k19).g0 k20).g0 k21).gne k22 (by omega)).gne k23 (by omega)).g0 k30).g0 k40).range rfl ?_)
    exact ⟨rfl, grown_none_refl _⟩
  · intro w41 k41
    refine op1 (s_loadW row31 rfl ((((((((((((((((hB7.g0 k10).g0 k11).gne k12 (by omega)).g0 k13).g0 k14).gne k15 (by omega)).g0 k16).g0 k17).g0 k18).g0 k19).g0 k20).g0 k21).gne k22 (by omega)).gne k23 (by omega)).g0 k30).g0 k41).range rfl ?_)
    exact ⟨rfl, grown_none_refl _⟩
  · intro w42 k42
    have hb36 := below_g0 hb24 k42
    rintro _ rfl _ rfl
    refine op1 (s_call fn22 rfl (rbadd_any (n0 := n0) (below_n0 hn0 hb36) (big_of rfl (((((((((((((((((((((hsb1.gg0 k5).ggB k6 hB4 (by decide) (by omega)).gg0 k7).gg0 k8).ggB k9 hB6 (by decide) (by omega)).gg0 k10).gg0 k11).ggB k12 hB8 (by decide) (by omega)).gg0 k13).gg0 k14).ggB k15 hB10 (by decide) (by omega)).gg0 k16).gg0 k17).gg0 k18).gg0 k19).gg0 k20).gg0 k21).ggB k22 (hB12.g0 k21) (by decide) (by omega)).ggB k23 (hB13.gne k22 (by omega)) (by decide) (by omega)).gg0 k30).gg0 k42)) (big_of rfl ((((((((((((((((((hsb2.gg0 k8).ggB k9 hB6 (by decide) (by omega)).gg0 k10).gg0 k11).ggB k12 hB8 (by decide) (by omega)).gg0 k13).gg0 k14).ggB k15 hB10 (by decide) (by omega)).gg0 k16).gg0 k17).gg0 k18).gg0 k19).gg0 k20).gg0 k21).ggB k22 (hB12.g0 k21) (by decide) (by omega)).ggB k23 (hB13.gne k22 (by omega)) (by decide) (by omega)).gg0 k30).gg0 k42)) (Bd.le (edgeL_bd (f := fX) hl_ok) (show 42 ≤ 90000 by decide)) (Bd.le (edgeL_bd (f := (fun k => !fX k)) hl_ok) (show 42 ≤ 90000 by decide))) ?_)
    rintro _ w43 ⟨hq17, v18, rfl, hS12⟩
    have k43 := grown_of_below hq17 none
    have hz28 := hq17.size
    have hb37 := below_g0 hb36 k43
    have hz29 := hb37.size
    exact ⟨⟨_, rfl, hS12⟩, k43⟩
  · intro w44 k44
    have hb38 := below_g0 hb24 k44
    rintro _ rfl _ ⟨v19, rfl, hS13⟩
    refine op1 (s_call fn21 rfl (rbsub_any (n0 := n0) (below_n0 hn0 hb38) (big_of rfl ((((((((hS1.gg0 k18).gg0 k19).gg0 k20).gg0 k21).ggB k22 (hB12.g0 k21) (by decide) (by omega)).ggB k23 (hB13.gne k22 (by omega)) (by decide) (by omega)).gg0 k30).gg0 k44)) (big_of rfl hS13) (Bd.le (bd_hf1 hlv.2) (show 42 ≤ 90000 by decide)) (Bd.le (bd_add (edgeL_bd (f := fX) hl_ok) (edgeL_bd (f := (fun k => !fX k)) hl_ok) (show 42 < 43 by decide) (show 42 < 43 by decide)) (show 43 ≤ 90000 by decide))) ?_)
    rintro _ w45 ⟨hq18, v20, rfl, hS14⟩
    have k45 := grown_of_below hq18 none
    have hz30 := hq18.size
    have hb39 := below_g0 hb38 k45
    have hz31 := hb39.size
    exact ⟨⟨_, rfl, hS14⟩, k45⟩
  · intro w46 k46
    refine op1 (s_loadW row31 rfl (((hB14.gne k23 (by omega)).g0 k30).g0 k46).range rfl ?_)
    exact ⟨rfl, grown_none_refl _⟩
  · intro w47 k47
    refine op1 (s_loadW row31 rfl (((((((((((((hB9.g0 k13).g0 k14).gne k15 (by omega)).g0 k16).g0 k17).g0 k18).g0 k19).g0 k20).g0 k21).gne k22 (by omega)).gne k23 (by omega)).g0 k30).g0 k47).range rfl ?_)
    exact ⟨rfl, grown_none_refl _⟩
  · intro w48 k48
    refine op1 (s_loadW row31 rfl ((((((((((hB11.g0 k16).g0 k17).g0 k18).g0 k19).g0 k20).g0 k21).gne k22 (by omega)).gne k23 (by omega)).g0 k30).g0 k48).range rfl ?_)
    exact ⟨rfl, grown_none_refl _⟩
  · intro w49 k49
    have hb43 := below_g0 hb24 k49
    rintro _ rfl _ rfl
    refine op1 (s_call fn22 rfl (rbadd_any (n0 := n0) (below_n0 hn0 hb43) (big_of rfl (((((((((((((((hsb3.gg0 k11).ggB k12 hB8 (by decide) (by omega)).gg0 k13).gg0 k14).ggB k15 hB10 (by decide) (by omega)).gg0 k16).gg0 k17).gg0 k18).gg0 k19).gg0 k20).gg0 k21).ggB k22 (hB12.g0 k21) (by decide) (by omega)).ggB k23 (hB13.gne k22 (by omega)) (by decide) (by omega)).gg0 k30).gg0 k49)) (big_of rfl ((((((((((((hsb4.gg0 k14).ggB k15 hB10 (by decide) (by omega)).gg0 k16).gg0 k17).gg0 k18).gg0 k19).gg0 k20).gg0 k21).ggB k22 (hB12.g0 k21) (by decide) (by omega)).ggB k23 (hB13.gne k22 (by omega)) (by decide) (by omega)).gg0 k30).gg0 k49)) (Bd.le (edgeL_bd (f := fY) hl_ok) (show 42 ≤ 90000 by decide)) (Bd.le (edgeL_bd (f := (fun k => !fY k)) hl_ok) (show 42 ≤ 90000 by decide))) ?_)
    rintro _ w50 ⟨hq19, v21, rfl, hS15⟩
    have k50 := grown_of_below hq19 none
    have hz32 := hq19.size
    have hb44 := below_g0 hb43 k50
    have hz33 := hb44.size
    exact ⟨⟨_, rfl, hS15⟩, k50⟩
  · intro w51 k51
    have hb45 := below_g0 hb24 k51
    rintro _ rfl _ ⟨v22, rfl, hS16⟩
    refine op1 (s_call fn21 rfl (rbsub_any (n0 := n0) (below_n0 hn0 hb45) (big_of rfl ((((((((hS1.gg0 k18).gg0 k19).gg0 k20).gg0 k21).ggB k22 (hB12.g0 k21) (by decide) (by omega)).ggB k23 (hB13.gne k22 (by omega)) (by decide) (by omega)).gg0 k30).gg0 k51)) (big_of rfl hS16) (Bd.le (bd_hf1 hlv.2) (show 42 ≤ 90000 by decide)) (Bd.le (bd_add (edgeL_bd (f := fY) hl_ok) (edgeL_bd (f := (fun k => !fY k)) hl_ok) (show 42 < 43 by decide) (show 42 < 43 by decide)) (show 43 ≤ 90000 by decide))) ?_)
    rintro _ w52 ⟨hq20, v23, rfl, hS17⟩
    have k52 := grown_of_below hq20 none
    have hz34 := hq20.size
    have hb46 := below_g0 hb45 k52
    have hz35 := hb46.size
    exact ⟨⟨_, rfl, hS17⟩, k52⟩
  · intro w53 k53
    rintro _ ⟨v24, rfl, hS18⟩ _ ⟨v25, rfl, hS19⟩ _ ⟨v26, rfl, hS20⟩ _ ⟨v27, rfl, hS21⟩
    refine op1 (s_build (ps := [(0, .tmp 60), (1, .tmp 63), (2, .tmp 68), (3, .tmp 73)]) (ccs := [#[.bool (decide (((-(hf (levelN l))) + (ix (edgeL fX l) (l.length : Int))) < 0)), v24], #[.bool (decide (((-(hf (levelN l))) + (ix (edgeL fY l) (l.length : Int))) < 0)), v25], #[.bool (decide (((hf (levelN l + 1)) - ((ix (edgeL fX l) (l.length : Int)) + (ix (edgeL (fun k => !fX k) l) (l.length : Int)))) < 0)), v26], #[.bool (decide (((hf (levelN l + 1)) - ((ix (edgeL fY l) (l.length : Int)) + (ix (edgeL (fun k => !fY k) l) (l.length : Int)))) < 0)), v27]]) (cells := [.bool (decide (((-(hf (levelN l))) + (ix (edgeL fX l) (l.length : Int))) < 0)), v24, .bool (decide (((-(hf (levelN l))) + (ix (edgeL fY l) (l.length : Int))) < 0)), v25, .bool (decide (((hf (levelN l + 1)) - ((ix (edgeL fX l) (l.length : Int)) + (ix (edgeL (fun k => !fX k) l) (l.length : Int)))) < 0)), v26, .bool (decide (((hf (levelN l + 1)) - ((ix (edgeL fY l) (l.length : Int)) + (ix (edgeL (fun k => !fY k) l) (l.length : Int)))) < 0)), v27]) rfl rfl (by kernel_rfl) ?_)
    exact ⟨⟨_, _, _, _, rfl, hS18, hS19, hS20, hS21⟩, grown_none_refl _⟩
  intro w54 k54
  have hb48 := below_g0 hb24 k54
  rintro _ rfl _ rfl _ ⟨v28, rfl, hS22⟩ _ rfl _ rfl _ ⟨v29, rfl, hS23⟩ _ rfl _ rfl _ rfl _ ⟨v30, rfl, hS24⟩ _ ⟨v31, rfl, hS25⟩ _ rfl _ rfl _ rfl _ ⟨v32, rfl, hS26⟩ _ ⟨v33, rfl, hS27⟩ _ ⟨v34, v35, v36, v37, rfl, hS28, hS29, hS30, hS31⟩
  refine st0 (s_storeN row33 rfl rfl ((((((((((((((((((((((hB2.g0 k4).g0 k5).gne k6 (by omega)).g0 k7).g0 k8).gne k9 (by omega)).g0 k10).g0 k11).gne k12 (by omega)).g0 k13).g0 k14).gne k15 (by omega)).g0 k16).g0 k17).g0 k18).g0 k19).g0 k20).g0 k21).gne k22 (by omega)).gne k23 (by omega)).g0 k30).g0 k54) (by simp only [List.all_cons, List.all_nil, hS28.one, hS29.one, hS30.one, hS31.one, Bool.and_true, Bool.and_self] <;> rfl) rfl rfl ?_)
  intro w55 hB16 k55 hs17
  have hb49 := below_g hb48 k55 (by first | omega | (have h9 := (hb48).size; omega))
  refine st (s_assign rfl (r_end (n_then (w_retc2 rfl row33 rfl rfl hB16.range rfl ?_))))
  refine ⟨_, rfl, hb49, ?_⟩
  rw [rbx_some hfull hnn, rbx_eq hl_ok hfull hnn]
  exact ⟨_, rfl, _, _, _, _, rfl, (hS28.ggB k55 ((((((((((((((((((((((hB2.g0 k4).g0 k5).gne k6 (by omega)).g0 k7).g0 k8).gne k9 (by omega)).g0 k10).g0 k11).gne k12 (by omega)).g0 k13).g0 k14).gne k15 (by omega)).g0 k16).g0 k17).g0 k18).g0 k19).g0 k20).g0 k21).gne k22 (by omega)).gne k23 (by omega)).g0 k30).g0 k54) (by decide) (by omega)), (hS29.ggB k55 ((((((((((((((((((((((hB2.g0 k4).g0 k5).gne k6 (by omega)).g0 k7).g0 k8).gne k9 (by omega)).g0 k10).g0 k11).gne k12 (by omega)).g0 k13).g0 k14).gne k15 (by omega)).g0 k16).g0 k17).g0 k18).g0 k19).g0 k20).g0 k21).gne k22 (by omega)).gne k23 (by omega)).g0 k30).g0 k54) (by decide) (by omega)), (hS30.ggB k55 ((((((((((((((((((((((hB2.g0 k4).g0 k5).gne k6 (by omega)).g0 k7).g0 k8).gne k9 (by omega)).g0 k10).g0 k11).gne k12 (by omega)).g0 k13).g0 k14).gne k15 (by omega)).g0 k16).g0 k17).g0 k18).g0 k19).g0 k20).g0 k21).gne k22 (by omega)).gne k23 (by omega)).g0 k30).g0 k54) (by decide) (by omega)), (hS31.ggB k55 ((((((((((((((((((((((hB2.g0 k4).g0 k5).gne k6 (by omega)).g0 k7).g0 k8).gne k9 (by omega)).g0 k10).g0 k11).gne k12 (by omega)).g0 k13).g0 k14).gne k15 (by omega)).g0 k16).g0 k17).g0 k18).g0 k19).g0 k20).g0 k21).gne k22 (by omega)).gne k23 (by omega)).g0 k30).g0 k54) (by decide) (by omega))⟩

set_option maxHeartbeats 1000000 in
theorem rwithin_any {w : World} {F : Nat → Prop} {va : Value} {l : List Nd} {m : Int} {n0 : Nat} (hn0 : n0 ≤ w.heap.size) (hl : Sl Kd.node w F va l) (hl_ok : looseB l = true) (hll : l.length ≤ 100000) (hm : -9223372036854775808 ≤ m ∧ m ≤ 9223372036854775807) (hfull : Full l) :
    Calls Try.prog 16 [.agg [va].toArray, .int .i64 m].toArray w (Pure w fun v _ => v = .bool (withinB (bxOf l) m)) := by
  have hb0 := Below.refl w.heap.size w
  refine enter Try.func16 rfl rfl (w_seq (w_region (st (s_box rfl ?_))))
  intro g1 w1 hg1 hB1 k1 hs1
  change Blk w1 g1 25 [va].toArray at hB1
  have hb1 := below_g0 hb0 k1
  refine st (s_assign rfl (r_end (n_then (w_seq (w_region (st (s_loadW row25 rfl hB1.range rfl (st (s_call fn13 rfl (rbof_any (n0 := n0) (below_n0 hn0 hb1) (hl.at0 hb1) hl_ok (by omega) hfull) ?_)))))))))
  rintro _ w2 ⟨hq1, _, rfl, v1, v2, v3, v4, rfl, hS1, hS2, hS3, hS4⟩
  have k2 := grown_of_below hq1 none
  have hz1 := hq1.size
  have hb2 := below_g0 hb1 k2
  have hz2 := hb2.size
  refine st (s_move rfl (st (s_extract rfl rfl (st (s_extract rfl rfl ?_)))))
  have hlt_1 := ((hB1.g0 k2)).lt
  refine st (s_alloc zero33 ?_)
  intro g2 w3 hg2 hB2 k3 hs2
  have hz3 := hb2.size
  have hb3 := below_g0 hb2 k3
  refine st0 (s_storeN row33 rfl rfl hB2 (by simp only [List.all_cons, List.all_nil, hS1.one, hS2.one, hS3.one, hS4.one, Bool.and_true, Bool.and_self] <;> rfl) rfl rfl ?_)
  intro w4 hB3 k4 hs3
  have hb4 := below_g hb3 k4 (by first | omega | (have h9 := (hb3).size; omega))
  refine st (s_assign rfl (r_end (n_then (w_seq ?_))))
  by_cases h1 : (cmpI ((bxOf l).w) m) ≤ 0
  rotate_left
  · refine w_draw 14 (fun a b => a.grownBy b none) [(some 12, Is <| .pointer (some ⟨g2, 0 + 4, none⟩)), (some 13, Is <| .agg [.bool (decide ((bxOf l).w < 0)), v3].toArray), (some 14, Is <| .int .i64 m), (some 15, fun v W => IsBig 83 n0 W v (m)), (some 16, Is <| .int .i64 (cmpI ((bxOf l).w) m)), (some 17, Is <| .bool (decide ((cmpI ((bxOf l).w) m) ≤ 0))), (some 18, Is <| .bool false), (some 19, Is <| undef), (some 20, Is <| undef), (some 21, Is <| undef), (some 22, Is <| undef), (some 23, Is <| undef), (some 24, Is <| undef), (some 25, Is <| .bool false)] [[], [0], [], [2], [1, 3], [4], [5], [6], [6, 7], [6], [6, 9], [6, 8, 10], [6, 11], [6, 12]] [(1, .int .i64 m), (4, .bool false), (5, .pointer (some ⟨g2, 0, none⟩))] (by exact ⟨rfl, rfl, rfl, trivial⟩) (by kernel_rfl) (by kernel_rfl) grown_none_refl (fun _ _ _ => grown_none_trans) ⟨kv, kv, kv, fun _ _ _ h k => h.g0 k, kv, kv, kv, kv, kv, kv, kv, kv, kv, kv, trivial⟩ ?_
    intro w31 k31 hs5
    have hb25 := below_g0 hb4 k31
    refine ⟨⟨?_, ?_, ?_, ?_, ?_, ?_, ?_, ?_, ?_, ?_, ?_, ?_, ?_, ?_, trivial⟩, ?_⟩
    · intro w32 k32
      refine op1 (s_faddr fld33_2 rfl ?_)
      exact ⟨rfl, grown_none_refl _⟩
    · intro w33 k33
      rintro _ rfl
      refine op1 (s_loadN (us := [.bool (decide ((bxOf l).w < 0)), v3]) row31 rfl ((hB3.g0 k31).g0 k33).range (j := 4) rfl rfl ?_)
      exact ⟨rfl, grown_none_refl _⟩
    · intro w34 k34
      refine op1 (s_move rfl ?_)
      exact ⟨rfl, grown_none_refl _⟩
    · intro w35 k35
      have hb29 := below_g0 hb25 k35
      rintro _ rfl
      refine op1 (s_call fn20 rfl (rof2_any (n0 := n0) (below_n0 hn0 hb29) (by omega)) ?_)
      rintro _ w36 ⟨hq12, v14, rfl, hS14⟩
      have k36 := grown_of_below hq12 none
      have hz12 := hq12.size
      have hb30 := below_g0 hb29 k36
      have hz13 := hb30.size
      exact ⟨⟨_, rfl, hS14⟩, k36⟩
    · intro w37 k37
      have hb31 := below_g0 hb25 k37
      rintro _ rfl _ ⟨v15, rfl, hS15⟩
      refine op1 (s_call fn23 rfl (rbcmp_any (n0 := n0) (below_n0 hn0 hb31) (big_of rfl ((((hS3.gg0 k3).ggB k4 hB2 (by decide) (by omega)).gg0 k31).gg0 k37)) (big_of rfl hS15) (Bd.le (bxOf_bd (l := l) hl_ok).w (show 44 ≤ 90000 by decide)) (Bd.le (bd_small (by omega)) (show 2 ≤ 90000 by decide))) ?_)
      rintro _ w38 ⟨hq13, rfl⟩
      have k38 := grown_of_below hq13 none
      have hz14 := hq13.size
      have hb32 := below_g0 hb31 k38
      have hz15 := hb32.size
      exact ⟨rfl, k38⟩
    · intro w39 k39
      rintro _ rfl
      refine op1 (s_le rfl rfl ?_)
      exact ⟨rfl, grown_none_refl _⟩
    · intro w40 k40
      rintro _ rfl
      refine op1 (s_move rfl ?_)
      exact ⟨(by rw [decide_eq_false h1]), grown_none_refl _⟩
    · intro w41 k41
      rintro _ rfl
      refine op1p ⟨rfl, grown_none_refl _⟩
    · intro w42 k42
      rintro _ rfl
      intro v_ hv_; subst v_
      refine op1p ⟨rfl, grown_none_refl _⟩
    · intro w43 k43
      rintro _ rfl
      refine op1p ⟨rfl, grown_none_refl _⟩
    · intro w44 k44
      rintro _ rfl
      intro v_ hv_; subst v_
      refine op1p ⟨rfl, grown_none_refl _⟩
    · intro w45 k45
      rintro _ rfl
      intro v_ hv_; subst v_
      intro v_ hv_; subst v_
      refine op1p ⟨rfl, grown_none_refl _⟩
    · intro w46 k46
      rintro _ rfl
      intro v_ hv_; subst v_
      refine op1p ⟨rfl, grown_none_refl _⟩
    · intro w47 k47
      rintro _ rfl
      intro v_ hv_; subst v_
      refine op1 (s_pick rfl rfl ?_)
      exact ⟨rfl, grown_none_refl _⟩
    intro w48 k48
    have hb42 := below_g0 hb25 k48
    rintro _ rfl _ rfl _ rfl _ ⟨v16, rfl, hS16⟩ _ rfl _ rfl _ rfl
    intro v_ hv_; subst v_
    intro v_ hv_; subst v_
    intro v_ hv_; subst v_
    intro v_ hv_; subst v_
    intro v_ hv_; subst v_
    intro v_ hv_; subst v_
    rintro _ rfl
    refine st (s_assign rfl (r_end (n_then (w_ret1 rfl rfl ?_))))
    exact ⟨_, rfl, hb42, by unfold withinB; rw [decide_eq_false (fun e => h1 (cmpI_le.2 e))]; rfl⟩
  refine w_draw 14 (fun a b => a.grownBy b none) [(some 12, Is <| .pointer (some ⟨g2, 0 + 4, none⟩)), (some 13, Is <| .agg [.bool (decide ((bxOf l).w < 0)), v3].toArray), (some 14, Is <| .int .i64 m), (some 15, fun v W => IsBig 83 n0 W v (m)), (some 16, Is <| .int .i64 (cmpI ((bxOf l).w) m)), (some 17, Is <| .bool (decide ((cmpI ((bxOf l).w) m) ≤ 0))), (some 18, Is <| .bool true), (some 19, Is <| .pointer (some ⟨g2, 0 + 6, none⟩)), (some 20, Is <| .agg [.bool (decide ((bxOf l).h < 0)), v4].toArray), (some 21, Is <| .int .i64 m), (some 22, fun v W => IsBig 83 n0 W v (m)), (some 23, Is <| .int .i64 (cmpI ((bxOf l).h) m)), (some 24, Is <| .bool (decide ((cmpI ((bxOf l).h) m) ≤ 0))), (some 25, Is <| .bool (decide ((cmpI ((bxOf l).h) m) ≤ 0)))] [[], [0], [], [2], [1, 3], [4], [5], [6], [6, 7], [6], [6, 9], [6, 8, 10], [6, 11], [6, 12]] [(1, .int .i64 m), (4, .bool false), (5, .pointer (some ⟨g2, 0, none⟩))] (by exact ⟨rfl, rfl, rfl, trivial⟩) (by kernel_rfl) (by kernel_rfl) grown_none_refl (fun _ _ _ => grown_none_trans) ⟨kv, kv, kv, fun _ _ _ h k => h.g0 k, kv, kv, kv, kv, kv, kv, fun _ _ _ h k => h.g0 k, kv, kv, kv, trivial⟩ ?_
  intro w9 k9 hs4
  have hb5 := below_g0 hb4 k9
  refine ⟨⟨?_, ?_, ?_, ?_, ?_, ?_, ?_, ?_, ?_, ?_, ?_, ?_, ?_, ?_, trivial⟩, ?_⟩
  · intro w10 k10
    refine op1 (s_faddr fld33_2 rfl ?_)
    exact ⟨rfl, grown_none_refl _⟩
  · intro w11 k11
    rintro _ rfl
    refine op1 (s_loadN (us := [.bool (decide ((bxOf l).w < 0)), v3]) row31 rfl ((hB3.g0 k9).g0 k11).range (j := 4) rfl rfl ?_)
    exact ⟨rfl, grown_none_refl _⟩
  · intro w12 k12
    refine op1 (s_move rfl ?_)
    exact ⟨rfl, grown_none_refl _⟩
  · intro w13 k13
    have hb9 := below_g0 hb5 k13
    rintro _ rfl
    refine op1 (s_call fn20 rfl (rof2_any (n0 := n0) (below_n0 hn0 hb9) (by omega)) ?_)
    rintro _ w14 ⟨hq6, v7, rfl, hS7⟩
    have k14 := grown_of_below hq6 none
    have hz4 := hq6.size
    have hb10 := below_g0 hb9 k14
    have hz5 := hb10.size
    exact ⟨⟨_, rfl, hS7⟩, k14⟩
  · intro w15 k15
    have hb11 := below_g0 hb5 k15
    rintro _ rfl _ ⟨v8, rfl, hS8⟩
    refine op1 (s_call fn23 rfl (rbcmp_any (n0 := n0) (below_n0 hn0 hb11) (big_of rfl ((((hS3.gg0 k3).ggB k4 hB2 (by decide) (by omega)).gg0 k9).gg0 k15)) (big_of rfl hS8) (Bd.le (bxOf_bd (l := l) hl_ok).w (show 44 ≤ 90000 by decide)) (Bd.le (bd_small (by omega)) (show 2 ≤ 90000 by decide))) ?_)
    rintro _ w16 ⟨hq7, rfl⟩
    have k16 := grown_of_below hq7 none
    have hz6 := hq7.size
    have hb12 := below_g0 hb11 k16
    have hz7 := hb12.size
    exact ⟨rfl, k16⟩
  · intro w17 k17
    rintro _ rfl
    refine op1 (s_le rfl rfl ?_)
    exact ⟨rfl, grown_none_refl _⟩
  · intro w18 k18
    rintro _ rfl
    refine op1 (s_move rfl ?_)
    exact ⟨(by rw [decide_eq_true h1]), grown_none_refl _⟩
  · intro w19 k19
    rintro _ rfl
    refine op1g (s_faddr fld33_3 rfl ?_)
    exact ⟨rfl, grown_none_refl _⟩
  · intro w20 k20
    rintro _ rfl _ rfl
    refine op1g (s_loadN (us := [.bool (decide ((bxOf l).h < 0)), v4]) row31 rfl ((hB3.g0 k9).g0 k20).range (j := 6) rfl rfl ?_)
    exact ⟨rfl, grown_none_refl _⟩
  · intro w21 k21
    rintro _ rfl
    refine op1g (s_move rfl ?_)
    exact ⟨rfl, grown_none_refl _⟩
  · intro w22 k22
    have hb18 := below_g0 hb5 k22
    rintro _ rfl _ rfl
    refine op1g (s_call fn20 rfl (rof2_any (n0 := n0) (below_n0 hn0 hb18) (by omega)) ?_)
    rintro _ w23 ⟨hq8, v9, rfl, hS9⟩
    have k23 := grown_of_below hq8 none
    have hz8 := hq8.size
    have hb19 := below_g0 hb18 k23
    have hz9 := hb19.size
    exact ⟨⟨_, rfl, hS9⟩, k23⟩
  · intro w24 k24
    have hb20 := below_g0 hb5 k24
    rintro _ rfl _ rfl _ ⟨v10, rfl, hS10⟩
    refine op1g (s_call fn23 rfl (rbcmp_any (n0 := n0) (below_n0 hn0 hb20) (big_of rfl ((((hS4.gg0 k3).ggB k4 hB2 (by decide) (by omega)).gg0 k9).gg0 k24)) (big_of rfl hS10) (Bd.le (bxOf_bd (l := l) hl_ok).h (show 44 ≤ 90000 by decide)) (Bd.le (bd_small (by omega)) (show 2 ≤ 90000 by decide))) ?_)
    rintro _ w25 ⟨hq9, rfl⟩
    have k25 := grown_of_below hq9 none
    have hz10 := hq9.size
    have hb21 := below_g0 hb20 k25
    have hz11 := hb21.size
    exact ⟨rfl, k25⟩
  · intro w26 k26
    rintro _ rfl _ rfl
    refine op1g (s_le rfl rfl ?_)
    exact ⟨rfl, grown_none_refl _⟩
  · intro w27 k27
    rintro _ rfl _ rfl
    refine op1 (s_pick rfl rfl ?_)
    exact ⟨rfl, grown_none_refl _⟩
  intro w28 k28
  have hb24 := below_g0 hb5 k28
  rintro _ rfl _ rfl _ rfl _ ⟨v11, rfl, hS11⟩ _ rfl _ rfl _ rfl _ rfl _ rfl _ rfl _ ⟨v12, rfl, hS12⟩ _ rfl _ rfl _ rfl
  refine st (s_assign rfl (r_end (n_then (w_ret1 rfl rfl ?_))))
  exact ⟨_, rfl, hb24, by unfold withinB; rw [decide_eq_true (cmpI_le.1 h1), Bool.true_and]; exact congrArg Value.bool (decide_eq_decide.2 cmpI_le)⟩
end Go.Proofs.Ytfljelnfjbbknaa.Lm
