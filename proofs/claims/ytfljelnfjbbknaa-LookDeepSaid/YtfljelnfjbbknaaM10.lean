/- Part of the proof: a library for walks, plain laws, and functions' walks. -/
import Derived.Test.YtfljelnfjbbknaaM9
import Derived.Test.YtfljelnfjbbknaaM5
import Derived.Test.YtfljelnfjbbknaaM6
import Derived.Test.YtfljelnfjbbknaaM8
set_option maxRecDepth 20000
set_option linter.unusedSimpArgs false
set_option linter.unusedVariables false
namespace Go.Proofs.Ytfljelnfjbbknaa.Lm
open Go.RowKit Go.Gw
set_option maxHeartbeats 4000000 in
theorem put_any {a0 : World} {n0 : Nat} (hn0 : n0 ≤ a0.heap.size) {s : Int} (hs : 0 ≤ s ∧ s ≤ 255) :
    ∀ (f : Nat) {w : World} {vo px py : Value} {o : List Nd} {n lv x y : Int}, lv = f → 1 ≤ f ∧ f ≤ 1329 → looseB o = true → NumIn o n lv → o.length + f ≤ 1000000 → (0 ≤ x ∧ x < 2 * hf lv) → (0 ≤ y ∧ y < 2 * hf lv) → Below a0.heap.size a0 w → Gw.Own Kd.node 101 a0.heap.size w (fun _ => False) vo o →
    Sl Kd.u32 w (G 83 n0 w) px (ml x) → Sl Kd.u32 w (G 83 n0 w) py (ml y) →
    Calls Try.prog 64 [vo, .int .i64 lv, .int .i64 n, .agg [.bool (decide (x < 0)), px].toArray, .agg [.bool (decide (y < 0)), py].toArray, .int .u8 s].toArray w (Ret fun r w' => ∃ vo', r = .tuple #[vo', .int .i64 (putF f o n x y s).2] ∧ Below a0.heap.size a0 w' ∧ Gw.Own Kd.node 101 a0.heap.size w' (fun _ => False) vo' (putF f o n x y s).1 ∧
      (vo'.ownBlock = vo.ownBlock ∨ ∃ q, vo'.ownBlock = some q ∧ w.heap.size ≤ q) ∧ Two (fun i => vo.ownBlock = some i) w w') := by
  intro f
  induction f with
  | zero =>
    intro w vo px py o n lv x y hlv0 hf9 ho hni hon hx hy hb0 hE hx0 hy0
    omega
  | succ f ih =>
    intro w vo px py o n lv x y hlv0 hf9 ho hni hon hx hy hb0 hE hx0 hy0
    have hz0 := hb0.size
    have hF0 := Frm.refl (fun _ => False) w vo
    have hsz := hb0.size
    have hlv2 : lv = (f : Int) + 1 := by omega
    have hlv : 1 ≤ lv ∧ lv ≤ 1329 := by omega
    have hnr := hni.1
    refine enter Try.func64 rfl rfl (w_seq (w_region (st (s_box rfl ?_))))
    intro g1 w1 hg1 hB1 k1 hs1
    change Blk w1 g1 31 [.bool (decide (x < 0)), px].toArray at hB1
    have hb1 := below_g0 hb0 k1
    have hF1 := hF0.none k1
    have hO1 := hE.g0 k1
    refine st (s_box rfl ?_)
    intro g2 w2 hg2 hB2 k2 hs2
    change Blk w2 g2 31 [.bool (decide (y < 0)), py].toArray at hB2
    have hb2 := below_g0 hb1 k2
    have hF2 := hF1.none k2
    have hO2 := hO1.g0 k2
    refine st (s_assign rfl (st (s_assign rfl (r_end (n_then (w_seq (w_region (st (s_move rfl ?_)))))))))
    refine st (s_build (ps := [(0, .tmp 18)]) (ccs := [#[.int .i64 lv]]) (cells := [.int .i64 lv, .int .i64 0, .int .i64 0, .int .i64 0, .int .i64 0]) rfl rfl (by kernel_rfl) ?_)
    have hlt_1 := ((hB1.g0 k2)).lt
    have hlt_2 := (hB2).lt
    refine st (s_alloc zero101 ?_)
    intro g3 w3 hg3 hB3 k3 hs3
    have hz1 := hb2.size
    have hn1 := own_new hO2 hg3
    have hb3 := below_g0 hb2 k3
    have hF3 := hF2.none k3
    have hO3 := hO2.g0 k3
    refine st0 (s_storeN row101 rfl rfl hB3 rfl rfl rfl ?_)
    intro w4 hB4 k4 hs4
    have hb4 := below_g hb3 k4 (by first | omega | (have h9 := (hb3).size; omega))
    have hF4 := hF3.put k4 (by first | exact .inr (by omega) | exact .inl (by assumption) | exact .inl (.inl rfl) | exact .inl (.inr rfl) | exact .inl (.inr (.inl rfl)) | exact .inl (.inr (.inr rfl)))
    have hO4 := Own.keptN node_flat hO3 k4 hn1
    refine r_end (n_then ?_)
    refine w_cut (α := Unit) (fun (_ : Unit) => [(0, vo), (1, .int .i64 lv), (5, .int .u8 s), (9, .pointer (some ⟨g1, 0, none⟩)), (10, .pointer (some ⟨g2, 0, none⟩)), (12, .slice none 0 0), (13, .int .i64 0), (14, .pointer (some ⟨g3, 0, none⟩))]) (fun (_ : Unit) W => Below a0.heap.size a0 W ∧ (Gw.Own Kd.node 101 a0.heap.size W (fun _ => False) vo o) ∧ (vo.ownBlock ≠ some g3) ∧ (Frm (fun _ => False) w vo W vo) ∧ (Blk W g1 31 [.bool (decide (x < 0)), px].toArray) ∧ (Blk W g2 31 [.bool (decide (y < 0)), py].toArray) ∧ (Blk W g3 101 [.int .i64 ((hereN o n lv).lv), .int .i64 ((hereN o n lv).k0), .int .i64 ((hereN o n lv).k1), .int .i64 ((hereN o n lv).k2), .int .i64 ((hereN o n lv).k3)].toArray) ∧ (Sl Kd.u32 W (G 83 n0 W) px (ml x)) ∧ (Sl Kd.u32 W (G 83 n0 W) py (ml y))) ?_ ?_
    · refine w_seq (w_region (st (s_move rfl (st (s_gt rfl rfl (r_end (n_then ?_)))))))
      refine w_condP rfl (fun h1 => ?_) (fun h1 => ?_)
      rotate_left
      · refine w_skip' ?_
        exact n_meet () ⟨hb4, hO4, hn1, hF4, (((hB1.g0 k2).g0 k3).gne k4 (by omega)), ((hB2.g0 k3).gne k4 (by omega)), (by rw [show (hereN o n lv) = _ from if_neg h1]; exact hB4), ((((hx0.gg0 k1).gg0 k2).gg0 k3).ggB k4 hB3 (by decide) (by omega)), ((((hy0.gg0 k1).gg0 k2).gg0 k3).ggB k4 hB3 (by decide) (by omega))⟩ (by exact ⟨rfl, rfl, rfl, rfl, rfl, rfl, rfl, rfl, trivial⟩)
      refine w_region (st (s_move rfl (st (s_move rfl (st (s_sub rfl rfl (by omega) (st (s_idx sl22 rfl rfl hO4.sl (by omega) (by omega) ?_))))))))
      rintro b1 o1 _ ⟨rfl, _⟩ hc1 hF5 hlt1
      refine st (s_loadW row101 rfl hc1 rfl (st0 (s_storeN row101 rfl rfl hB4 rfl rfl rfl ?_)))
      intro w5 hB5 k5 hs5
      have hb5 := below_g hb4 k5 (by first | omega | (have h9 := (hb4).size; omega))
      have hF6 := hF4.put k5 (by first | exact .inr (by omega) | exact .inl (by assumption) | exact .inl (.inl rfl) | exact .inl (.inr rfl) | exact .inl (.inr (.inl rfl)) | exact .inl (.inr (.inr rfl)))
      have hO5 := Own.keptN node_flat hO4 k5 hn1
      refine r_end ?_
      exact n_meet () ⟨hb5, hO5, hn1, hF6, ((((hB1.g0 k2).g0 k3).gne k4 (by omega)).gne k5 (by omega)), (((hB2.g0 k3).gne k4 (by omega)).gne k5 (by omega)), (by rw [show (hereN o n lv) = _ from if_pos h1]; exact hB5), (((((hx0.gg0 k1).gg0 k2).gg0 k3).ggB k4 hB3 (by decide) (by omega)).ggB k5 hB4 (by decide) (by omega)), (((((hy0.gg0 k1).gg0 k2).gg0 k3).ggB k4 hB3 (by decide) (by omega)).ggB k5 hB4 (by decide) (by omega))⟩ (by exact ⟨rfl, rfl, rfl, rfl, rfl, rfl, rfl, rfl, trivial⟩)
    rintro _ w6 ⟨hb6, hOh, hn7, hFh, hbh0, hbh1, hbh2, hsh0_1, hsh1_1⟩
    have hz2 := hb6.size
    have hbh0l := hbh0.lt
    have hbh1l := hbh1.lt
    have hbh2l := hbh2.lt
    refine w_seq (w_region (st (s_move rfl (st (s_loadW row31 rfl hbh0.range rfl (st (s_loadW row31 rfl hbh1.range rfl (st (s_call fn66 rfl (rquarter_any (x := x) (y := y) (n0 := n0) (below_n0 hn0 hb6) hsh0_1 hsh1_1 (Bd.le (bd_rng hx hlv.2) (show 43 ≤ 50 by decide)) (Bd.le (bd_rng hy hlv.2) (show 43 ≤ 50 by decide)) (by omega)) ?_)))))))))
    rintro _ w7 ⟨hq1, v1, v2, rfl, hS1, hS2⟩
    have k6 := grown_of_below hq1 none
    have hz3 := hq1.size
    have hb7 := below_g0 hb6 k6
    have hz4 := hb7.size
    have hF7 := hFh.none k6
    have hO6 := hOh.g0 k6
    have hkq1 := kq_rng lv x y
    refine st (s_move rfl (st (s_extract rfl rfl (st (s_extract rfl rfl (st (s_extract rfl rfl ?_)))))))
    have hlt_3 := ((hbh0.g0 k6)).lt
    have hlt_4 := ((hbh1.g0 k6)).lt
    have hlt_5 := ((hbh2.g0 k6)).lt
    refine st (s_alloc zero31 ?_)
    intro g4 w8 hg4 hB6 k7 hs6
    have hz5 := hb7.size
    have hb8 := below_g0 hb7 k7
    have hF8 := hF7.none k7
    have hO7 := hO6.g0 k7
    have hlt_6 := (((hbh0.g0 k6).g0 k7)).lt
    have hlt_7 := (((hbh1.g0 k6).g0 k7)).lt
    have hlt_8 := (((hbh2.g0 k6).g0 k7)).lt
    have hlt_9 := (hB6).lt
    refine st (s_alloc zero31 ?_)
    intro g5 w9 hg5 hB7 k8 hs7
    have hz6 := hb8.size
    have hb9 := below_g0 hb8 k8
    have hF9 := hF8.none k8
    have hO8 := hO7.g0 k8
    refine st (s_assign rfl (st0 (s_storeN row31 rfl rfl (hB6.g0 k8) (by simp only [List.all_cons, List.all_nil, hS1.one, Bool.and_true, Bool.and_self] <;> rfl) rfl rfl ?_)))
    intro w10 hB8 k9 hs8
    have hb10 := below_g hb9 k9 (by first | omega | (have h9 := (hb9).size; omega))
    have hF10 := hF9.put k9 (by first | exact .inr (by omega) | exact .inl (by assumption) | exact .inl (.inl rfl) | exact .inl (.inr rfl) | exact .inl (.inr (.inl rfl)) | exact .inl (.inr (.inr rfl)))
    have hO9 := Own.keptF node_flat hO8 k9 (hO8.ne_blk (hB6.g0 k8) (by decide))
    refine st0 (s_storeN row31 rfl rfl (hB7.gne k9 (by omega)) (by simp only [List.all_cons, List.all_nil, hS2.one, Bool.and_true, Bool.and_self] <;> rfl) rfl rfl ?_)
    intro w11 hB9 k10 hs9
    have hb11 := below_g hb10 k10 (by first | omega | (have h9 := (hb10).size; omega))
    have hF11 := hF10.put k10 (by first | exact .inr (by omega) | exact .inl (by assumption) | exact .inl (.inl rfl) | exact .inl (.inr rfl) | exact .inl (.inr (.inl rfl)) | exact .inl (.inr (.inr rfl)))
    have hO10 := Own.keptF node_flat hO9 k10 (hO9.ne_blk (hB7.gne k9 (by omega)) (by decide))
    refine r_end (n_then (w_seq (w_seq (w_region (st (s_move rfl (st (s_eq rfl rfl ?_))))))))
    refine r_end (n_then ?_)
    refine w_condP rfl (fun h2 => ?_) (fun h2 => ?_)
    · have hlv1 := h2
      refine w_region (st (s_move rfl (st (s_move rfl (st (s_conv64 intk5 intk3 rfl (by omega) (st (s_faddr fld101_1 rfl (st (s_iaddr arr99 rfl rfl (by omega) (by omega) (st0 (s_storeK one3 rfl rfl (((((hbh2.g0 k6).g0 k7).g0 k8).gne k9 (by omega)).gne k10 (by omega)) (by omega) (by omega) ?_))))))))))))
      intro w12 hB10 k11 hs10
      have hb12 := below_g hb11 k11 (by first | omega | (have h9 := (hb11).size; omega))
      have hF12 := hF11.put k11 (by first | exact .inr (by omega) | exact .inl (by assumption) | exact .inl (.inl rfl) | exact .inl (.inr rfl) | exact .inl (.inr (.inl rfl)) | exact .inl (.inr (.inr rfl)))
      have hO11 := Own.keptN node_flat hO10 k11 hn7
      refine r_end (n_then (w_seq (w_region (st (s_move rfl (st (s_loadW row101 rfl hB10.range rfl ?_)))))))
      refine st (s_bslice (ps := [(0, .tmp 60)]) (ccs := [#[.int .i64 ((hereN o n lv).lv), .int .i64 (if (kq lv x y) = 0 then s else (hereN o n lv).k0), .int .i64 (if (kq lv x y) = 1 then s else (hereN o n lv).k1), .int .i64 (if (kq lv x y) = 2 then s else (hereN o n lv).k2), .int .i64 (if (kq lv x y) = 3 then s else (hereN o n lv).k3)]]) (e := 101) (cells := [.int .i64 ((hereN o n lv).lv), .int .i64 (if (kq lv x y) = 0 then s else (hereN o n lv).k0), .int .i64 (if (kq lv x y) = 1 then s else (hereN o n lv).k1), .int .i64 (if (kq lv x y) = 2 then s else (hereN o n lv).k2), .int .i64 (if (kq lv x y) = 3 then s else (hereN o n lv).k3)]) rfl rfl (by kernel_rfl) (by decide) nz101 ?_)
      intro g6 w13 hg6 hB11 k12 hs11
      have hb13 := below_g0 hb12 k12
      have hz7 := hb13.size
      have hF13 := hF12.none k12
      have hO12 := hO11.g0 k12
      have hS3 := lit_nodes (F := fun _ => False) ([⟨(hereN o n lv).lv, (if (kq lv x y) = 0 then s else (hereN o n lv).k0), (if (kq lv x y) = 1 then s else (hereN o n lv).k1), (if (kq lv x y) = 2 then s else (hereN o n lv).k2), (if (kq lv x y) = 3 then s else (hereN o n lv).k3)⟩] : List Nd) hB11 (fun h => h) rfl (by first | decide | simp)
      refine st (s_append (K := Kd.node) sl22 rfl rfl hO12 (lit_nodes (F := Out (fun _ => False) vo) ([⟨(hereN o n lv).lv, (if (kq lv x y) = 0 then s else (hereN o n lv).k0), (if (kq lv x y) = 1 then s else (hereN o n lv).k1), (if (kq lv x y) = 2 then s else (hereN o n lv).k2), (if (kq lv x y) = 3 then s else (hereN o n lv).k3)⟩] : List Nd) hB11 (fun h => h.elim id (fun h => by have h9 := (hO11.lt _ h).2; omega)) rfl (by first | decide | simp)) node_ones (by simp; omega) (by simp; omega) (by first | exact Nat.le_refl _ | omega | (have h0_ := k6.size; have h1_ := k7.size; have h2_ := k8.size; have h3_ := k9.size; have h4_ := k10.size; have h5_ := k11.size; have h6_ := k12.size; omega)) (fun _ h => h.elim) ?_)
      intro v3 w14 hO13 k13 hr2
      have hn2 := own_app hn7 hr2 (by have := (hB10.g0 k12).lt; omega)
      have hb14 := hb13.grown k13 hb13.size (fun k_ hk_ => by have h9_ := (hO12.lt k_ hk_).1; omega)
      have hz8 := hb14.size
      have hF14 := hF13.row k13 hr2
      refine st (s_assign rfl (r_end (n_then (w_seq (w_region (st (s_move rfl (st (s_move rfl ?_)))))))))
      refine st (s_len sl22 rfl hO13.sl (st (s_assign rfl (st (s_assign rfl (r_end (n_then (w_ret2 rfl rfl rfl ?_))))))))
      have hf0 : f = 0 := by omega
      subst hf0
      have e_ : putF (0 + 1) o n x y s = (o ++ [(hereN o n lv).setK (kq lv x y) s], (o.length : Int) + 1) := by rw [hlv1]; exact put_leaf
      rw [e_]
      refine ⟨_, rfl, v3, by simp, hb14, ?_, ?_, two_frm hb0 hb14 hF14⟩
      · exact hO13
      · exact own_row (own_one hr2) (by omega)
    have hlv1 := h2
    refine w_drawDE 17 (Two (fun i => vo.ownBlock = some i)) (fun a b => a.grownBy b none) (Two (fun i => vo.ownBlock = some i)) [(some 43, Is <| .int .i64 (kq lv x y)), (some 44, Is <| vo), (some 45, Is <| .int .i64 lv), (some 46, Is <| .int .i64 (lv - 1)), (some 47, Is <| .int .i64 (kq lv x y)), (some 48, Is <| .pointer (some ⟨g3, 0 + 1, none⟩)), (some 49, Is <| .pointer (some ⟨g3, 0 + 1 + ((kq lv x y)).toNat * 1, none⟩)), (some 50, Is <| .int .i64 (sel4 ((hereN o n lv).k0) ((hereN o n lv).k1) ((hereN o n lv).k2) ((hereN o n lv).k3) (kq lv x y))), (some 51, Is <| .agg [.bool (decide ((rest lv x) < 0)), v1].toArray), (some 52, Is <| .agg [.bool (decide ((rest lv y) < 0)), v2].toArray), (some 53, Is <| .int .u8 s), (some 54, fun v W => ∃ u, v = .tuple #[u, .int .i64 (putF f o (sel4 ((hereN o n lv).k0) ((hereN o n lv).k1) ((hereN o n lv).k2) ((hereN o n lv).k3) (kq lv x y)) (rest lv x) (rest lv y) s).2] ∧ Gw.Own Kd.node 101 a0.heap.size W (fun _ => False) u (putF f o (sel4 ((hereN o n lv).k0) ((hereN o n lv).k1) ((hereN o n lv).k2) ((hereN o n lv).k3) (kq lv x y)) (rest lv x) (rest lv y) s).1 ∧ (u.ownBlock = vo.ownBlock ∨ ∃ q, u.ownBlock = some q ∧ w11.heap.size ≤ q)), (some 42, fun v W => ∃ u, v = .tuple #[u, .int .i64 (putF f o (sel4 ((hereN o n lv).k0) ((hereN o n lv).k1) ((hereN o n lv).k2) ((hereN o n lv).k3) (kq lv x y)) (rest lv x) (rest lv y) s).2] ∧ Gw.Own Kd.node 101 a0.heap.size W (fun _ => False) u (putF f o (sel4 ((hereN o n lv).k0) ((hereN o n lv).k1) ((hereN o n lv).k2) ((hereN o n lv).k3) (kq lv x y)) (rest lv x) (rest lv y) s).1 ∧ (u.ownBlock = vo.ownBlock ∨ ∃ q, u.ownBlock = some q ∧ w11.heap.size ≤ q)), (some 55, fun v W => Gw.Own Kd.node 101 a0.heap.size W (fun _ => False) v (putF f o (sel4 ((hereN o n lv).k0) ((hereN o n lv).k1) ((hereN o n lv).k2) ((hereN o n lv).k3) (kq lv x y)) (rest lv x) (rest lv y) s).1 ∧ (v.ownBlock = vo.ownBlock ∨ ∃ q, v.ownBlock = some q ∧ w11.heap.size ≤ q)), (some 56, Is <| .int .i64 (putF f o (sel4 ((hereN o n lv).k0) ((hereN o n lv).k1) ((hereN o n lv).k2) ((hereN o n lv).k3) (kq lv x y)) (rest lv x) (rest lv y) s).2), (some 0, fun v W => Gw.Own Kd.node 101 a0.heap.size W (fun _ => False) v (putF f o (sel4 ((hereN o n lv).k0) ((hereN o n lv).k1) ((hereN o n lv).k2) ((hereN o n lv).k3) (kq lv x y)) (rest lv x) (rest lv y) s).1 ∧ (v.ownBlock = vo.ownBlock ∨ ∃ q, v.ownBlock = some q ∧ w11.heap.size ≤ q)), (some 57, Is <| .pointer (some ⟨g3, 0 + 1, none⟩))] [[], [], [], [2], [], [], [4, 5], [6], [], [], [], [1, 3, 7, 8, 9, 10], [11], [12], [12], [13], []] [[], [], [], [2], [], [], [4, 5], [4, 5, 6], [], [], [], [1, 2, 3, 4, 5, 6, 7, 8, 9, 10], [1, 2, 3, 4, 5, 6, 7, 8, 9, 10, 11], [1, 2, 3, 4, 5, 6, 7, 8, 9, 10, 11, 12], [1, 2, 3, 4, 5, 6, 7, 8, 9, 10, 11, 12], [1, 2, 3, 4, 5, 6, 7, 8, 9, 10, 11, 12, 13], []] [[], [], [], [], [], [], [], [], [], [], [], [], [], [], [], [], []] [false, false, false, false, false, false, false, false, false, false, false, true, false, false, false, false, false] [true, true, true, true, true, true, true, true, true, true, true, false, false, false, true, false, true] [false, true, true, true, true, true, true, true, true, true, true, true, false, false, false, false, false] [(1, .int .i64 lv), (5, .int .u8 s), (12, .slice none 0 0), (13, .int .i64 0), (14, .pointer (some ⟨g3, 0, none⟩)), (15, .int .i64 (kq lv x y)), (16, .pointer (some ⟨g4, 0, none⟩)), (17, .pointer (some ⟨g5, 0, none⟩))] [(0, vo)] [false, true, false, false, false, false, false, false, false, false, false, false, false, false, false, false, false] (by exact ⟨rfl, rfl, rfl, rfl, rfl, rfl, rfl, rfl, trivial⟩) (by exact ⟨rfl, trivial⟩) (by kernel_rfl) (by kernel_rfl) (by kernel_rfl) (by kernel_rfl) (by kernel_rfl) rfl (Two.refl _) (fun _ _ _ h k => h.trans k) (fun _ _ h => Two.none h) (fun _ _ h => h) ⟨kv, kv, kv, kv, kv, kv, kv, kv, kv, kv, kv, kv, kv, kv, kv, kv, kv, kv, kv, kv, kv, kv, fun _ _ _ h k => by obtain ⟨u, e, h, hr⟩ := h; exact ⟨u, e, h.g0 k, hr⟩, fun _ _ _ h k => by obtain ⟨u, e, h, hr⟩ := h; exact ⟨u, e, h.g0 k, hr⟩, fun _ _ _ h k => ⟨h.1.g0 k, h.2⟩, kv, kv, fun _ _ _ h k => ⟨h.1.g0 k, h.2⟩, kv, kv, trivial⟩ grown_none_refl (fun _ _ _ => grown_none_trans) rfl ?_
    intro w15 k14 hs12
    have hb15 := below_g0 hb11 k14
    have hF15 := hF11.none k14
    have hO14 := hO10.g0 k14
    refine ⟨⟨?_, ?_, ?_, ?_, ?_, ?_, ?_, ?_, ?_, ?_, ?_, ?_, ?_, ?_, ?_, ?_, ?_, trivial⟩, ?_⟩
    · intro w8z_ kb_
      exact op1 (s_move rfl ⟨rfl, grown_none_refl _⟩)
    · intro w16 k15
      have hb16 := below_g0 hb15 k15
      have hz9 := hb16.size
      refine op1 (s_move rfl ?_)
      exact ⟨rfl, grown_none_refl _⟩
    · intro w17 k16
      have hb17 := below_g0 hb15 k16
      have hz10 := hb17.size
      refine op1 (s_move rfl ?_)
      exact ⟨rfl, grown_none_refl _⟩
    · intro w18 k17
      have hb18 := below_g0 hb15 k17
      have hz11 := hb18.size
      rintro _ rfl
      refine op1 (s_sub rfl rfl (by omega) ?_)
      exact ⟨rfl, grown_none_refl _⟩
    · intro w19 k18
      have hb19 := below_g0 hb15 k18
      have hz12 := hb19.size
      refine op1 (s_move rfl ?_)
      exact ⟨rfl, grown_none_refl _⟩
    · intro w20 k19
      have hb20 := below_g0 hb15 k19
      have hz13 := hb20.size
      refine op1 (s_faddr fld101_1 rfl ?_)
      exact ⟨rfl, grown_none_refl _⟩
    · intro w21 k20
      have hb21 := below_g0 hb15 k20
      have hz14 := hb21.size
      rintro _ rfl _ rfl
      refine op1 (s_iaddr arr99 rfl rfl (by omega) (by omega) ?_)
      exact ⟨rfl, grown_none_refl _⟩
    · intro w22 k21
      have hb22 := below_g0 hb15 k21
      have hz15 := hb22.size
      rintro _ rfl
      refine op1 (s_load4 one3 rfl (((((((hbh2.g0 k6).g0 k7).g0 k8).gne k9 (by omega)).gne k10 (by omega)).g0 k14).g0 k21).range (j := 1) rfl rfl (by omega) (by omega) ?_)
      exact ⟨rfl, grown_none_refl _⟩
    · intro w23 k22
      have hb23 := below_g0 hb15 k22
      have hz16 := hb23.size
      refine op1 (s_loadW row31 rfl (((hB8.gne k10 (by omega)).g0 k14).g0 k22).range rfl ?_)
      exact ⟨rfl, grown_none_refl _⟩
    · intro w24 k23
      have hb24 := below_g0 hb15 k23
      have hz17 := hb24.size
      refine op1 (s_loadW row31 rfl ((hB9.g0 k14).g0 k23).range rfl ?_)
      exact ⟨rfl, grown_none_refl _⟩
    · intro w25 k24
      have hb25 := below_g0 hb15 k24
      have hz18 := hb25.size
      refine op1 (s_move rfl ?_)
      exact ⟨rfl, grown_none_refl _⟩
    · intro w26 k25
      have hb26 := below_g0 hb15 k25
      have hz19 := hb26.size
      have hO25 := hO14.g0 k25
      intro v_ hv_; subst v_
      rintro _ rfl _ rfl _ rfl _ rfl _ rfl
      refine op1 (s_call fn64 rfl (ih (lv := (lv - 1)) (n := (sel4 ((hereN o n lv).k0) ((hereN o n lv).k1) ((hereN o n lv).k2) ((hereN o n lv).k3) (kq lv x y))) (x := (rest lv x)) (y := (rest lv y)) (by omega) (by omega) ho (here_kid ho hni hlv1 (kq_rng _ _ _).1 (kq_rng _ _ _).2) (by omega) (rest_rng (by omega) hx) (rest_rng (by omega) hy) hb26 hO25 ((((((hS1.gg0 k7).gg0 k8).ggB k9 (hB6.g0 k8) (by decide) (by omega)).ggB k10 (hB7.gne k9 (by omega)) (by decide) (by omega)).gg0 k14).gg0 k25) ((((((hS2.gg0 k7).gg0 k8).ggB k9 (hB6.g0 k8) (by decide) (by omega)).ggB k10 (hB7.gne k9 (by omega)) (by decide) (by omega)).gg0 k14).gg0 k25)) ?_)
      rintro _ w27 ⟨vo1, rfl, hb27, hO26, hr3, hT1⟩
      have hz_ := k25.size
      exact ⟨⟨vo1, rfl, hO26, own_row hr3 (by omega)⟩, hT1⟩
    · intro w8z_ kb_
      rintro _ ⟨u_, rfl, hu_⟩
      exact op1 (s_move rfl ⟨⟨u_, rfl, hu_⟩, grown_none_refl _⟩)
    · intro w8z_ kb_
      rintro _ ⟨u_, rfl, hu_⟩
      exact op1 (s_extract rfl rfl ⟨hu_, grown_none_refl _⟩)
    · intro w8z_ kb_
      rintro _ ⟨u_, rfl, hu_⟩
      exact op1 (s_extract rfl rfl ⟨rfl, grown_none_refl _⟩)
    · intro w8z_ kb_
      intro u_ hu_
      exact op1 (s_assign rfl ⟨hu_, grown_none_refl _⟩)
    · intro w8z_ kb_
      exact op1 (s_faddr fld101_1 rfl ⟨rfl, grown_none_refl _⟩)
    intro w28 k26
    intro v_ hv_; subst v_
    intro v_ hv_; subst v_
    intro v_ hv_; subst v_
    intro v_ hv_; subst v_
    intro v_ hv_; subst v_
    intro v_ hv_; subst v_
    intro v_ hv_; subst v_
    intro v_ hv_; subst v_
    intro v_ hv_; subst v_
    intro v_ hv_; subst v_
    intro v_ hv_; subst v_
    rintro _ ⟨_, rfl, _⟩ _ ⟨_, rfl, _⟩ _ _ _ rfl vo2 ⟨hO27, hr4⟩
    intro v_ hv_; subst v_
    have hr_ : vo2.ownBlock = vo.ownBlock ∨ ∃ q, vo2.ownBlock = some q ∧ w15.heap.size ≤ q := by rw [hs12]; exact hr4
    have hb28 := k26.below hb15 hb15.size (fun i hi h_ => by have := (hO14.lt i h_).1; omega)
    have hB12 := ((((((hbh2.g0 k6).g0 k7).g0 k8).gne k9 (by omega)).gne k10 (by omega)).g0 k14).two k26 hn7
    have hF27 := hF15.two k26 (fun i h_ => .inr h_) hr_
    have hn3 := own_app2 hn7 hr_ (by have := (((((((hbh2.g0 k6).g0 k7).g0 k8).gne k9 (by omega)).gne k10 (by omega)).g0 k14)).lt; omega)
    have hz20 := hb28.size
    have hz21 := hF27.1
    have hpn_ := put_len f o (sel4 ((hereN o n lv).k0) ((hereN o n lv).k1) ((hereN o n lv).k2) ((hereN o n lv).k3) (kq lv x y)) (rest lv x) (rest lv y) s
    refine st (s_iaddr arr99 rfl rfl (by omega) (by omega) (st0 (s_storeK one3 rfl rfl hB12 (by omega) (by omega) ?_)))
    intro w29 hB13 k27 hs13
    have hb29 := below_g hb28 k27 (by first | omega | (have h9 := (hb28).size; omega))
    have hF28 := hF27.put k27 (by first | exact .inr (by omega) | exact .inl (by assumption) | exact .inl (.inl rfl) | exact .inl (.inr rfl) | exact .inl (.inr (.inl rfl)) | exact .inl (.inr (.inr rfl)))
    have hO28 := Own.keptN node_flat hO27 k27 hn3
    refine r_end (n_then (w_seq (w_region (st (s_move rfl (st (s_loadW row101 rfl hB13.range rfl ?_)))))))
    refine st (s_bslice (ps := [(0, .tmp 60)]) (ccs := [#[.int .i64 ((hereN o n lv).lv), .int .i64 (if (kq lv x y) = 0 then (putF f o (sel4 ((hereN o n lv).k0) ((hereN o n lv).k1) ((hereN o n lv).k2) ((hereN o n lv).k3) (kq lv x y)) (rest lv x) (rest lv y) s).2 else (hereN o n lv).k0), .int .i64 (if (kq lv x y) = 1 then (putF f o (sel4 ((hereN o n lv).k0) ((hereN o n lv).k1) ((hereN o n lv).k2) ((hereN o n lv).k3) (kq lv x y)) (rest lv x) (rest lv y) s).2 else (hereN o n lv).k1), .int .i64 (if (kq lv x y) = 2 then (putF f o (sel4 ((hereN o n lv).k0) ((hereN o n lv).k1) ((hereN o n lv).k2) ((hereN o n lv).k3) (kq lv x y)) (rest lv x) (rest lv y) s).2 else (hereN o n lv).k2), .int .i64 (if (kq lv x y) = 3 then (putF f o (sel4 ((hereN o n lv).k0) ((hereN o n lv).k1) ((hereN o n lv).k2) ((hereN o n lv).k3) (kq lv x y)) (rest lv x) (rest lv y) s).2 else (hereN o n lv).k3)]]) (e := 101) (cells := [.int .i64 ((hereN o n lv).lv), .int .i64 (if (kq lv x y) = 0 then (putF f o (sel4 ((hereN o n lv).k0) ((hereN o n lv).k1) ((hereN o n lv).k2) ((hereN o n lv).k3) (kq lv x y)) (rest lv x) (rest lv y) s).2 else (hereN o n lv).k0), .int .i64 (if (kq lv x y) = 1 then (putF f o (sel4 ((hereN o n lv).k0) ((hereN o n lv).k1) ((hereN o n lv).k2) ((hereN o n lv).k3) (kq lv x y)) (rest lv x) (rest lv y) s).2 else (hereN o n lv).k1), .int .i64 (if (kq lv x y) = 2 then (putF f o (sel4 ((hereN o n lv).k0) ((hereN o n lv).k1) ((hereN o n lv).k2) ((hereN o n lv).k3) (kq lv x y)) (rest lv x) (rest lv y) s).2 else (hereN o n lv).k2), .int .i64 (if (kq lv x y) = 3 then (putF f o (sel4 ((hereN o n lv).k0) ((hereN o n lv).k1) ((hereN o n lv).k2) ((hereN o n lv).k3) (kq lv x y)) (rest lv x) (rest lv y) s).2 else (hereN o n lv).k3)]) rfl rfl (by kernel_rfl) (by decide) nz101 ?_)
    intro g7 w30 hg7 hB14 k28 hs14
    have hb30 := below_g0 hb29 k28
    have hz22 := hb30.size
    have hF29 := hF28.none k28
    have hO29 := hO28.g0 k28
    have hS4 := lit_nodes (F := fun _ => False) ([⟨(hereN o n lv).lv, (if (kq lv x y) = 0 then (putF f o (sel4 ((hereN o n lv).k0) ((hereN o n lv).k1) ((hereN o n lv).k2) ((hereN o n lv).k3) (kq lv x y)) (rest lv x) (rest lv y) s).2 else (hereN o n lv).k0), (if (kq lv x y) = 1 then (putF f o (sel4 ((hereN o n lv).k0) ((hereN o n lv).k1) ((hereN o n lv).k2) ((hereN o n lv).k3) (kq lv x y)) (rest lv x) (rest lv y) s).2 else (hereN o n lv).k1), (if (kq lv x y) = 2 then (putF f o (sel4 ((hereN o n lv).k0) ((hereN o n lv).k1) ((hereN o n lv).k2) ((hereN o n lv).k3) (kq lv x y)) (rest lv x) (rest lv y) s).2 else (hereN o n lv).k2), (if (kq lv x y) = 3 then (putF f o (sel4 ((hereN o n lv).k0) ((hereN o n lv).k1) ((hereN o n lv).k2) ((hereN o n lv).k3) (kq lv x y)) (rest lv x) (rest lv y) s).2 else (hereN o n lv).k3)⟩] : List Nd) hB14 (fun h => h) rfl (by first | decide | simp)
    refine st (s_append (K := Kd.node) sl22 rfl rfl hO29 (lit_nodes (F := Out (fun _ => False) vo2) ([⟨(hereN o n lv).lv, (if (kq lv x y) = 0 then (putF f o (sel4 ((hereN o n lv).k0) ((hereN o n lv).k1) ((hereN o n lv).k2) ((hereN o n lv).k3) (kq lv x y)) (rest lv x) (rest lv y) s).2 else (hereN o n lv).k0), (if (kq lv x y) = 1 then (putF f o (sel4 ((hereN o n lv).k0) ((hereN o n lv).k1) ((hereN o n lv).k2) ((hereN o n lv).k3) (kq lv x y)) (rest lv x) (rest lv y) s).2 else (hereN o n lv).k1), (if (kq lv x y) = 2 then (putF f o (sel4 ((hereN o n lv).k0) ((hereN o n lv).k1) ((hereN o n lv).k2) ((hereN o n lv).k3) (kq lv x y)) (rest lv x) (rest lv y) s).2 else (hereN o n lv).k2), (if (kq lv x y) = 3 then (putF f o (sel4 ((hereN o n lv).k0) ((hereN o n lv).k1) ((hereN o n lv).k2) ((hereN o n lv).k3) (kq lv x y)) (rest lv x) (rest lv y) s).2 else (hereN o n lv).k3)⟩] : List Nd) hB14 (fun h => h.elim id (fun h => by have h9 := (hO28.lt _ h).2; omega)) rfl (by first | decide | simp)) node_ones (by simp; omega) (by simp; omega) (by first | exact Nat.le_refl _ | omega | (have h0_ := k8.size; have h1_ := k9.size; have h2_ := k10.size; have h3_ := k14.size; have h4_ := k26.size; have h5_ := k27.size; have h6_ := k28.size; omega)) (fun _ h => h.elim) ?_)
    intro v4 w31 hO30 k29 hr5
    have hn4 := own_app hn3 hr5 (by have := (hB13.g0 k28).lt; omega)
    have hb31 := hb30.grown k29 hb30.size (fun k_ hk_ => by have h9_ := (hO29.lt k_ hk_).1; omega)
    have hz23 := hb31.size
    have hF30 := hF29.row k29 hr5
    refine st (s_assign rfl (r_end (n_then (w_seq (w_region (st (s_move rfl (st (s_move rfl ?_)))))))))
    refine st (s_len sl22 rfl hO30.sl (st (s_assign rfl (st (s_assign rfl (r_end (n_then (w_ret2 rfl rfl rfl ?_))))))))
    have e_ : putF (f + 1) o n x y s = ((putF f o (sel4 ((hereN o n lv).k0) ((hereN o n lv).k1) ((hereN o n lv).k2) ((hereN o n lv).k3) (kq lv x y)) (rest lv x) (rest lv y) s).1 ++ [(hereN o n lv).setK (kq lv x y) (putF f o (sel4 ((hereN o n lv).k0) ((hereN o n lv).k1) ((hereN o n lv).k2) ((hereN o n lv).k3) (kq lv x y)) (rest lv x) (rest lv y) s).2], ((putF f o (sel4 ((hereN o n lv).k0) ((hereN o n lv).k1) ((hereN o n lv).k2) ((hereN o n lv).k3) (kq lv x y)) (rest lv x) (rest lv y) s).1.length : Int) + 1) := by rw [put_nd (by omega), show (f : Int) + 1 = lv by omega]; rfl
    rw [e_]
    refine ⟨_, rfl, v4, by simp, hb31, ?_, ?_, two_frm hb0 hb31 hF30⟩
    · exact hO30
    · exact own_rowt (own_row hr_ (by omega)) (own_one hr5) (by omega)
end Go.Proofs.Ytfljelnfjbbknaa.Lm

set_option linter.unusedSimpArgs false
set_option linter.unusedVariables false
/-! ### The reference's growing -/
namespace Go.Gw
open Go.RowKit
theorem rgs_step {o ok : List Nd} {k a b c e : Int} (hpx : ix ok ((o.length : Int) - 1) = lastN' o) (h0 : 0 ≤ k) (h : (ok, a, b, c, e) = grS (lastN' o) o k.toNat) (hc : sel4 (ix ok ((o.length : Int) - 1)).k0 (ix ok ((o.length : Int) - 1)).k1 (ix ok ((o.length : Int) - 1)).k2 (ix ok ((o.length : Int) - 1)).k3 k = 0) :
    (ok, a, b, c, e) = grS (lastN' o) o (k + 1).toNat := by
  rw [hpx] at hc
  exact grS_step h0 h hc
theorem rgs_put {o ok : List Nd} {k a b c e : Int} (hpx : ix ok ((o.length : Int) - 1) = lastN' o) (h0 : 0 ≤ k) (h : (ok, a, b, c, e) = grS (lastN' o) o k.toNat) (hc : ¬ sel4 (ix ok ((o.length : Int) - 1)).k0 (ix ok ((o.length : Int) - 1)).k1 (ix ok ((o.length : Int) - 1)).k2 (ix ok ((o.length : Int) - 1)).k3 k = 0) :
    (ok ++ [yN (ix ok ((o.length : Int) - 1)).lv k ((ix ok ((o.length : Int) - 1)).kid k)], (if k = 0 then ((ok ++ [yN (ix ok ((o.length : Int) - 1)).lv k ((ix ok ((o.length : Int) - 1)).kid k)]).length : Int) else a), (if k = 1 then ((ok ++ [yN (ix ok ((o.length : Int) - 1)).lv k ((ix ok ((o.length : Int) - 1)).kid k)]).length : Int) else b), (if k = 2 then ((ok ++ [yN (ix ok ((o.length : Int) - 1)).lv k ((ix ok ((o.length : Int) - 1)).kid k)]).length : Int) else c), (if k = 3 then ((ok ++ [yN (ix ok ((o.length : Int) - 1)).lv k ((ix ok ((o.length : Int) - 1)).kid k)]).length : Int) else e)) = grS (lastN' o) o (k + 1).toNat := by
  rw [hpx] at hc ⊢
  exact grS_put h0 h hc
theorem rgs_px {o ok : List Nd} {x : Nd} (hpx : ix ok ((o.length : Int) - 1) = lastN' o) (h1 : 1 ≤ o.length) (h2 : o.length ≤ ok.length) : ix (ok ++ [x]) ((o.length : Int) - 1) = lastN' o := by
  rw [← hpx]
  unfold ix
  rw [List.getD_eq_getElem?_getD, List.getD_eq_getElem?_getD, List.getElem?_append_left (by omega)]
end Go.Gw

set_option linter.unusedSimpArgs false
set_option linter.unusedVariables false
/-! ### Setting -/
namespace Go.Gw
open Go.RowKit
theorem upL_first {c : Cl} {u : Int} (h : inC c u = true) : ∀ (n : Nat) (v : Int), v ≤ u → upL c n v ≤ u
  | 0, v, hv => hv
  | n + 1, v, hv => by
    unfold upL
    split
    · rename_i hc
      refine upL_first h n (v + 1) ?_
      by_cases e : v = u
      · subst e; rw [h] at hc; exact absurd hc.2 (by decide)
      · omega
    · exact hv
theorem lvUp_eq {q : List Nd} (h : Can q) {x y u : Int} (h1 : max (levelN q) 1 ≤ u) (h2 : u ≤ 1329) (hf : ∀ j : Int, max (levelN q) 1 ≤ j → j < u → inC ⟨x, y, 0⟩ j = false) (hin : inC ⟨x, y, 0⟩ u = true) : lvUp q x y = u := by
  obtain ⟨⟨a, b⟩, c⟩ := lvUp_rng h x y
  have d : lvUp q x y ≤ u := upL_first hin 1331 _ h1
  by_cases e : lvUp q x y = u
  · exact e
  · have := hf _ a (by omega); rw [c (by omega)] at this; cases this
theorem lvUp_out {q : List Nd} (h : Can q) {x y : Int} (hf : ∀ j : Int, max (levelN q) 1 ≤ j → j < 1329 → inC ⟨x, y, 0⟩ j = false) (h9 : inC ⟨x, y, 0⟩ 1329 = false) : 1329 < lvUp q x y := by
  obtain ⟨⟨a, b⟩, c⟩ := lvUp_rng h x y
  refine Classical.byContradiction fun e => ?_
  have hi := c (by omega)
  by_cases e2 : lvUp q x y = 1329
  · rw [e2, h9] at hi; cases hi
  · rw [hf _ a (by omega)] at hi; cases hi
theorem out_cel {q : List Nd} (h : Can q) {x y : Int} (ho : 1329 < lvUp q x y) : celQ q x y = 0 := by
  by_cases e : q = []
  · subst e; rfl
  · have hv := level_of h.ok e
    refine get_none h ?_
    cases hi : inC ⟨x, y, 0⟩ (levelN q)
    · rfl
    · have := upL_first hi 1331 (max (levelN q) 1) (by omega)
      unfold lvUp at ho; omega
theorem set_out {q : List Nd} (h : Can q) {x y s : Int} (ho : 1329 < lvUp q x y) (hs : s ≠ celQ q x y) : setQ q x y s = ([], 4) := by
  unfold setQ; rw [if_pos ho, if_neg (by rw [← out_cel h ho]; exact hs)]
theorem set_up {q : List Nd} {x y s u : Int} (e : lvUp q x y = u) (hu : u ≤ 1329) (hin : inC ⟨x, y, 0⟩ u = true) :
    setQ q x y s = ofL (putF u.toNat (grownQ q u) (grownQ q u).length ((x + hf u) % (2 * hf u)) ((y + hf u) % (2 * hf u)) s).1 (putF u.toNat (grownQ q u) (grownQ q u).length ((x + hf u) % (2 * hf u)) ((y + hf u) % (2 * hf u)) s).2 := by
  unfold inC at hin; rw [decide_eq_true_eq] at hin; simp only at hin
  unfold setQ; rw [if_neg (by omega), e]; unfold putQ
  rw [mod_self_ (by omega), mod_self_ (by omega)]
theorem set_up' {q : List Nd} {x y s u : Int} (e : lvUp q x y = u) (hu : u ≤ 1329) :
    setQ q x y s = ofL (putF u.toNat (grownQ q u) (grownQ q u).length (x + hf u) (y + hf u) s).1 (putF u.toNat (grownQ q u) (grownQ q u).length (x + hf u) (y + hf u) s).2 := by
  unfold setQ; rw [if_neg (by omega), e]; rfl
theorem set_far {q : List Nd} {x y s : Int} (ho : 1329 < lvUp q x y) (hs : s ≠ 0) : setQ q x y s = ([], 4) := by unfold setQ; rw [if_pos ho, if_neg hs]
theorem set_far0 {q : List Nd} {x y s : Int} (ho : 1329 < lvUp q x y) (hs : s = 0) : setQ q x y s = (q, 0) := by unfold setQ; rw [if_pos ho, if_pos hs]
theorem far_of {q : List Nd} (h : Can q) {x y u : Int} (hu : 1329 < u) (hf : ∀ j : Int, max (levelN q) 1 ≤ j → j < u → inC ⟨x, y, 0⟩ j = false) : 1329 < lvUp q x y :=
  lvUp_out h (fun j h0 h1 => hf j h0 (by omega)) (hf 1329 (by have := level_rng h; omega) hu)
theorem inR_out {x y u : Int} (h : inR x u = false ∨ inR y u = false) : inC ⟨x, y, 0⟩ u = false := by rw [← inR_inC]; rcases h with h | h <;> rw [h] <;> simp
theorem inR_in {x y u : Int} (h : inR x u = true) (k : inR y u = true) : inC ⟨x, y, 0⟩ u = true := by rw [← inR_inC, h, k]; rfl
theorem last_rng {q : List Nd} (h : Can q) : 0 ≤ (lastN' q).lv ∧ (lastN' q).lv ≤ 1329 := by
  by_cases e : q = []
  · subst e; exact ⟨by decide, by decide⟩
  · rw [lastN_lv e]; have := level_rng h; omega
end Go.Gw

set_option maxRecDepth 20000
set_option linter.unusedSimpArgs false
set_option linter.unusedVariables false
namespace Go.Proofs.Ytfljelnfjbbknaa.Nd
open Go.RowKit Go.Gw
theorem intern_any {a w : World} {ga gk : Nat} {vo : Value} {o : List Nd} {M : List (Nd × Int)} {x : Nd} (hb0 : Below a.heap.size a w) (hga : a.heap.size ≤ ga) (hgk : a.heap.size ≤ gk) (hBA : Blk w ga 126 [vo, .map (some gk)].toArray) (hMK : IsMap Nd.val ekI w gk M) (hE : Gw.Own Kd.node 101 a.heap.size w (fun _ => False) vo o)
    (hMI : MInv M o) (hol : o.length ≤ 200000) : Calls Try.prog 94 [.pointer (some ⟨ga, 0, none⟩), .agg x.cells.toArray].toArray w (Ret fun v w' => v = .int .i64 (intr o x).2 ∧ ∃ vo' M', Below a.heap.size a w' ∧ Blk w' ga 126 [vo', .map (some gk)].toArray ∧ IsMap Nd.val ekI w' gk M' ∧ Gw.Own Kd.node 101 a.heap.size w' (fun _ => False) vo' (intr o x).1 ∧ MInv M' (intr o x).1 ∧ Frm (fun g => g = ga ∨ g = gk) w vo w' vo') := by
  have hz0 := hb0.size
  have hF0 := Frm.refl (fun g => g = ga ∨ g = gk) w vo
  have hgal := hBA.lt
  refine enter Try.func94 rfl rfl (w_seq (w_region (st (s_box rfl ?_))))
  intro g1 w1 hg1 hB1 k1 hs1
  have hn1 := own_new hE hg1
  have hb1 := below_g0 hb0 k1
  have hF1 := hF0.none k1
  have hO1 := hE.g0 k1
  have hM1 := hMK.g0 k1
  refine st (s_assign rfl (r_end (n_then (w_seq (w_seq (w_region (st (s_faddr fld101_1 rfl ?_))))))))
  refine st (s_loadN (us := [.int .i64 x.k0, .int .i64 x.k1, .int .i64 x.k2, .int .i64 x.k3]) row99 rfl hB1.range (j := 1) rfl rfl (st (s_build (ps := []) (ccs := []) (cells := [.int .i64 0, .int .i64 0, .int .i64 0, .int .i64 0]) rfl rfl (by kernel_rfl) (st (s_eq4 four99 (by kernel_rfl) (by kernel_rfl) (by kernel_rfl) rfl rfl (r_end (n_then ?_)))))))
  refine w_condP rfl (fun h1 => ?_) (fun h1 => ?_)
  · refine w_seq (w_region (st (s_assign rfl (r_end (n_then (w_ret1 rfl rfl ?_))))))
    have hv : intr o x = (o, 0) := intr_zero h1
    refine ⟨_, rfl, ?_, vo, _, hb1, (hBA.g0 k1), hM1, ?_, ?_, hF1⟩
    · rw [hv]
    · rw [hv]; exact hO1
    · rw [hv]; exact hMI
  refine w_skip' (n_then (w_seq (w_seq ?_)))
  refine w_draw 10 (fun a b => a.grownBy b none) [(some 12, Is <| .pointer (some ⟨ga, 0, none⟩)), (some 13, Is <| .pointer (some ⟨ga, 0, none⟩)), (some 14, Is <| .pointer (some ⟨ga, 0 + 1, none⟩)), (some 15, Is <| .map (some gk)), (some 16, Is <| .agg [.int .i64 x.lv, .int .i64 x.k0, .int .i64 x.k1, .int .i64 x.k2, .int .i64 x.k3].toArray), (some 17, Is <| .tuple #[.int .i64 ((mget M x).getD 0), .bool ((mget M x).isSome)]), (some 11, Is <| .tuple #[.int .i64 ((mget M x).getD 0), .bool ((mget M x).isSome)]), (some 18, Is <| .int .i64 ((mget M x).getD 0)), (some 19, Is <| .bool ((mget M x).isSome)), (some 5, Is <| .int .i64 ((mget M x).getD 0))] [[], [0], [1], [2], [], [3, 4], [5], [6], [6], [7]] [(0, .pointer (some ⟨ga, 0, none⟩)), (3, .pointer (some ⟨g1, 0, none⟩)), (4, .int .i64 0)] (by exact ⟨rfl, rfl, rfl, trivial⟩) (by kernel_rfl) (by kernel_rfl) grown_none_refl (fun _ _ _ => grown_none_trans) ⟨kv, kv, kv, kv, kv, kv, kv, kv, kv, kv, trivial⟩ ?_
  intro w2 k2 hs2
  have hb2 := below_g0 hb1 k2
  have hF2 := hF1.none k2
  have hO2 := hO1.g0 k2
  have hM2 := hM1.g0 k2
  refine ⟨⟨?_, ?_, ?_, ?_, ?_, ?_, ?_, ?_, ?_, ?_, trivial⟩, ?_⟩
  · intro w3 k3
    have hM3 := hM2.g0 k3
    refine op1 (s_move rfl ?_)
    exact ⟨rfl, grown_none_refl _⟩
  · intro w4 k4
    have hM4 := hM2.g0 k4
    rintro _ rfl
    refine op1 (s_nilp rfl ?_)
    exact ⟨rfl, grown_none_refl _⟩
  · intro w5 k5
    have hM5 := hM2.g0 k5
    rintro _ rfl
    refine op1 (s_faddr fld126_1 rfl ?_)
    exact ⟨rfl, grown_none_refl _⟩
  · intro w6 k6
    have hM6 := hM2.g0 k6
    rintro _ rfl
    refine op1 (s_load one124 rfl (((hBA.g0 k1).g0 k2).g0 k6).range (j := 1) rfl ?_)
    exact ⟨rfl, grown_none_refl _⟩
  · intro w7 k7
    have hM7 := hM2.g0 k7
    refine op1 (s_loadW row101 rfl ((hB1.g0 k2).g0 k7).range rfl ?_)
    exact ⟨rfl, grown_none_refl _⟩
  · intro w8 k8
    have hM8 := hM2.g0 k8
    rintro _ rfl _ rfl
    refine op1 (s_lookupI2 map124 keyNode rfl rfl hM8 (by kernel_rfl) ?_)
    exact ⟨rfl, grown_none_refl _⟩
  · intro w9 k9
    have hM9 := hM2.g0 k9
    rintro _ rfl
    refine op1 (s_move rfl ?_)
    exact ⟨rfl, grown_none_refl _⟩
  · intro w10 k10
    have hM10 := hM2.g0 k10
    rintro _ rfl
    refine op1 (s_extract rfl rfl ?_)
    exact ⟨rfl, grown_none_refl _⟩
  · intro w11 k11
    have hM11 := hM2.g0 k11
    rintro _ rfl
    refine op1 (s_extract rfl rfl ?_)
    exact ⟨rfl, grown_none_refl _⟩
  · intro w12 k12
    have hM12 := hM2.g0 k12
    rintro _ rfl
    refine op1 (s_assign rfl ?_)
    exact ⟨rfl, grown_none_refl _⟩
  intro w13 k13
  have hb13 := below_g0 hb2 k13
  have hF13 := hF2.none k13
  have hO13 := hO2.g0 k13
  have hM13 := hM2.g0 k13
  rintro _ rfl _ rfl _ rfl _ rfl _ rfl _ rfl _ rfl _ rfl _ rfl _ rfl
  refine st (s_assign rfl (r_end (n_then (w_seq (w_region (st (s_move rfl (r_end ?_))))))))
  refine n_then ?_
  refine w_cond rfl (fun h2 => ?_) (fun h2 => ?_)
  · refine w_seq (w_region (st (s_move rfl (st (s_assign rfl (r_end (n_then (w_ret1 rfl rfl ?_))))))))
    have hv := minv_yes hMI h2 h1
    refine ⟨_, rfl, ?_, vo, _, hb13, (((hBA.g0 k1).g0 k2).g0 k13), hM13, ?_, ?_, hF13⟩
    · rw [hv]
    · rw [hv]; exact hO13
    · rw [hv]; exact hMI
  refine w_skip' (n_then (w_seq ?_))
  refine w_drawD 11 (Two (fun i => i = ga ∨ vo.ownBlock = some i)) (fun a b => a.grownBy b none) (Two (fun i => i = ga ∨ vo.ownBlock = some i)) [(some 22, fun v _ => v = .pointer (some ⟨ga, 0, none⟩)), (some 23, fun v _ => v = .pointer (some ⟨ga, 0, none⟩)), (some 24, fun v _ => v = .pointer (some ⟨ga, 0, none⟩)), (some 25, fun v _ => v = .pointer (some ⟨ga, 0 + 0, none⟩)), (some 26, fun v _ => v = vo), (some 27, fun v _ => v = .agg [.int .i64 x.lv, .int .i64 x.k0, .int .i64 x.k1, .int .i64 x.k2, .int .i64 x.k3].toArray), (some 28, fun v W => Sl Kd.node W (fun _ => False) v [x]), (some 29, fun v W => (Gw.Own Kd.node 101 a.heap.size W (fun _ => False) v (o ++ [x]) ∧ (v.ownBlock = vo.ownBlock ∨ ∃ q, v.ownBlock = some q ∧ w13.heap.size ≤ q)) ∧ Blk W ga 126 [vo, .map (some gk)].toArray), (some 30, fun v _ => v = .pointer (some ⟨ga, 0, none⟩)), (some 31, fun v _ => v = .pointer (some ⟨ga, 0 + 0, none⟩)), (none, fun _ W => ∃ u, (Gw.Own Kd.node 101 a.heap.size W (fun _ => False) u (o ++ [x]) ∧ (u.ownBlock = vo.ownBlock ∨ ∃ q, u.ownBlock = some q ∧ w13.heap.size ≤ q)) ∧ Blk W ga 126 [u, .map (some gk)].toArray)] [[], [], [1], [2], [3], [], [5], [4, 6], [0], [8], [7, 9]] [[], [], [1], [2, 1], [3, 2, 1], [], [5], [4, 6, 3, 2, 1, 5], [], [], [7, 6, 5, 4, 3, 2, 1]] [[], [], [], [], [], [], [7], [10], [], [], []] [false, false, false, false, false, false, false, true, false, false, true] [true, true, true, true, true, true, false, false, true, true, false] [false, true, true, true, true, true, true, true, false, false, false] [(0, .pointer (some ⟨ga, 0, none⟩)), (3, .pointer (some ⟨g1, 0, none⟩)), (4, .int .i64 0)] (by exact ⟨rfl, rfl, rfl, trivial⟩) (by kernel_rfl) (by kernel_rfl) (by kernel_rfl) rfl (Two.refl _) (fun _ _ _ h k => h.trans k) (fun _ _ h => Two.none h) (fun _ _ h => h) ⟨fun _ _ _ h _ => by exact h, fun _ _ _ h _ => by exact h, fun _ _ _ h _ => by exact h, fun _ _ _ h _ => by exact h, fun _ _ _ h _ => by exact h, fun _ _ _ h _ => by exact h, fun _ _ _ h _ => by exact h, fun _ _ _ h _ => by exact h, fun _ _ _ h _ => by exact h, fun _ _ _ h _ => by exact h, fun _ _ _ h _ => by exact h, fun _ _ _ h _ => by exact h, fun _ _ _ h k => h.g0 k, fun _ _ _ h k => ⟨⟨h.1.1.g0 k, h.1.2⟩, h.2.g0 k⟩, fun _ _ _ h _ => by exact h, fun _ _ _ h _ => by exact h, fun _ _ _ h _ => by exact h, fun _ _ _ h _ => by exact h, fun _ _ _ h k => by obtain ⟨u, h⟩ := h; exact ⟨u, ⟨h.1.1.g0 k, h.1.2⟩, h.2.g0 k⟩, trivial⟩ grown_none_refl (fun _ _ _ => grown_none_trans) rfl ?_
  intro w14 k14 hs3
  have hb14 := below_g0 hb13 k14
  have hF14 := hF13.none k14
  have hO14 := hO13.g0 k14
  have hM14 := hM13.g0 k14
  refine ⟨⟨?_, ?_, ?_, ?_, ?_, ?_, ?_, ?_, ?_, ?_, ?_, trivial⟩, ?_⟩
  · intro w8z_ kb_
    exact op1 (s_move rfl ⟨rfl, grown_none_refl _⟩)
  · intro w8z_ kb_
    have hb_ := below_g0 hb14 kb_
    have hz_ := hb_.size
    have he_ := kb_.size
    exact op1 (s_move rfl ⟨rfl, grown_none_refl _⟩)
  · intro w8z_ kb_
    have hb_ := below_g0 hb14 kb_
    have hz_ := hb_.size
    have he_ := kb_.size
    rintro _ rfl
    exact op1 (s_nilp rfl ⟨rfl, grown_none_refl _⟩)
  · intro w8z_ kb_
    have hb_ := below_g0 hb14 kb_
    have hz_ := hb_.size
    have he_ := kb_.size
    rintro _ rfl
    exact op1 (s_faddr fld126_0 rfl ⟨rfl, grown_none_refl _⟩)
  · intro w8z_ kb_
    have hb_ := below_g0 hb14 kb_
    have hz_ := hb_.size
    have he_ := kb_.size
    rintro _ rfl
    exact op1 (s_load one22 rfl (((((hBA.g0 k1).g0 k2).g0 k13).g0 k14).g0 kb_).range (j := 0) rfl ⟨rfl, grown_none_refl _⟩)
  · intro w8z_ kb_
    have hb_ := below_g0 hb14 kb_
    have hz_ := hb_.size
    have he_ := kb_.size
    exact op1 (s_loadW row101 rfl ((((hB1.g0 k2).g0 k13).g0 k14).g0 kb_).range rfl ⟨rfl, grown_none_refl _⟩)
  · intro w8z_ kb_
    have hb_ := below_g0 hb14 kb_
    have hz_ := hb_.size
    have he_ := kb_.size
    rintro _ rfl
    refine op1 (s_bslice (ps := [(0, .tmp 27)]) (ccs := [(Nd.cells x).toArray]) (e := 101) (cells := Nd.cells x) rfl rfl (by kernel_rfl) (by decide) nz101 ?_)
    intro gz_ wz_ hgz_ hBz_ kz_ hsz_
    exact ⟨lit_nodes [x] hBz_ (fun h => h) rfl (by decide), kz_⟩
  · intro w8z_ kb_
    have hb_ := below_g0 hb14 kb_
    have hz_ := hb_.size
    have he_ := kb_.size
    intro v_ hv_; subst v_
    intro vl_ hl_
    refine op1 (s_appendF (K := Kd.node) sl22 rfl rfl (hO14.g0 kb_) node_flat hl_ node_ones (by simp; omega) (by simp; omega) (by omega) (fun _ h => h.elim) ?_)
    intro vz_ wz_ hPz_ kz_ hor_ _
    refine ⟨⟨⟨hPz_, ?_⟩, ?_⟩, Two.of kz_ (fun r hr => .inr hr)⟩
    · rcases hor_ with h_ | h_
      · exact .inl h_
      · exact .inr ⟨_, h_, by omega⟩
    · exact (((((hBA.g0 k1).g0 k2).g0 k13).g0 k14).g0 kb_).grown kz_ (fun e => ne_of (hO14.ne_blk ((((hBA.g0 k1).g0 k2).g0 k13).g0 k14) (by decide)) e.symm)
  · intro w8z_ kb_
    rintro _ rfl
    exact op1 (s_nilp rfl ⟨rfl, grown_none_refl _⟩)
  · intro w8z_ kb_
    rintro _ rfl
    exact op1 (s_faddr fld126_0 rfl ⟨rfl, grown_none_refl _⟩)
  · intro w8z_ kb_
    rintro v29 ⟨⟨h29, hr29⟩, hB29⟩ _ rfl
    refine op1 (s_store one22 rfl rfl h29.one hB29 (by simp) ?_)
    intro wz_ hBz_ kz_ _
    exact ⟨⟨v29, ⟨h29.keptF node_flat kz_ (.inr (ne_of (h29.ne_blk hB29 (by decide)))), hr29⟩, hBz_⟩, Two.of kz_ (by rintro r ⟨⟩; exact .inl rfl)⟩
  rintro w15 k15 _ rfl _ rfl _ rfl _ rfl
  intro v_ hv_; subst v_
  rintro _ rfl v28 _ v29 _ _ rfl _ rfl _ ⟨v30, ⟨h30, hr30⟩, hB30⟩
  have hgax : g1 ≠ ga := (blk_ne_blk (((hB1.g0 k2).g0 k13).g0 k14) ((((hBA.g0 k1).g0 k2).g0 k13).g0 k14) (by decide))
  have hgkx : gk ≠ ga := hM14.ne_blk ((((hBA.g0 k1).g0 k2).g0 k13).g0 k14)
  have hr1 : v30.ownBlock = vo.ownBlock ∨ ∃ q, v30.ownBlock = some q ∧ w14.heap.size ≤ q := by rw [hs3]; exact hr30
  have hb15 := k15.below hb14 hb14.size (fun i hi h_ => h_.elim (fun h_ => by omega) (fun h_ => by have := (hO14.lt i h_).1; omega))
  have hB2 := (((hB1.g0 k2).g0 k13).g0 k14).two k15 (fun h_ => h_.elim hgax hn1)
  have hM15 := hM14.two k15 (fun h_ => h_.elim hgkx (ne_of_map hM14 hO14))
  have hF15 := hF14.two k15 (fun i h_ => h_.imp .inl id) hr1
  have hz1 := hb15.size
  have hn2 := own_app2 hn1 hr1 (by have := (((hB1.g0 k2).g0 k13).g0 k14).lt; omega)
  refine r_end (n_then (w_seq ?_))
  refine w_draw 10 (fun a b => a.grownBy b none) [(some 32, Is <| .pointer (some ⟨ga, 0, none⟩)), (some 33, Is <| .pointer (some ⟨ga, 0, none⟩)), (some 34, Is <| .pointer (some ⟨ga, 0 + 1, none⟩)), (some 35, Is <| .map (some gk)), (some 36, Is <| .agg [.int .i64 x.lv, .int .i64 x.k0, .int .i64 x.k1, .int .i64 x.k2, .int .i64 x.k3].toArray), (some 37, Is <| .pointer (some ⟨ga, 0, none⟩)), (some 38, Is <| .pointer (some ⟨ga, 0, none⟩)), (some 39, Is <| .pointer (some ⟨ga, 0 + 0, none⟩)), (some 40, Is <| v30), (some 41, Is <| .int .i64 ((o ++ [x]).length : Int))] [[], [0], [1], [2], [], [], [5], [6], [7], [8]] [(0, .pointer (some ⟨ga, 0, none⟩)), (3, .pointer (some ⟨g1, 0, none⟩)), (4, .int .i64 0)] (by exact ⟨rfl, rfl, rfl, trivial⟩) (by kernel_rfl) (by kernel_rfl) grown_none_refl (fun _ _ _ => grown_none_trans) ⟨kv, kv, kv, kv, kv, kv, kv, kv, kv, kv, trivial⟩ ?_
  intro w16 k16 hs4
  have hb16 := below_g0 hb15 k16
  have hF16 := hF15.none k16
  have hO15 := h30.g0 k16
  have hM16 := hM15.g0 k16
  refine ⟨⟨?_, ?_, ?_, ?_, ?_, ?_, ?_, ?_, ?_, ?_, trivial⟩, ?_⟩
  · intro w17 k17
    have hM17 := hM16.g0 k17
    refine op1 (s_move rfl ?_)
    exact ⟨rfl, grown_none_refl _⟩
  · intro w18 k18
    have hM18 := hM16.g0 k18
    rintro _ rfl
    refine op1 (s_nilp rfl ?_)
    exact ⟨rfl, grown_none_refl _⟩
  · intro w19 k19
    have hM19 := hM16.g0 k19
    rintro _ rfl
    refine op1 (s_faddr fld126_1 rfl ?_)
    exact ⟨rfl, grown_none_refl _⟩
  · intro w20 k20
    have hM20 := hM16.g0 k20
    rintro _ rfl
    refine op1 (s_load one124 rfl ((hB30.g0 k16).g0 k20).range (j := 1) rfl ?_)
    exact ⟨rfl, grown_none_refl _⟩
  · intro w21 k21
    have hM21 := hM16.g0 k21
    refine op1 (s_loadW row101 rfl ((hB2.g0 k16).g0 k21).range rfl ?_)
    exact ⟨rfl, grown_none_refl _⟩
  · intro w22 k22
    have hM22 := hM16.g0 k22
    refine op1 (s_move rfl ?_)
    exact ⟨rfl, grown_none_refl _⟩
  · intro w23 k23
    have hM23 := hM16.g0 k23
    rintro _ rfl
    refine op1 (s_nilp rfl ?_)
    exact ⟨rfl, grown_none_refl _⟩
  · intro w24 k24
    have hM24 := hM16.g0 k24
    rintro _ rfl
    refine op1 (s_faddr fld126_0 rfl ?_)
    exact ⟨rfl, grown_none_refl _⟩
  · intro w25 k25
    have hM25 := hM16.g0 k25
    rintro _ rfl
    refine op1 (s_load one22 rfl ((hB30.g0 k16).g0 k25).range (j := 0) rfl ?_)
    exact ⟨rfl, grown_none_refl _⟩
  · intro w26 k26
    have hO25 := hO15.g0 k26
    have hM26 := hM16.g0 k26
    intro v_ hv_; subst v_
    refine op1 (s_len sl22 rfl hO25.sl ?_)
    exact ⟨rfl, grown_none_refl _⟩
  intro w27 k27
  have hb27 := below_g0 hb16 k27
  have hF27 := hF16.none k27
  have hO26 := hO15.g0 k27
  have hM27 := hM16.g0 k27
  rintro _ rfl _ rfl _ rfl _ rfl _ rfl _ rfl _ rfl _ rfl
  intro v_ hv_; subst v_
  rintro _ rfl
  refine st0 (s_mapput (a := x) (v := ((o ++ [x]).length : Int)) map124 keyNode rfl rfl rfl hM27 ?_)
  intro w28 hM28 k28 hs5
  have hb28 := below_g hb27 k28 (by first | omega | (have h9 := (hb27).size; omega))
  have hF28 := hF27.put k28 (by first | exact .inr (by omega) | exact .inl (by assumption) | exact .inl (.inl rfl) | exact .inl (.inr rfl) | exact .inl (.inr (.inl rfl)) | exact .inl (.inr (.inr rfl)))
  have hO27 := Own.keptF node_flat hO26 k28 (hM27.ne_own hO26)
  refine r_end (n_then (w_seq (w_region (st (s_move rfl (st (s_nilp rfl (st (s_faddr fld126_0 rfl ?_)))))))))
  refine st (s_load one22 rfl (((hB30.g0 k16).g0 k27).gne k28 (hM27.ne_blk ((hB30.g0 k16).g0 k27)).symm).range (j := 0) rfl (st (s_len sl22 rfl hO27.sl (st (s_assign rfl (r_end (n_then (w_ret1 rfl rfl ?_))))))))
  have hv := minv_no hMI h2 h1
  refine ⟨_, rfl, ?_, v30, _, hb28, (((hB30.g0 k16).g0 k27).gne k28 (hM27.ne_blk ((hB30.g0 k16).g0 k27)).symm), hM28, ?_, ?_, hF28⟩
  · rw [hv.1]; simp
  · rw [hv.1]; exact hO27
  · rw [hv.1]; exact minv_push hMI hv.2 (by simp)
end Go.Proofs.Ytfljelnfjbbknaa.Nd

set_option maxRecDepth 20000
set_option linter.unusedSimpArgs false
set_option linter.unusedVariables false
namespace Go.Proofs.Ytfljelnfjbbknaa.Nd
open Go.RowKit Go.Gw
theorem visit1_any {a0 : World} {vl : Value} {L : List Nd} {F : Nat → Prop} {g7 g2 g8 g6 ga gd gk : Nat} (hl : Sl Kd.node a0 F vl L) (hl_ok : looseB L = true) (hll : L.length ≤ 110000) (hne0 : a0.heap.size ≤ ga ∧ a0.heap.size ≤ gd ∧ a0.heap.size ≤ gk) (hdst : Dist g7 g2 g8 g6 ga gd gk) :
    ∀ (f : Nat) {w : World} {vo : Value} {o : List Nd} {D : List (Int × Int)} {M : List (Nd × Int)} {n : Int}, n < f → 0 ≤ n → n ≤ L.length → Below a0.heap.size a0 w → Blk w g7 127 [.map (some gd)].toArray → Blk w g2 22 [vl].toArray → Blk w g8 128 [.func (.func 93) [].toArray [.pointer (some ⟨g7, 0, none⟩), .pointer (some ⟨g2, 0, none⟩), .pointer (some ⟨g8, 0, none⟩), .pointer (some ⟨g6, 0, none⟩)].toArray].toArray → Blk w g6 123 [Value.pointer (some ⟨ga, 0, none⟩)].toArray → Blk w ga 126 [vo, .map (some gk)].toArray → IsMap ekI ekI w gd D → IsMap Nd.val ekI w gk M → Gw.Own Kd.node 101 a0.heap.size w (fun _ => False) vo o → DOk L D o → MInv M o → CanL o →
    Calls Try.prog 93 ([] ++ [Value.int .i64 n] ++ [Value.pointer (some ⟨g7, 0, none⟩), Value.pointer (some ⟨g2, 0, none⟩), Value.pointer (some ⟨g8, 0, none⟩), Value.pointer (some ⟨g6, 0, none⟩)]).toArray w (Ret fun v w' => v = .int .i64 (vis (tr L n) o).2 ∧ ∃ vo' D' M', Below a0.heap.size a0 w' ∧ Blk w' ga 126 [vo', .map (some gk)].toArray ∧ IsMap ekI ekI w' gd D' ∧ IsMap Nd.val ekI w' gk M' ∧ Gw.Own Kd.node 101 a0.heap.size w' (fun _ => False) vo' (vis (tr L n) o).1 ∧
      DOk L D' (vis (tr L n) o).1 ∧ MInv M' (vis (tr L n) o).1 ∧ CanL (vis (tr L n) o).1 ∧ (∀ i : Int, n < i → mget D' i = mget D i) ∧ Frm (fun g => g = ga ∨ g = gd ∨ g = gk) w vo w' vo') := by
  intro f
  induction f with
  | zero => intro w vo o D M n hnf hn0; omega
  | succ f ih =>
    intro w vo o D M n hnf hn0 hn1b hb0 hQ7 hQ2 hQ8 hQ6 hBA hMD hMK hE hdok0 hmi0 hcan0
    have hnf2 : n ≤ (f : Int) := by omega
    have hgl7 := hQ7.lt
    have hgl2 := hQ2.lt
    have hgl8 := hQ8.lt
    have hgl6 := hQ6.lt
    have hgla := hBA.lt
    have hgld := hMD.lt
    have hglk := hMK.lt
    have hdk_ : gd ≠ gk := fun e => hdst.dx (.inr e)
    have hz0 := hb0.size
    have hF0 := Frm.refl (fun g => g = ga ∨ g = gd ∨ g = gk) w vo
    refine enter Try.func93 rfl rfl (w_seq (w_region (st (s_assign rfl (r_end (n_then (w_seq ?_)))))))
    refine w_seq (w_region (st (s_load one127 rfl hQ7.range (j := 0) rfl (st (s_move rfl (st (s_lookupI2 map127 keyI rfl rfl hMD (by kernel_rfl) (st (s_move rfl (st (s_extract rfl rfl ?_)))))))))))
    refine st (s_extract rfl rfl (st (s_assign rfl (st (s_assign rfl (r_end (n_then (w_seq (w_region ?_)))))))))
    refine st (s_move rfl (r_end (n_then ?_)))
    refine w_cond rfl (fun h1 => ?_) (fun h1 => ?_)
    · obtain ⟨m_, hm_⟩ := Option.isSome_iff_exists.1 h1
      have hv_ := (hdok0.ok n m_ hm_).2.2
      refine w_seq (w_region (st (s_move rfl (st (s_assign rfl (r_end (n_then (w_ret1 rfl rfl ?_))))))))
      rw [hm_]
      refine ⟨_, rfl, ?_, vo, D, M, hb0, hBA, hMD, hMK, ?_, ?_, ?_, ?_, fun _ _ => rfl, hF0⟩
      · rw [hv_]; rfl
      · rw [hv_]; exact hE
      · rw [hv_]; exact hdok0
      · rw [hv_]; exact hmi0
      · rw [hv_]; exact hcan0
    have hn1p : 1 ≤ n := by
      rcases Int.lt_or_le 0 n with q | q
      · omega
      · exfalso; have e : n = 0 := by omega
        rw [e, hdok0.zero] at h1; cases h1
    have hkr := kid_rng hl_ok (i := n - 1) (by omega) (by omega)
    have hno_ : mget D n = none := by simpa using h1
    refine w_skip' (n_then (w_seq (w_region (st (s_load one22 rfl hQ2.range (j := 0) rfl (st (s_move rfl (st (s_sub rfl rfl (by omega) ?_)))))))))
    refine st (s_idx sl22 rfl rfl (hl.at0 hb0) (by omega) (by omega) ?_)
    rintro b1 o1 _ ⟨rfl, _⟩ hc1 hF1 hlt1
    have hl_1 := Loc.lt hF1
    refine st (s_loadW row101 rfl hc1 rfl (st (s_alloc zero101 ?_)))
    intro g1 w1 hg1 hB1 k1 hs1
    have hz1 := hb0.size
    have hn1 := own_new hE hg1
    have hb1 := below_g0 hb0 k1
    have hF2 := hF0.none k1
    have hO1 := hE.g0 k1
    have hM1 := hMK.g0 k1
    have hM2 := hMD.g0 k1
    refine st0 (s_storeN row101 rfl rfl hB1 rfl rfl rfl ?_)
    intro w2 hB2 k2 hs2
    have hb2 := below_g hb1 k2 (by first | omega | (have h9 := (hb1).size; omega))
    have hF3 := hF2.put k2 (by first | exact .inr (by omega) | exact .inl (by assumption) | exact .inl (.inl rfl) | exact .inl (.inr rfl) | exact .inl (.inr (.inl rfl)) | exact .inl (.inr (.inr rfl)))
    have hO2 := Own.keptN node_flat hO1 k2 hn1
    have hM3 := hM1.kept k2 (by simpa using hM1.ne_blk hB1)
    have hM4 := hM2.kept k2 (by simpa using hM2.ne_blk hB1)
    clear hB1
    refine r_end (n_then (w_seq (w_seq (w_region (st (s_faddr fld101_0 rfl (st (s_load one3 rfl hB2.range (j := 0) rfl ?_))))))))
    refine st (s_gt rfl rfl (r_end (n_then ?_)))
    refine w_condP rfl (fun h2 => ?_) (fun h2 => ?_)
    rotate_left
    · refine w_skip' (n_then (w_seq (w_region (st (s_load one123 rfl ((hQ6.g0 k1).gne k2 (by omega)).range (j := 0) rfl (st (s_loadW row101 rfl hB2.range rfl ?_)))))))
      have hlen9 := hdok0.len
      have hcnt9 := hdok0.cnt
      refine st (s_call fn94 rfl (intern_any (x := (⟨(ix L (n - 1)).lv, (ix L (n - 1)).k0, (ix L (n - 1)).k1, (ix L (n - 1)).k2, (ix L (n - 1)).k3⟩ : Nd)) hb2 (by omega) (by omega) ((hBA.g0 k1).gne k2 (by omega)) hM3 hO2 hmi0 (by omega)) ?_)
      rintro _ w8 ⟨rfl, vo3, M3, hb8, hB15, hM13, hO7, hp8, hp9⟩
      have hz5 := hb8.size
      have hB16 := Blk.frm ((hQ7.g0 k1).gne k2 (by omega)) hp9 (not3 hdst.x7) (ne_of (hO2.ne_blk ((hQ7.g0 k1).gne k2 (by omega)) (by decide)))
      have hB17 := Blk.frm ((hQ2.g0 k1).gne k2 (by omega)) hp9 (not3 hdst.x2) (ne_of (hO2.ne_blk ((hQ2.g0 k1).gne k2 (by omega)) (by decide)))
      have hB18 := Blk.frm ((hQ8.g0 k1).gne k2 (by omega)) hp9 (not3 hdst.x8) (ne_of (hO2.ne_blk ((hQ8.g0 k1).gne k2 (by omega)) (by decide)))
      have hB19 := Blk.frm ((hQ6.g0 k1).gne k2 (by omega)) hp9 (not3 hdst.x6) (ne_of (hO2.ne_blk ((hQ6.g0 k1).gne k2 (by omega)) (by decide)))
      have hM14 := IsMap.frm hM4 hp9 hdst.dx (ne_of_map hM4 hO2)
      have hF8 := hF3.trans (hp9.mono (fun g_ h_ => h_.elim .inl (fun h_ => .inr (.inr h_))))
      refine st (s_assign rfl (r_end (n_then (w_seq (w_region (st (s_load one127 rfl hB16.range (j := 0) rfl (st (s_move rfl ?_)))))))))
      refine st (s_move rfl (st0 (s_mapput (a := n) (v := (intr o (⟨(ix L (n - 1)).lv, (ix L (n - 1)).k0, (ix L (n - 1)).k1, (ix L (n - 1)).k2, (ix L (n - 1)).k3⟩ : Nd)).2) map127 keyI rfl rfl rfl hM14 ?_)))
      intro w9 hM15 k8 hs5
      have hb9 := below_g hb8 k8 (by first | omega | (have h9 := (hb8).size; omega))
      have hF9 := hF8.put k8 (by first | exact .inr (by omega) | exact .inl (by assumption) | exact .inl (.inl rfl) | exact .inl (.inr rfl) | exact .inl (.inr (.inl rfl)) | exact .inl (.inr (.inr rfl)))
      have hO8 := Own.keptF node_flat hO7 k8 (hM14.ne_own hO7)
      have hM16 := hM13.kept k8 (by simp; omega)
      refine r_end (n_then (w_seq (w_region (st (s_move rfl (st (s_assign rfl (r_end ?_))))))))
      refine n_then (w_ret1 rfl rfl ?_)
      have hv : vis (tr L n) o = intr o (⟨(ix L (n - 1)).lv, (ix L (n - 1)).k0, (ix L (n - 1)).k1, (ix L (n - 1)).k2, (ix L (n - 1)).k3⟩ : Nd) := st4_end hl_ok hn1p hn1b (st4_zero L (ix L (n - 1)) o) (.inr ⟨rfl, by assumption⟩)
      have hs9 := vis_self (t := tr L n) o
      have hc9 := (vis_can (tr L n) (wf_tr hl_ok n hn0 hn1b (ix L (n - 1)).lv (fun _ => rfl)) hcan0).1
      rw [hv] at hs9 hc9
      refine ⟨_, rfl, ?_, vo3, _, M3, hb9, (hB15.gne k8 (hM14.ne_blk hB15).symm), hM15, hM16, ?_, ?_, ?_, ?_, fun i_ hi_ => ?_, hF9⟩
      · rw [hv]
      · rw [hv]; exact hO8
      · rw [hv]; exact hdok0.put (intr_pre _ _) (intr_len _ _) hn0 hn1b hno_ hs9
      · rw [hv]; exact hp8
      · rw [hv]; exact hc9
      · rw [mget_mput, if_neg (by omega)]
    refine w_seq (w_region (st (s_faddr fld101_1 rfl (st (s_loadN (us := [.int .i64 ((ix L (n - 1)).k0), .int .i64 ((ix L (n - 1)).k1), .int .i64 ((ix L (n - 1)).k2), .int .i64 ((ix L (n - 1)).k3)]) row99 rfl hB2.range (j := 1) rfl rfl (st (s_move rfl (r_end (n_then ?_)))))))))
    refine w_block ?_
    refine w_loop (α := Int × List Nd × Value × List (Int × Int) × List (Nd × Int) × Int × Int × Int × Int) (fun ((k, ok, vk, Dk, Mk, a, b, c, e) : Int × List Nd × Value × List (Int × Int) × List (Nd × Int) × Int × Int × Int × Int) => [(0, .int .i64 n), (1, .pointer (some ⟨g7, 0, none⟩)), (3, .pointer (some ⟨g8, 0, none⟩)), (4, .pointer (some ⟨g6, 0, none⟩)), (6, .int .i64 0), (9, .pointer (some ⟨g1, 0, none⟩)), (30, .agg [.int .i64 ((ix L (n - 1)).k0), .int .i64 ((ix L (n - 1)).k1), .int .i64 ((ix L (n - 1)).k2), .int .i64 ((ix L (n - 1)).k3)].toArray), (31, .int .i64 k)]) (fun ((k, ok, vk, Dk, Mk, a, b, c, e) : Int × List Nd × Value × List (Int × Int) × List (Nd × Int) × Int × Int × Int × Int) W => Below a0.heap.size a0 W ∧ (0 ≤ k ∧ k ≤ 4) ∧ (St4 L (ix L (n - 1)) o k ok a b c e) ∧ (Blk W g7 127 [.map (some gd)].toArray) ∧ (Blk W g2 22 [vl].toArray) ∧ (Blk W g8 128 [.func (.func 93) [].toArray [.pointer (some ⟨g7, 0, none⟩), .pointer (some ⟨g2, 0, none⟩), .pointer (some ⟨g8, 0, none⟩), .pointer (some ⟨g6, 0, none⟩)].toArray].toArray) ∧ (Blk W g6 123 [.pointer (some ⟨ga, 0, none⟩)].toArray) ∧ (Blk W ga 126 [vk, .map (some gk)].toArray) ∧ (Blk W g1 101 [.int .i64 ((ix L (n - 1)).lv), .int .i64 a, .int .i64 b, .int .i64 c, .int .i64 e].toArray) ∧ (IsMap ekI ekI W gd Dk) ∧ (IsMap Nd.val ekI W gk Mk) ∧ (Gw.Own Kd.node 101 a0.heap.size W (fun _ => False) vk ok) ∧ (DOk L Dk ok) ∧ (MInv Mk ok) ∧ (CanL ok) ∧ (∀ i : Int, n ≤ i → mget Dk i = mget D i) ∧ (Frm (fun g => g = ga ∨ g = gd ∨ g = gk) w vo W vk) ∧ (vk.ownBlock ≠ some g1)) (fun ((k, ok, vk, Dk, Mk, a, b, c, e) : Int × List Nd × Value × List (Int × Int) × List (Nd × Int) × Int × Int × Int × Int) => (4 - k).toNat) ((0), (o), (vo), (D), (M), ((ix L (n - 1)).k0), ((ix L (n - 1)).k1), ((ix L (n - 1)).k2), ((ix L (n - 1)).k3)) ⟨hb2, by omega, st4_zero L (ix L (n - 1)) o, ((hQ7.g0 k1).gne k2 (by omega)), ((hQ2.g0 k1).gne k2 (by omega)), ((hQ8.g0 k1).gne k2 (by omega)), ((hQ6.g0 k1).gne k2 (by omega)), ((hBA.g0 k1).gne k2 (by omega)), hB2, hM4, hM3, hO2, hdok0, hmi0, hcan0, fun _ _ => rfl, hF3, hn1⟩ (by exact ⟨rfl, rfl, rfl, rfl, rfl, rfl, rfl, rfl, trivial⟩) ?_
    rintro ⟨k, ok, vk, Dk, Mk, a, b, c, e⟩ w3 ⟨hb3, hk, hst, hC7, hC2, hC8, hC6, hCA, hCx, hMDk, hMKk, hOk, hdok, hmi, hcan, hhi, hFk, hne⟩
    dsimp only at *
    have hz2 := hb3.size
    refine w_seq (w_region (st (s_lt rfl rfl (r_end (n_then (w_seq ?_))))))
    refine w_condP rfl (fun h3 => ?_) (fun h3 => ?_)
    rotate_left
    · refine w_exit' (n_then_exit (n_then_exit (n_block_exit (n_then (w_seq (w_region ?_))))))
      refine st (s_load one123 rfl hC6.range (j := 0) rfl (st (s_loadW row101 rfl hCx.range rfl ?_)))
      have hlen9 := hdok.len
      have hcnt9 := hdok.cnt
      refine st (s_call fn94 rfl (intern_any (x := (⟨(ix L (n - 1)).lv, a, b, c, e⟩ : Nd)) hb3 (by omega) (by omega) hCA hMKk hOk hmi (by omega)) ?_)
      rintro _ w6 ⟨rfl, vo2, M2, hb6, hB10, hM9, hO5, hp6, hp7⟩
      have hz4 := hb6.size
      have hB11 := Blk.frm hC7 hp7 (not3 hdst.x7) (ne_of (hOk.ne_blk hC7 (by decide)))
      have hB12 := Blk.frm hC2 hp7 (not3 hdst.x2) (ne_of (hOk.ne_blk hC2 (by decide)))
      have hB13 := Blk.frm hC8 hp7 (not3 hdst.x8) (ne_of (hOk.ne_blk hC8 (by decide)))
      have hB14 := Blk.frm hC6 hp7 (not3 hdst.x6) (ne_of (hOk.ne_blk hC6 (by decide)))
      have hM10 := IsMap.frm hMDk hp7 hdst.dx (ne_of_map hMDk hOk)
      have hF6 := hFk.trans (hp7.mono (fun g_ h_ => h_.elim .inl (fun h_ => .inr (.inr h_))))
      refine st (s_assign rfl (r_end (n_then (w_seq (w_region (st (s_load one127 rfl hB11.range (j := 0) rfl (st (s_move rfl ?_)))))))))
      refine st (s_move rfl (st0 (s_mapput (a := n) (v := (intr ok (⟨(ix L (n - 1)).lv, a, b, c, e⟩ : Nd)).2) map127 keyI rfl rfl rfl hM10 ?_)))
      intro w7 hM11 k6 hs4
      have hb7 := below_g hb6 k6 (by first | omega | (have h9 := (hb6).size; omega))
      have hF7 := hF6.put k6 (by first | exact .inr (by omega) | exact .inl (by assumption) | exact .inl (.inl rfl) | exact .inl (.inr rfl) | exact .inl (.inr (.inl rfl)) | exact .inl (.inr (.inr rfl)))
      have hO6 := Own.keptF node_flat hO5 k6 (hM10.ne_own hO5)
      have hM12 := hM9.kept k6 (by simp; omega)
      refine r_end (n_then (w_seq (w_region (st (s_move rfl (st (s_assign rfl (r_end ?_))))))))
      refine n_then (w_ret1 rfl rfl ?_)
      have hv : vis (tr L n) o = intr ok (⟨(ix L (n - 1)).lv, a, b, c, e⟩ : Nd) := st4_end hl_ok hn1p hn1b hst (.inl ⟨by omega, by assumption⟩)
      have hs9 := vis_self (t := tr L n) o
      have hc9 := (vis_can (tr L n) (wf_tr hl_ok n hn0 hn1b (ix L (n - 1)).lv (fun _ => rfl)) hcan0).1
      rw [hv] at hs9 hc9
      refine ⟨_, rfl, ?_, vo2, _, M2, hb7, (hB10.gne k6 (hM10.ne_blk hB10).symm), hM11, hM12, ?_, ?_, ?_, ?_, fun i_ hi_ => ?_, hF7⟩
      · rw [hv]
      · rw [hv]; exact hO6
      · rw [hv]; exact hdok.put (intr_pre _ _) (intr_len _ _) hn0 hn1b ((hhi n (Int.le_refl _)).trans hno_) hs9
      · rw [hv]; exact hp6
      · rw [hv]; exact hc9
      · rw [mget_mput, if_neg (by omega)]; exact hhi i_ (by omega)
    refine w_skip' (n_then (w_seq (w_block (w_seq (w_region (st (s_move rfl ?_)))))))
    refine st (s_iarr4 arr99 one3 rfl rfl (by omega) (by omega) (st (s_assign rfl (st (s_assign rfl (r_end (n_then (w_region (st (s_move rfl ?_))))))))))
    refine st (s_load one128 rfl hC8.range (j := 0) rfl (st (s_move rfl ?_)))
    have hkr2 := hkr (by omega) k hk.1 (by omega)
    unfold Nd.kid at hkr2
    refine st (s_callc fn93 rfl rfl (ih (n := (sel4 ((ix L (n - 1)).k0) ((ix L (n - 1)).k1) ((ix L (n - 1)).k2) ((ix L (n - 1)).k3) k)) (by omega) (by omega) (by omega) hb3 hC7 hC2 hC8 hC6 hCA hMDk hMKk hOk hdok hmi hcan) ?_)
    rintro _ w4 ⟨rfl, vo1, D1, M1, hb4, hB3, hM5, hM6, hO3, hp1, hp2, hp3, hp4, hp5⟩
    have hz3 := hb4.size
    have hB4 := Blk.frm hC7 hp5 hdst.x7 (ne_of (hOk.ne_blk hC7 (by decide)))
    have hB5 := Blk.frm hC2 hp5 hdst.x2 (ne_of (hOk.ne_blk hC2 (by decide)))
    have hB6 := Blk.frm hC8 hp5 hdst.x8 (ne_of (hOk.ne_blk hC8 (by decide)))
    have hB7 := Blk.frm hC6 hp5 hdst.x6 (ne_of (hOk.ne_blk hC6 (by decide)))
    have hB8 := Blk.frm hCx hp5 (fun h_ => by rcases h_ with h_ | h_ | h_ <;> omega) (hne)
    have hn2 := (hp5.2 _ hCx.lt (fun h_ => by rcases h_ with h_ | h_ | h_ <;> omega) hne).2
    have hF4 := hFk.trans hp5
    refine st (s_faddr fld101_1 rfl (st (s_iaddr arr99 rfl rfl (by omega) (by omega) (st0 (s_storeK one3 rfl rfl hB8 (by omega) (by omega) ?_)))))
    intro w5 hB9 k4 hs3
    have hb5 := below_g hb4 k4 (by first | omega | (have h9 := (hb4).size; omega))
    have hF5 := hF4.put k4 (by first | exact .inr (by omega) | exact .inl (by assumption) | exact .inl (.inl rfl) | exact .inl (.inr rfl) | exact .inl (.inr (.inl rfl)) | exact .inl (.inr (.inr rfl)))
    have hO4 := Own.keptN node_flat hO3 k4 hn2
    have hM7 := hM5.kept k4 (by simpa using hM5.ne_blk hB8)
    have hM8 := hM6.kept k4 (by simpa using hM6.ne_blk hB8)
    clear hB8
    refine r_end (n_block (n_then (w_region (st (s_add rfl rfl (by omega) (st (s_move rfl (r_end ?_))))))))
    exact n_round (((k + 1)), ((vis (tr L ((sel4 ((ix L (n - 1)).k0) ((ix L (n - 1)).k1) ((ix L (n - 1)).k2) ((ix L (n - 1)).k3) k))) ok).1), (vo1), (D1), (M1), ((if k = 0 then (vis (tr L ((sel4 ((ix L (n - 1)).k0) ((ix L (n - 1)).k1) ((ix L (n - 1)).k2) ((ix L (n - 1)).k3) k))) ok).2 else a)), ((if k = 1 then (vis (tr L ((sel4 ((ix L (n - 1)).k0) ((ix L (n - 1)).k1) ((ix L (n - 1)).k2) ((ix L (n - 1)).k3) k))) ok).2 else b)), ((if k = 2 then (vis (tr L ((sel4 ((ix L (n - 1)).k0) ((ix L (n - 1)).k1) ((ix L (n - 1)).k2) ((ix L (n - 1)).k3) k))) ok).2 else c)), ((if k = 3 then (vis (tr L ((sel4 ((ix L (n - 1)).k0) ((ix L (n - 1)).k1) ((ix L (n - 1)).k2) ((ix L (n - 1)).k3) k))) ok).2 else e))) ⟨hb5, by dsimp only; omega, st4_step hst hk.1 (by omega) rfl, (hB4.gne k4 (by omega)), (hB5.gne k4 (by omega)), (hB6.gne k4 (by omega)), (hB7.gne k4 (by omega)), (hB3.gne k4 (by omega)), hB9, hM7, hM8, hO4, hp1, hp2, hp3, fun i_ hi_ => (hp4 i_ (by omega)).trans (hhi i_ hi_), hF5, hn2⟩ (by omega) (by exact ⟨rfl, rfl, rfl, rfl, rfl, rfl, rfl, rfl, trivial⟩)
end Go.Proofs.Ytfljelnfjbbknaa.Nd

set_option maxRecDepth 20000
set_option linter.unusedSimpArgs false
set_option linter.unusedVariables false
namespace Go.Proofs.Ytfljelnfjbbknaa.Nd
open Go.RowKit Go.Gw
set_option maxHeartbeats 1000000 in
theorem of_any {va : Value} {l : List Nd} {F : Nat → Prop} {w : World} (hl : Sl Kd.node w F va l) {n : Int} (hll : l.length ≤ 100000) :
    Calls Try.prog 61 [va, .int .i64 n].toArray w (Pure w fun v w' => ∃ sv, v = .tuple #[.agg #[sv], .int .i64 (ofL l n).2] ∧ Sl Kd.node w' (fun _ => False) sv (ofL l n).1 ∧ (ofL l n).1.length ≤ l.length + 1330) := by
  have hb0 := Below.refl w.heap.size w
  have hln1 := hl.lenle
  refine enter Try.func61 rfl rfl (w_seq (w_region (st (s_box1 rfl hl.cells1 ?_))))
  intro g1 w1 hg1 hB1 k1 hs1
  have hb1 := below_g0 hb0 k1
  refine st (s_alloc zero25 ?_)
  intro g2 w2 hg2 hB2 k2 hs2
  have hz1 := hb1.size
  have hb2 := below_g0 hb1 k2
  refine st (s_assign rfl (r_end (n_then (w_seq (w_seq (w_region (st (s_load one22 rfl (hB1.g0 k2).range (j := 0) rfl ?_))))))))
  refine st (s_call fn91 rfl (loose_any (hl.at0 hb2)) ?_)
  rintro _ w3 ⟨hq1, rfl⟩
  have k3 := grown_of_below hq1 none
  have hz2 := hq1.size
  have hb3 := below_g0 hb2 k3
  have hz3 := hb3.size
  refine st (s_not rfl (st (s_move rfl ?_)))
  refine r_case 12 rfl (fun h1 => ?_) (fun h1 => ?_)
  · refine s_pass rfl rfl (s_pass rfl rfl (st (s_pick rfl rfl (st (s_move rfl (s_pass rfl rfl (s_pass rfl rfl (s_pass rfl rfl ?_))))))))
    refine s_pass rfl rfl (st (s_pick rfl rfl (r_end (n_then (w_condT rfl (w_seq (w_region ?_)))))))
    refine st (s_build (ps := []) (ccs := []) (cells := [.slice none 0 0]) rfl rfl (by kernel_rfl) (st0 (s_storeN row25 rfl rfl (hB2.g0 k3) rfl rfl rfl ?_)))
    intro w4 hB3 k4 hs3
    have hb4 := below_g hb3 k4 (by first | omega | (have h9 := (hb3).size; omega))
    refine st (s_assign rfl (r_end (n_then (w_retc2 rfl row25 rfl rfl hB3.range rfl ?_))))
    refine ⟨_, rfl, hb4, .slice none 0 0, ?_, ?_, ?_⟩
    · rw [of_no (by first | exact .inl (by simpa using h1) | exact .inr (by omega))]
    · rw [of_no (by first | exact .inl (by simpa using h1) | exact .inr (by omega))]; exact (Own.nil Kd.node 101 0 _ _).sl
    · rw [of_no (by first | exact .inl (by simpa using h1) | exact .inr (by omega))]; simp
  have hl_ok : looseB l = true := by simpa using h1
  refine stg (s_move rfl (stg (s_lt rfl rfl (st (s_pick rfl rfl (st (s_move rfl ?_)))))))
  refine r_caseP 16 rfl (fun h2 => ?_) (fun h2 => ?_)
  · refine s_pass rfl rfl (s_pass rfl rfl (s_pass rfl rfl (s_pass rfl rfl (st (s_pick rfl rfl (r_end (n_then ?_)))))))
    refine w_condT rfl (w_seq (w_region (st (s_build (ps := []) (ccs := []) (cells := [.slice none 0 0]) rfl rfl (by kernel_rfl) (st0 (s_storeN row25 rfl rfl (hB2.g0 k3) rfl rfl rfl ?_))))))
    intro w5 hB4 k5 hs4
    have hb5 := below_g hb3 k5 (by first | omega | (have h9 := (hb3).size; omega))
    refine st (s_assign rfl (r_end (n_then (w_retc2 rfl row25 rfl rfl hB4.range rfl ?_))))
    refine ⟨_, rfl, hb5, .slice none 0 0, ?_, ?_, ?_⟩
    · rw [of_no (by first | exact .inl (by simpa using h1) | exact .inr (by omega))]
    · rw [of_no (by first | exact .inl (by simpa using h1) | exact .inr (by omega))]; exact (Own.nil Kd.node 101 0 _ _).sl
    · rw [of_no (by first | exact .inl (by simpa using h1) | exact .inr (by omega))]; simp
  refine stg (s_move rfl (stg (s_load one22 rfl ((hB1.g0 k2).g0 k3).range (j := 0) rfl (stg (s_len sl22 rfl (hl.at0 hb3) (stg (s_gt rfl rfl (st (s_pick rfl rfl (r_end (n_then ?_)))))))))))
  refine w_condP rfl (fun h3 => ?_) (fun h3 => ?_)
  · refine w_seq (w_region (st (s_build (ps := []) (ccs := []) (cells := [.slice none 0 0]) rfl rfl (by kernel_rfl) (st0 (s_storeN row25 rfl rfl (hB2.g0 k3) rfl rfl rfl ?_)))))
    intro w6 hB5 k6 hs5
    have hb6 := below_g hb3 k6 (by first | omega | (have h9 := (hb3).size; omega))
    refine st (s_assign rfl (r_end (n_then (w_retc2 rfl row25 rfl rfl hB5.range rfl ?_))))
    refine ⟨_, rfl, hb6, .slice none 0 0, ?_, ?_, ?_⟩
    · rw [of_no (by first | exact .inl (by simpa using h1) | exact .inr (by omega))]
    · rw [of_no (by first | exact .inl (by simpa using h1) | exact .inr (by omega))]; exact (Own.nil Kd.node 101 0 _ _).sl
    · rw [of_no (by first | exact .inl (by simpa using h1) | exact .inr (by omega))]; simp
  refine w_skip' (n_then (w_seq (w_region (st (s_load one22 rfl ((hB1.g0 k2).g0 k3).range (j := 0) rfl (st (s_move rfl (st (s_call fn92 rfl (shrink_any (n0 := n) (hl.at0 hb3) hl_ok hll (by omega) (by omega)) ?_)))))))))
  rintro _ w7 ⟨hq2, L1, n1, v1, rfl, hS1, hLok1, hn1, hn2, hT1, hH1, hLl1⟩
  have k7 := grown_of_below hq2 none
  have hz4 := hq2.size
  have hO1 := Own.rebase hS1 hb3.size
  have hb7 := below_g0 hb3 k7
  have hz5 := hb7.size
  have hlen9 := emptL_length L1
  refine st (s_move rfl (st (s_extract rfl rfl (st (s_extract rfl rfl (st0 (s_store one22 rfl rfl (hO1.one) (((hB1.g0 k2).g0 k3).g0 k7) (of_decide_eq_true rfl) ?_)))))))
  intro w8 hB6 k8 hs6
  have hb8 := below_g hb7 k8 (by first | omega | (have h9 := (hb7).size; omega))
  have hO2 := Own.keptF node_flat hO1 k8 (hO1.ne_blk (((hB1.g0 k2).g0 k3).g0 k7) (by decide))
  refine st (s_assign rfl (r_end (n_then (w_seq (w_region (st (s_makemap Nd.val ekI ?_)))))))
  intro g3 w9 hg3 hM1 k9 hs7
  have hb9 := below_g0 hb8 k9
  refine st (s_build (ps := [(1, .tmp 29)]) (ccs := [#[.map (some g3)]]) (cells := [.slice none 0 0, .map (some g3)]) rfl rfl (by kernel_rfl) (st (s_box rfl ?_)))
  intro g4 w10 hg4 hB7 k10 hs8
  have hb10 := below_g0 hb9 k10
  have hM2 := hM1.g0 k10
  refine st (s_alloc zero123 ?_)
  intro g5 w11 hg5 hB8 k11 hs9
  have hz6 := hb10.size
  have hb11 := below_g0 hb10 k11
  have hM3 := hM2.g0 k11
  refine st0 (s_store one123 rfl rfl rfl hB8 (of_decide_eq_true rfl) ?_)
  intro w12 hB9 k12 hs10
  have hb12 := below_g hb11 k12 (by first | omega | (have h9 := (hb11).size; omega))
  have hM4 := hM3.kept k12 (by simpa using hM3.ne_blk hB8)
  clear hB8
  refine r_end (n_then (w_seq (w_region (st (s_makemap ekI ekI ?_)))))
  intro g6 w13 hg6 hM5 k13 hs11
  have hb13 := below_g0 hb12 k13
  have hM6 := hM4.g0 k13
  refine st0 (s_mapins (a := 0) (v := 0) map127 keyI rfl rfl rfl hM5 ?_)
  intro w14 hM7 k14 hs12
  have hb14 := below_g hb13 k14 (by first | omega | (have h9 := (hb13).size; omega))
  have hM8 := hM6.kept k14 (by simp; omega)
  refine st (s_move rfl (st (s_alloc zero127 ?_)))
  intro g7 w15 hg7 hB10 k15 hs13
  have hz7 := hb14.size
  have hb15 := below_g0 hb14 k15
  have hM9 := hM8.g0 k15
  have hM10 := hM7.g0 k15
  refine st0 (s_store one127 rfl rfl rfl hB10 (of_decide_eq_true rfl) ?_)
  intro w16 hB11 k16 hs14
  have hb16 := below_g hb15 k16 (by first | omega | (have h9 := (hb15).size; omega))
  have hM11 := hM9.kept k16 (by simpa using hM9.ne_blk hB10)
  have hM12 := hM10.kept k16 (by simpa using hM10.ne_blk hB10)
  clear hB10
  refine r_end (n_then (w_seq (w_region (st (s_alloc zero128 ?_)))))
  intro g8 w17 hg8 hB12 k17 hs15
  have hz8 := hb16.size
  have hM13 := hM11.g0 k17
  have hM14 := hM12.g0 k17
  refine r_end (n_then (w_seq (w_region (st (s_func rfl rfl (st0 (s_store one128 rfl rfl rfl hB12 (of_decide_eq_true rfl) ?_)))))))
  intro w18 hB13 k18 hs16
  have hM15 := hM13.kept k18 (by simpa using hM13.ne_blk hB12)
  have hM16 := hM14.kept k18 (by simpa using hM14.ne_blk hB12)
  clear hB12
  refine r_end (n_then (w_seq (w_region (st (s_load one128 rfl hB13.range (j := 0) rfl (st (s_move rfl ?_)))))))
  have hb19 := Below.refl w8.heap.size w8
  have hb20 := below_g0 hb19 k9
  have hb21 := below_g0 hb20 k10
  have hb22 := below_g0 hb21 k11
  have hb23 := below_g hb22 k12 (by omega)
  have hb24 := below_g0 hb23 k13
  have hb25 := below_g hb24 k14 (by omega)
  have hb26 := below_g0 hb25 k15
  have hb27 := below_g hb26 k16 (by omega)
  have hb28 := below_g0 hb27 k17
  have hb29 := below_g hb28 k18 (by omega)
  have hdst1 : Dist g7 g1 g8 g5 g4 g6 g3 := ⟨by omega, by omega, by omega, by omega, by omega⟩
  have hmd9 := hM16
  rw [show mput ([] : List (Int × Int)) 0 0 = [(0, 0)] from rfl] at hmd9
  refine st (s_callc fn93 rfl rfl (visit1_any (a0 := w8) hO2.sl hLok1 (by omega) ⟨by omega, by omega, by omega⟩ hdst1 (L1.length + 1) (n := n1) (by omega) (by omega) (by omega) hb29 ((hB11.g0 k17).gne k18 (by omega)) ((((((((((hB6.g0 k9).g0 k10).g0 k11).gne k12 (by omega)).g0 k13).gne k14 (hM5.ne_blk (((((hB6.g0 k9).g0 k10).g0 k11).gne k12 (by omega)).g0 k13)).symm).g0 k15).gne k16 (by omega)).g0 k17).gne k18 (by omega)) hB13 ((((((hB9.g0 k13).gne k14 (hM5.ne_blk (hB9.g0 k13)).symm).g0 k15).gne k16 (by omega)).g0 k17).gne k18 (by omega)) ((((((((hB7.g0 k11).gne k12 (by omega)).g0 k13).gne k14 (hM5.ne_blk (((hB7.g0 k11).gne k12 (by omega)).g0 k13)).symm).g0 k15).gne k16 (by omega)).g0 k17).gne k18 (by omega)) hmd9 hM15 (Own.nil _ _ _ _ _) (dok_start _) minv_nil can_nil) ?_)
  rintro _ w19 ⟨rfl, vo1, D1, M1, hb30, hB14, hM17, hM18, hO13, hp1, hp2, hp3, hp4, hp5⟩
  have hb31 := hb8.trans (hb30.mono hb8.size)
  have hz9 := hb31.size
  have hB15 := Blk.frm ((((((hB9.g0 k13).gne k14 (hM5.ne_blk (hB9.g0 k13)).symm).g0 k15).gne k16 (by omega)).g0 k17).gne k18 (by omega)) hp5 hdst1.x6 (by simp [Value.ownBlock])
  have hB16 : Blk w19 g2 25 _ := (hb30.block _ (((hB2.g0 k3).g0 k7).gne k8 (by omega)).lt).trans (((hB2.g0 k3).g0 k7).gne k8 (by omega))
  refine r_end (n_then (w_seq (w_region (st (s_load one123 rfl hB15.range (j := 0) rfl (st (s_nilp rfl (st (s_faddr fld126_0 rfl ?_)))))))))
  refine st (s_load one22 rfl hB14.range (j := 0) rfl (st (s_build (ps := [(0, .tmp 41)]) (ccs := [#[vo1]]) (cells := [vo1]) rfl (by simp only [List.map_cons, List.map_nil, hO13.cells1] <;> rfl) (by kernel_rfl) (st0 (s_storeN row25 rfl rfl hB16 (by simp only [List.all_cons, List.all_nil, hO13.one, Bool.and_true, Bool.and_self] <;> rfl) rfl rfl ?_)))))
  intro w20 hB17 k20 hs17
  have hb32 := below_g hb31 k20 (by first | omega | (have h9 := (hb31).size; omega))
  have hO14 := Own.keptF node_flat hO13 k20 (hO13.ne_blk hB16 (by decide))
  clear hB16
  refine st (s_assign rfl (r_end (n_then (w_retc2 rfl row25 rfl rfl hB17.range rfl ?_))))
  refine ⟨_, rfl, hb32, vo1, ?_, ?_, ?_⟩
  · rw [of_yes hl_ok (by omega) (by omega)]
  · rw [of_yes hl_ok (by omega) (by omega), canT, ← hT1]; exact hO14.sl
  · rw [of_yes hl_ok (by omega) (by omega), canT, ← hT1]; have q1_ := hp1.cnt; have q2_ := hp1.len; simp only; omega

set_option maxHeartbeats 1000000 in
theorem growO_any {va : Value} {l : List Nd} {F : Nat → Prop} {w : World} (hl : Sl Kd.node w F va l) {level : Int} (hll : l.length ≤ 100000) (hlv : 0 ≤ (lastN' l).lv ∧ (lastN' l).lv ≤ 1329) (hle : level ≤ 1329) :
    Calls Try.prog 59 [.agg [va].toArray, .int .i64 level].toArray w (Pure w fun v w' => ∃ sv, v = .tuple #[sv, .int .i64 ((grownQ l level).length : Int)] ∧ Gw.Own Kd.node 101 w.heap.size w' (fun _ => False) sv (grownQ l level)) := by
  have hb0 := Below.refl w.heap.size w
  have hln0 := hl.lenle
  refine enter Try.func59 rfl rfl (w_seq (w_region (st (s_box rfl ?_))))
  intro g1 w1 hg1 hB1 k1 hs1
  change Blk w1 g1 25 [va].toArray at hB1
  have hb1 := below_g0 hb0 k1
  refine st (s_assign rfl (st (s_assign rfl (r_end (n_then (w_seq (w_region (st (s_faddr fld25_0 rfl ?_)))))))))
  refine st (s_load one22 rfl hB1.range (j := 0) rfl (st (s_call fn90 rfl (clone_any (hl.at0 hb1) (by omega)) ?_)))
  rintro v1 w2 ⟨hq1, hS1⟩
  have k2 := grown_of_below hq1 none
  have hO1 := Own.rebase hS1 hb1.size
  have hb2 := below_g0 hb1 k2
  have hz1 := hb2.size
  refine st (s_assign rfl (r_end (n_then (w_seq (w_region (st (s_move rfl (st (s_len sl22 rfl hO1.sl ?_)))))))))
  refine st (s_assign rfl (r_end (n_then (w_seq (w_seq (w_region (st (s_move rfl ?_))))))))
  refine st (s_eq rfl rfl (st (s_move rfl ?_)))
  refine r_caseP 20 rfl (fun h1 => ?_) (fun h1 => ?_)
  · refine s_pass rfl rfl (s_pass rfl rfl (st (s_pick rfl rfl (r_end (n_then (w_condT rfl (w_seq ?_)))))))
    refine w_region (st (s_move rfl (st (s_move rfl (st (s_assign rfl (st (s_assign rfl (r_end (n_then ?_))))))))))
    refine w_ret2 rfl rfl rfl ?_
    have hnil : l = [] := List.eq_nil_of_length_eq_zero (by omega)
    subst hnil
    exact ⟨_, rfl, hb2, _, rfl, hO1⟩
  refine stg (s_move rfl (stg (s_gt rfl rfl (st (s_pick rfl rfl (r_end (n_then ?_)))))))
  refine w_condP rfl (fun h2 => ?_) (fun h2 => ?_)
  · refine w_seq (w_region (st (s_move rfl (st (s_move rfl (st (s_assign rfl (st (s_assign rfl (r_end ?_))))))))))
    refine n_then (w_ret2 rfl rfl rfl ?_)
    exfalso
    omega
  have hl13 := h2
  refine w_skip' (n_then (w_seq (w_seq (w_region (st (s_move rfl (st (s_move rfl ?_))))))))
  refine st (s_sub rfl rfl (by omega) (st (s_idx sl22 rfl rfl hO1.sl (by omega) (by omega) ?_)))
  rintro b1 o1 _ ⟨rfl, _⟩ hc1 hF1 hlt1
  refine st (s_loadW row101 rfl hc1 rfl (st (s_alloc zero101 ?_)))
  intro g2 w3 hg2 hB2 k3 hs2
  have hz2 := hb2.size
  have hn1 := own_new hO1 hg2
  have hb3 := below_g0 hb2 k3
  have hO2 := hO1.g0 k3
  refine st0 (s_storeN row101 rfl rfl hB2 rfl rfl rfl ?_)
  intro w4 hB3 k4 hs3
  have hb4 := below_g hb3 k4 (by first | omega | (have h9 := (hb3).size; omega))
  have hO3 := Own.keptN node_flat hO2 k4 hn1
  clear hB2
  refine r_end (n_then (w_block ?_))
  refine w_loop (α := List Nd × Value × Nat) (fun ((o, vk, go) : List Nd × Value × Nat) => [(1, .int .i64 level), (4, .slice none 0 0), (5, .int .i64 0), (6, vk), (7, .int .i64 (o.length : Int)), (8, .pointer (some ⟨go, 0, none⟩))]) (fun ((o, vk, go) : List Nd × Value × Nat) W => Below w.heap.size w W ∧ (1 ≤ o.length ∧ (o.length : Int) ≤ l.length + 5 * (lastN' o).lv ∧ 0 ≤ (lastN' o).lv ∧ (lastN' o).lv ≤ 1329) ∧ (growF (level - (lastN' o).lv).toNat o = growF (level - (lastN' l).lv).toNat l) ∧ (Blk W go 101 [.int .i64 ((lastN' o).lv), .int .i64 ((lastN' o).k0), .int .i64 ((lastN' o).k1), .int .i64 ((lastN' o).k2), .int .i64 ((lastN' o).k3)].toArray) ∧ (Gw.Own Kd.node 101 w.heap.size W (fun _ => False) vk (o)) ∧ (vk.ownBlock ≠ some go)) (fun ((o, vk, go) : List Nd × Value × Nat) => (level - (lastN' o).lv).toNat) ((l), (v1), (g2)) ⟨hb4, by omega, rfl, hB3, hO3, hn1⟩ (by exact ⟨rfl, rfl, rfl, rfl, rfl, rfl, trivial⟩) ?_
  rintro ⟨o, vk, go⟩ w5 ⟨hb5, hoo, hgf, hBo, hOo, hno⟩
  dsimp only at *
  have hz3 := hb5.size
  have hgol := hBo.lt
  refine w_seq (w_seq (w_region (st (s_faddr fld101_0 rfl (st (s_load one3 rfl hBo.range (j := 0) rfl (st (s_move rfl (st (s_lt rfl rfl ?_))))))))))
  refine r_end (n_then ?_)
  refine w_condP rfl (fun h3 => ?_) (fun h3 => ?_)
  rotate_left
  · refine w_exit' (n_then_exit (n_then_exit (n_block_exit (n_then (w_seq (w_region ?_))))))
    refine st (s_move rfl (st (s_move rfl (st (s_assign rfl (st (s_assign rfl (r_end (n_then (w_ret2 rfl rfl rfl ?_))))))))))
    rw [grow_end h3] at hgf
    subst hgf
    have hgq : grownQ l level = growF (level - (lastN' l).lv).toNat l := if_neg (by rintro rfl; simp at *)
    rw [hgq]
    exact ⟨_, rfl, hb5, _, rfl, hOo⟩
  have hlt := h3
  refine w_skip' (n_then (w_seq (w_block (w_seq (w_region (st (s_faddr fld101_0 rfl ?_)))))))
  refine st (s_load one3 rfl hBo.range (j := 0) rfl (st (s_add rfl rfl (by omega) (st (s_build (ps := [(0, .tmp 42)]) (ccs := [#[.int .i64 ((lastN' o).lv + 1)]]) (cells := [.int .i64 ((lastN' o).lv + 1), .int .i64 0, .int .i64 0, .int .i64 0, .int .i64 0]) rfl rfl (by kernel_rfl) (st (s_alloc zero101 ?_)))))))
  intro g3 w6 hg3 hB4 k5 hs4
  have hz4 := hb5.size
  have hn2 := own_new hOo hg3
  have hb6 := below_g0 hb5 k5
  have hO4 := hOo.g0 k5
  refine st0 (s_storeN row101 rfl rfl hB4 rfl rfl rfl ?_)
  intro w7 hB5 k6 hs5
  have hb7 := below_g hb6 k6 (by first | omega | (have h9 := (hb6).size; omega))
  have hO5 := Own.keptN node_flat hO4 k6 hn2
  clear hB4
  refine r_end (n_then (w_seq (w_seq (w_region (st (s_faddr fld101_1 rfl (st (s_loadN (us := [.int .i64 ((lastN' o).k0), .int .i64 ((lastN' o).k1), .int .i64 ((lastN' o).k2), .int .i64 ((lastN' o).k3)]) row99 rfl ((hBo.g0 k5).gne k6 (by omega)).range (j := 1) rfl rfl ?_))))))))
  refine st (s_move rfl (r_end (n_then (w_block ?_))))
  refine w_loop (α := Int × List Nd × Value × Int × Int × Int × Int) (fun ((k, ok, vj, a, b, c, e) : Int × List Nd × Value × Int × Int × Int × Int) => [(1, .int .i64 level), (4, .slice none 0 0), (5, .int .i64 0), (6, vj), (7, .int .i64 (o.length : Int)), (8, .pointer (some ⟨go, 0, none⟩)), (9, .pointer (some ⟨g3, 0, none⟩)), (45, .agg [.int .i64 ((lastN' o).k0), .int .i64 ((lastN' o).k1), .int .i64 ((lastN' o).k2), .int .i64 ((lastN' o).k3)].toArray), (46, .int .i64 k)]) (fun ((k, ok, vj, a, b, c, e) : Int × List Nd × Value × Int × Int × Int × Int) W => Below w.heap.size w W ∧ (0 ≤ k ∧ k ≤ 4) ∧ ((ok, a, b, c, e) = grS (lastN' o) o k.toNat) ∧ ((ok.length : Int) ≤ o.length + k) ∧ (Blk W g3 101 [.int .i64 ((lastN' o).lv + 1), .int .i64 a, .int .i64 b, .int .i64 c, .int .i64 e].toArray) ∧ (Blk W go 101 [.int .i64 ((lastN' o).lv), .int .i64 ((lastN' o).k0), .int .i64 ((lastN' o).k1), .int .i64 ((lastN' o).k2), .int .i64 ((lastN' o).k3)].toArray) ∧ (Gw.Own Kd.node 101 w.heap.size W (fun _ => False) vj (ok)) ∧ (vj.ownBlock ≠ some g3) ∧ (vj.ownBlock ≠ some go)) (fun ((k, ok, vj, a, b, c, e) : Int × List Nd × Value × Int × Int × Int × Int) => (4 - k).toNat) ((0), (o), (vk), (0), (0), (0), (0)) ⟨hb7, by omega, rfl, by omega, hB5, ((hBo.g0 k5).gne k6 (by omega)), hO5, hn2, hno⟩ (by exact ⟨rfl, rfl, rfl, rfl, rfl, rfl, rfl, rfl, rfl, trivial⟩) ?_
  rintro ⟨k, ok, vj, a, b, c, e⟩ w8 ⟨hb8, hk, hgs, hokl, hBx, hBo2, hOj, hnx, hno2⟩
  dsimp only at *
  have hz5 := hb8.size
  have hgol2 := hBo2.lt
  have hgxl2 := hBx.lt
  refine w_seq (w_region (st (s_lt rfl rfl (r_end (n_then (w_seq ?_))))))
  refine w_condP rfl (fun h4 => ?_) (fun h4 => ?_)
  rotate_left
  · refine w_exit' (n_then_exit (n_then_exit (n_block_exit (n_then (w_seq (w_region ?_))))))
    refine st (s_move rfl (st (s_loadW row101 rfl hBx.range rfl (st (s_bslice (ps := [(0, .tmp 71)]) (ccs := [#[.int .i64 ((lastN' o).lv + 1), .int .i64 a, .int .i64 b, .int .i64 c, .int .i64 e]]) (e := 101) (cells := [.int .i64 ((lastN' o).lv + 1), .int .i64 a, .int .i64 b, .int .i64 c, .int .i64 e]) rfl rfl (by kernel_rfl) (by decide) nz101 ?_)))))
    intro g6 w15 hg6 hB11 k13 hs11
    have hb15 := below_g0 hb8 k13
    have hz9 := hb15.size
    have hO12 := hOj.g0 k13
    have hS3 := lit_nodes (F := fun _ => False) ([⟨((lastN' o).lv + 1), a, b, c, e⟩] : List Nd) hB11 (fun h => h) rfl (by first | decide | simp)
    refine st (s_append (K := Kd.node) sl22 rfl rfl hO12 (lit_nodes (F := Out (fun _ => False) vj) ([⟨((lastN' o).lv + 1), a, b, c, e⟩] : List Nd) hB11 (fun h => h.elim id (fun h => by have h9 := (hOj.lt _ h).2; omega)) rfl (by first | decide | simp)) node_ones (by simp; omega) (by simp; omega) (by first | exact Nat.le_refl _ | omega) (fun _ h => h.elim) ?_)
    intro v3 w16 hO13 k14 hr3
    have hn7 := own_app hnx hr3 (by have := (hBx.g0 k13).lt; omega)
    have hn8 := own_app hno2 hr3 (by have := (hBo2.g0 k13).lt; omega)
    have hb16 := hb15.grown k14 hb15.size (fun k_ hk_ => (hO12.lt k_ hk_).1)
    have hz10 := hb16.size
    refine st (s_assign rfl (r_end (n_then (w_region (st (s_move rfl (st (s_len sl22 rfl hO13.sl (st (s_assign rfl ?_))))))))))
    refine r_end (n_block (n_then (w_seq (w_seq (w_region (st (s_loadW row101 rfl ((hBo2.g0 k13).grown k14 (fun e => hno2 e.symm)).range rfl ?_)))))))
    refine r_end (n_then (w_region (st (s_alloc zero101 ?_))))
    intro g7 w17 hg7 hB12 k15 hs12
    have hz11 := hb16.size
    have hn9 := own_new hO13 hg7
    have hb17 := below_g0 hb16 k15
    have hO14 := hO13.g0 k15
    refine st0 (s_storeN row101 rfl rfl hB12 rfl rfl rfl ?_)
    intro w18 hB13 k16 hs13
    have hb18 := below_g hb17 k16 (by first | omega | (have h9 := (hb17).size; omega))
    have hO15 := Own.keptN node_flat hO14 k16 hn9
    clear hB12
    refine r_end (n_then (w_region ?_))
    have hlx9 : ((ok ++ ([⟨((lastN' o).lv + 1), a, b, c, e⟩] : List Nd)).length : Int) = ok.length + 1 := by simp
    refine st (s_move rfl (st (s_move rfl (st (s_sub rfl rfl (by omega) (st (s_idx sl22 rfl rfl hO15.sl (by omega) (by omega) ?_)))))))
    rintro b2 o2 _ ⟨rfl, _⟩ hc2 hF2 hlt2
    refine st (s_loadW row101 rfl hc2 rfl (st0 (s_storeN row101 rfl rfl hB13 rfl rfl rfl ?_)))
    intro w19 hB14 k17 hs14
    have hb19 := below_g hb18 k17 (by first | omega | (have h9 := (hb18).size; omega))
    have hO16 := Own.keptN node_flat hO15 k17 hn9
    clear hB13
    refine r_end ?_
    have hgs4 : (ok, a, b, c, e) = grS (lastN' o) o 4 := by rw [(by omega : k = 4)] at hgs; exact hgs
    have hgr := grow_round (level := level) hgs4 hlt
    have hll9 : ((ok ++ ([⟨((lastN' o).lv + 1), a, b, c, e⟩] : List Nd)).length : Int) = ok.length + 1 := by simp
    have hla9 := grow_last (o := ok) (x := ⟨(lastN' o).lv + 1, a, b, c, e⟩)
    exact n_round ((ok ++ ([⟨((lastN' o).lv + 1), a, b, c, e⟩] : List Nd)), (v3), (g7)) ⟨hb19, by dsimp only; rw [hla9]; simp only; omega, by dsimp only; rw [hgr]; exact hgf, by dsimp only; have hq9 := hB14; rw [show ix (ok ++ ([⟨((lastN' o).lv + 1), a, b, c, e⟩] : List Nd)) (((ok ++ ([⟨((lastN' o).lv + 1), a, b, c, e⟩] : List Nd)).length : Int) - 1) = _ from hla9] at hq9; rw [hla9]; exact hq9, hO16, hn9⟩ (by dsimp only; rw [hla9]; simp only; omega) (by exact ⟨rfl, rfl, rfl, rfl, rfl, rfl, trivial⟩)
  refine w_skip' (n_then (w_seq (w_block (w_seq (w_region (st (s_move rfl ?_)))))))
  refine st (s_iarr4 arr99 one3 rfl rfl (by omega) (by omega) (st (s_assign rfl (st (s_assign rfl (r_end (n_then (w_seq (w_seq ?_)))))))))
  refine w_region (st (s_move rfl (st (s_eq rfl rfl (r_end (n_then ?_))))))
  refine w_condP rfl (fun h5 => ?_) (fun h5 => ?_)
  · refine w_exit' (n_then_exit (n_block_exit (n_then (w_region (st (s_add rfl rfl (by omega) (st (s_move rfl ?_))))))))
    refine r_end ?_
    exact n_round (((k + 1)), (ok), (vj), (a), (b), (c), (e)) ⟨hb8, by dsimp only; first | omega | (simp; omega), grS_step hk.1 hgs (by unfold Nd.kid; exact h5), by dsimp only; first | omega | (simp; omega), hBx, hBo2, hOj, hnx, hno2⟩ (by omega) (by exact ⟨rfl, rfl, rfl, rfl, rfl, rfl, rfl, rfl, rfl, trivial⟩)
  refine w_skip' (n_then (w_seq (w_region (st (s_faddr fld101_0 rfl (st (s_load one3 rfl hBo2.range (j := 0) rfl (st (s_build (ps := [(0, .tmp 53)]) (ccs := [#[.int .i64 ((lastN' o).lv)]]) (cells := [.int .i64 ((lastN' o).lv), .int .i64 0, .int .i64 0, .int .i64 0, .int .i64 0]) rfl rfl (by kernel_rfl) ?_)))))))))
  refine st (s_alloc zero101 ?_)
  intro g4 w9 hg4 hB6 k7 hs6
  have hz6 := hb8.size
  have hn3 := own_new hOj hg4
  have hb9 := below_g0 hb8 k7
  have hO6 := hOj.g0 k7
  refine st0 (s_storeN row101 rfl rfl hB6 rfl rfl rfl ?_)
  intro w10 hB7 k8 hs7
  have hb10 := below_g hb9 k8 (by first | omega | (have h9 := (hb9).size; omega))
  have hO7 := Own.keptN node_flat hO6 k8 hn3
  clear hB6
  refine r_end (n_then (w_seq (w_region (st (s_move rfl (st (s_sub rfl rfl (by omega) (st (s_move rfl ?_)))))))))
  refine st (s_faddr fld101_1 rfl (st (s_iaddr arr99 rfl rfl (by omega) (by omega) (st0 (s_storeK one3 rfl rfl hB7 (by omega) (by omega) ?_)))))
  intro w11 hB8 k9 hs8
  have hb11 := below_g hb10 k9 (by first | omega | (have h9 := (hb10).size; omega))
  have hO8 := Own.keptN node_flat hO7 k9 hn3
  clear hB7
  refine r_end (n_then (w_seq (w_region (st (s_move rfl (st (s_loadW row101 rfl hB8.range rfl ?_)))))))
  refine st (s_bslice (ps := [(0, .tmp 61)]) (ccs := [#[.int .i64 ((lastN' o).lv), .int .i64 (if (3 - k) = 0 then (sel4 ((lastN' o).k0) ((lastN' o).k1) ((lastN' o).k2) ((lastN' o).k3) k) else 0), .int .i64 (if (3 - k) = 1 then (sel4 ((lastN' o).k0) ((lastN' o).k1) ((lastN' o).k2) ((lastN' o).k3) k) else 0), .int .i64 (if (3 - k) = 2 then (sel4 ((lastN' o).k0) ((lastN' o).k1) ((lastN' o).k2) ((lastN' o).k3) k) else 0), .int .i64 (if (3 - k) = 3 then (sel4 ((lastN' o).k0) ((lastN' o).k1) ((lastN' o).k2) ((lastN' o).k3) k) else 0)]]) (e := 101) (cells := [.int .i64 ((lastN' o).lv), .int .i64 (if (3 - k) = 0 then (sel4 ((lastN' o).k0) ((lastN' o).k1) ((lastN' o).k2) ((lastN' o).k3) k) else 0), .int .i64 (if (3 - k) = 1 then (sel4 ((lastN' o).k0) ((lastN' o).k1) ((lastN' o).k2) ((lastN' o).k3) k) else 0), .int .i64 (if (3 - k) = 2 then (sel4 ((lastN' o).k0) ((lastN' o).k1) ((lastN' o).k2) ((lastN' o).k3) k) else 0), .int .i64 (if (3 - k) = 3 then (sel4 ((lastN' o).k0) ((lastN' o).k1) ((lastN' o).k2) ((lastN' o).k3) k) else 0)]) rfl rfl (by kernel_rfl) (by decide) nz101 ?_)
  intro g5 w12 hg5 hB9 k10 hs9
  have hb12 := below_g0 hb11 k10
  have hz7 := hb12.size
  have hO9 := hO8.g0 k10
  have hS2 := lit_nodes (F := fun _ => False) ([⟨(lastN' o).lv, (if (3 - k) = 0 then (sel4 ((lastN' o).k0) ((lastN' o).k1) ((lastN' o).k2) ((lastN' o).k3) k) else 0), (if (3 - k) = 1 then (sel4 ((lastN' o).k0) ((lastN' o).k1) ((lastN' o).k2) ((lastN' o).k3) k) else 0), (if (3 - k) = 2 then (sel4 ((lastN' o).k0) ((lastN' o).k1) ((lastN' o).k2) ((lastN' o).k3) k) else 0), (if (3 - k) = 3 then (sel4 ((lastN' o).k0) ((lastN' o).k1) ((lastN' o).k2) ((lastN' o).k3) k) else 0)⟩] : List Nd) hB9 (fun h => h) rfl (by first | decide | simp)
  refine st (s_append (K := Kd.node) sl22 rfl rfl hO9 (lit_nodes (F := Out (fun _ => False) vj) ([⟨(lastN' o).lv, (if (3 - k) = 0 then (sel4 ((lastN' o).k0) ((lastN' o).k1) ((lastN' o).k2) ((lastN' o).k3) k) else 0), (if (3 - k) = 1 then (sel4 ((lastN' o).k0) ((lastN' o).k1) ((lastN' o).k2) ((lastN' o).k3) k) else 0), (if (3 - k) = 2 then (sel4 ((lastN' o).k0) ((lastN' o).k1) ((lastN' o).k2) ((lastN' o).k3) k) else 0), (if (3 - k) = 3 then (sel4 ((lastN' o).k0) ((lastN' o).k1) ((lastN' o).k2) ((lastN' o).k3) k) else 0)⟩] : List Nd) hB9 (fun h => h.elim id (fun h => by have h9 := (hO8.lt _ h).2; omega)) rfl (by first | decide | simp)) node_ones (by simp; omega) (by simp; omega) (by first | exact Nat.le_refl _ | omega) (fun _ h => h.elim) ?_)
  intro v2 w13 hO10 k11 hr2
  have hn4 := own_app hnx hr2 (by have := ((((hBx.g0 k7).gne k8 (by omega)).gne k9 (by omega)).g0 k10).lt; omega)
  have hn5 := own_app hno2 hr2 (by have := ((((hBo2.g0 k7).gne k8 (by omega)).gne k9 (by omega)).g0 k10).lt; omega)
  have hn6 := own_app hn3 hr2 (by have := (hB8.g0 k10).lt; omega)
  have hb13 := hb12.grown k11 hb12.size (fun k_ hk_ => (hO9.lt k_ hk_).1)
  have hz8 := hb13.size
  refine st (s_assign rfl (r_end (n_then (w_region (st (s_move rfl (st (s_move rfl (st (s_len sl22 rfl hO10.sl ?_))))))))))
  refine st (s_faddr fld101_1 rfl (st (s_iaddr arr99 rfl rfl (by omega) (by omega) (st0 (s_storeK one3 rfl rfl (((((hBx.g0 k7).gne k8 (by omega)).gne k9 (by omega)).g0 k10).grown k11 (fun e => hnx e.symm)) (by omega) (by omega) ?_)))))
  intro w14 hB10 k12 hs10
  have hb14 := below_g hb13 k12 (by first | omega | (have h9 := (hb13).size; omega))
  have hO11 := Own.keptN node_flat hO10 k12 hn4
  refine r_end (n_block (n_then (w_region (st (s_add rfl rfl (by omega) (st (s_move rfl (r_end ?_))))))))
  exact n_round (((k + 1)), (ok ++ ([⟨(lastN' o).lv, (if (3 - k) = 0 then (sel4 ((lastN' o).k0) ((lastN' o).k1) ((lastN' o).k2) ((lastN' o).k3) k) else 0), (if (3 - k) = 1 then (sel4 ((lastN' o).k0) ((lastN' o).k1) ((lastN' o).k2) ((lastN' o).k3) k) else 0), (if (3 - k) = 2 then (sel4 ((lastN' o).k0) ((lastN' o).k1) ((lastN' o).k2) ((lastN' o).k3) k) else 0), (if (3 - k) = 3 then (sel4 ((lastN' o).k0) ((lastN' o).k1) ((lastN' o).k2) ((lastN' o).k3) k) else 0)⟩] : List Nd)), (v2), ((if k = 0 then ((ok ++ ([⟨(lastN' o).lv, (if (3 - k) = 0 then (sel4 ((lastN' o).k0) ((lastN' o).k1) ((lastN' o).k2) ((lastN' o).k3) k) else 0), (if (3 - k) = 1 then (sel4 ((lastN' o).k0) ((lastN' o).k1) ((lastN' o).k2) ((lastN' o).k3) k) else 0), (if (3 - k) = 2 then (sel4 ((lastN' o).k0) ((lastN' o).k1) ((lastN' o).k2) ((lastN' o).k3) k) else 0), (if (3 - k) = 3 then (sel4 ((lastN' o).k0) ((lastN' o).k1) ((lastN' o).k2) ((lastN' o).k3) k) else 0)⟩] : List Nd)).length : Int) else a)), ((if k = 1 then ((ok ++ ([⟨(lastN' o).lv, (if (3 - k) = 0 then (sel4 ((lastN' o).k0) ((lastN' o).k1) ((lastN' o).k2) ((lastN' o).k3) k) else 0), (if (3 - k) = 1 then (sel4 ((lastN' o).k0) ((lastN' o).k1) ((lastN' o).k2) ((lastN' o).k3) k) else 0), (if (3 - k) = 2 then (sel4 ((lastN' o).k0) ((lastN' o).k1) ((lastN' o).k2) ((lastN' o).k3) k) else 0), (if (3 - k) = 3 then (sel4 ((lastN' o).k0) ((lastN' o).k1) ((lastN' o).k2) ((lastN' o).k3) k) else 0)⟩] : List Nd)).length : Int) else b)), ((if k = 2 then ((ok ++ ([⟨(lastN' o).lv, (if (3 - k) = 0 then (sel4 ((lastN' o).k0) ((lastN' o).k1) ((lastN' o).k2) ((lastN' o).k3) k) else 0), (if (3 - k) = 1 then (sel4 ((lastN' o).k0) ((lastN' o).k1) ((lastN' o).k2) ((lastN' o).k3) k) else 0), (if (3 - k) = 2 then (sel4 ((lastN' o).k0) ((lastN' o).k1) ((lastN' o).k2) ((lastN' o).k3) k) else 0), (if (3 - k) = 3 then (sel4 ((lastN' o).k0) ((lastN' o).k1) ((lastN' o).k2) ((lastN' o).k3) k) else 0)⟩] : List Nd)).length : Int) else c)), ((if k = 3 then ((ok ++ ([⟨(lastN' o).lv, (if (3 - k) = 0 then (sel4 ((lastN' o).k0) ((lastN' o).k1) ((lastN' o).k2) ((lastN' o).k3) k) else 0), (if (3 - k) = 1 then (sel4 ((lastN' o).k0) ((lastN' o).k1) ((lastN' o).k2) ((lastN' o).k3) k) else 0), (if (3 - k) = 2 then (sel4 ((lastN' o).k0) ((lastN' o).k1) ((lastN' o).k2) ((lastN' o).k3) k) else 0), (if (3 - k) = 3 then (sel4 ((lastN' o).k0) ((lastN' o).k1) ((lastN' o).k2) ((lastN' o).k3) k) else 0)⟩] : List Nd)).length : Int) else e))) ⟨hb14, by dsimp only; first | omega | (simp; omega), grS_put hk.1 hgs (by unfold Nd.kid; exact h5), by dsimp only; first | omega | (simp; omega), hB10, ((((((hBo2.g0 k7).gne k8 (by omega)).gne k9 (by omega)).g0 k10).grown k11 (fun e => hno2 e.symm)).gne k12 (by omega)), hO11, hn4, hn5⟩ (by omega) (by exact ⟨rfl, rfl, rfl, rfl, rfl, rfl, rfl, rfl, rfl, trivial⟩)
end Go.Proofs.Ytfljelnfjbbknaa.Nd

set_option maxRecDepth 20000
set_option linter.unusedSimpArgs false
set_option linter.unusedVariables false
namespace Go.Proofs.Ytfljelnfjbbknaa.Nd
open Go.RowKit Go.Gw
set_option maxHeartbeats 1000000 in
theorem rgrow_any {va : Value} {l : List Nd} {F : Nat → Prop} {w : World} (hl : Sl Kd.node w F va l) {level : Int} (hll : l.length ≤ 100000) (hlv : 0 ≤ (lastN' l).lv ∧ (lastN' l).lv ≤ 1329) (hle : level ≤ 1329) :
    Calls Try.prog 63 [.agg [va].toArray, .int .i64 level].toArray w (Pure w fun v w' => ∃ sv, v = .tuple #[sv, .int .i64 ((grownQ l level).length : Int)] ∧ Gw.Own Kd.node 101 w.heap.size w' (fun _ => False) sv (grownQ l level)) := by
  have hb0 := Below.refl w.heap.size w
  have hln0 := hl.lenle
  refine enter Try.func63 rfl rfl (w_seq (w_region (st (s_box rfl ?_))))
  intro g1 w1 hg1 hB1 k1 hs1
  change Blk w1 g1 25 [va].toArray at hB1
  have hb1 := below_g0 hb0 k1
  refine st (s_assign rfl (st (s_assign rfl (r_end (n_then (w_seq (w_region (st (s_bslice0 (K := Kd.node) (base := w.heap.size) (F := (fun _ => False)) sl22 (by omega) (fun _ h => h.elim) ?_)))))))))
  intro v1 w2 hO1 k2
  have hb2 := below_g0 hb1 k2
  have hz1 := hb2.size
  refine st (s_faddr fld25_0 rfl (st (s_load one22 rfl (hB1.g0 k2).range (j := 0) rfl (st (s_append (K := Kd.node) sl22 rfl rfl hO1 ((hl.at0 hb2).weak (fun k hk h => h.elim (fun h => by first | exact h.elim | exact h | exact Or.inl h) (fun h => by have h9 := (hO1.lt k h).1; first | exact Or.inr h9 | (simp [Loc]; omega)))) node_ones (by simp; omega) (by simp; omega) (by first | exact Nat.le_refl _ | omega) (fun _ h => h.elim) ?_)))))
  intro v2 w3 hO2 k3 hr1
  rw [List.nil_append] at hO2
  have hb3 := hb2.grown k3 hb2.size (fun k_ hk_ => (hO1.lt k_ hk_).1)
  have hz2 := hb3.size
  refine st (s_assign rfl (r_end (n_then (w_seq (w_region (st (s_move rfl (st (s_len sl22 rfl hO2.sl ?_)))))))))
  refine st (s_assign rfl (r_end (n_then (w_seq (w_seq (w_region (st (s_move rfl ?_))))))))
  refine st (s_gt rfl rfl (st (s_move rfl ?_)))
  refine r_caseP 20 rfl (fun h1 => ?_) (fun h1 => ?_)
  · refine s_pass rfl rfl (s_pass rfl rfl (st (s_pick rfl rfl (r_end (n_then (w_condT rfl (w_seq ?_)))))))
    refine w_region (st (s_move rfl (st (s_move rfl (st (s_assign rfl (st (s_assign rfl (r_end (n_then ?_))))))))))
    refine w_ret2 rfl rfl rfl ?_
    exfalso
    omega
  refine stg (s_move rfl (stg (s_eq rfl rfl (st (s_pick rfl rfl (r_end (n_then ?_)))))))
  refine w_condP rfl (fun h2 => ?_) (fun h2 => ?_)
  · refine w_seq (w_region (st (s_move rfl (st (s_move rfl (st (s_assign rfl (st (s_assign rfl (r_end ?_))))))))))
    refine n_then (w_ret2 rfl rfl rfl ?_)
    have hnil : l = [] := List.eq_nil_of_length_eq_zero (by omega)
    subst hnil
    exact ⟨_, rfl, hb3, _, rfl, hO2⟩
  refine w_skip' (n_then (w_seq (w_block (w_loop (α := List Nd × Value) (fun ((o, vk) : List Nd × Value) => [(1, .int .i64 level), (4, .slice none 0 0), (5, .int .i64 0), (6, vk), (7, .int .i64 (o.length : Int))]) (fun ((o, vk) : List Nd × Value) W => Below w.heap.size w W ∧ (1 ≤ o.length ∧ (o.length : Int) ≤ l.length + 5 * (lastN' o).lv ∧ 0 ≤ (lastN' o).lv ∧ (lastN' o).lv ≤ 1329) ∧ (growF (level - (lastN' o).lv).toNat o = growF (level - (lastN' l).lv).toNat l) ∧ (Gw.Own Kd.node 101 w.heap.size W (fun _ => False) vk (o))) (fun ((o, vk) : List Nd × Value) => (level - (lastN' o).lv).toNat) ((l), (v2)) ⟨hb3, by omega, rfl, hO2⟩ (by exact ⟨rfl, rfl, rfl, rfl, rfl, trivial⟩) ?_))))
  rintro ⟨o, vk⟩ w4 ⟨hb4, hoo, hgf, hOo⟩
  dsimp only at *
  have hz3 := hb4.size
  refine w_seq (w_seq (w_region (st (s_move rfl (st (s_move rfl (st (s_sub rfl rfl (by omega) (st (s_idx sl22 rfl rfl hOo.sl (by omega) (by omega) ?_))))))))))
  rintro b1 o1 _ ⟨rfl, _⟩ hc1 hF1 hlt1
  refine st (s_faddr fld101_0 rfl (st (s_load one3 rfl hc1 (j := 0) rfl (st (s_move rfl (st (s_lt rfl rfl (r_end (n_then ?_)))))))))
  refine w_condP rfl (fun h3 => ?_) (fun h3 => ?_)
  rotate_left
  · refine w_exit' (n_then_exit (n_then_exit (n_block_exit (n_then (w_seq (w_region ?_))))))
    refine st (s_move rfl (st (s_move rfl (st (s_assign rfl (st (s_assign rfl (r_end (n_then (w_ret2 rfl rfl rfl ?_))))))))))
    rw [grow_end (show ¬ (lastN' o).lv < level from h3)] at hgf
    subst hgf
    have hgq : grownQ l level = growF (level - (lastN' l).lv).toNat l := if_neg (by rintro rfl; simp at *)
    rw [hgq]
    exact ⟨_, rfl, hb4, _, rfl, hOo⟩
  have hlt : (lastN' o).lv < level := h3
  have hlvx : 0 ≤ (ix o ((o.length : Int) - 1)).lv ∧ (ix o ((o.length : Int) - 1)).lv ≤ 1329 := ⟨hoo.2.2.1, hoo.2.2.2⟩
  refine w_skip' (n_then (w_block (w_seq (w_region (st (s_move rfl (st (s_move rfl ?_))))))))
  refine st (s_sub rfl rfl (by omega) (st (s_idx sl22 rfl rfl hOo.sl (by omega) (by omega) ?_)))
  rintro b2 o2 _ ⟨rfl, _⟩ hc2 hF2 hlt2
  refine st (s_faddr fld101_0 rfl (st (s_load one3 rfl hc2 (j := 0) rfl (st (s_add rfl rfl (by omega) (st (s_build (ps := [(0, .tmp 40)]) (ccs := [#[.int .i64 ((ix o ((o.length : Int) - 1)).lv + 1)]]) (cells := [.int .i64 ((ix o ((o.length : Int) - 1)).lv + 1), .int .i64 0, .int .i64 0, .int .i64 0, .int .i64 0]) rfl rfl (by kernel_rfl) (st (s_alloc zero101 ?_)))))))))
  intro g2 w5 hg2 hB2 k4 hs2
  have hz4 := hb4.size
  have hn1 := own_new hOo hg2
  have hb5 := below_g0 hb4 k4
  have hO3 := hOo.g0 k4
  refine st0 (s_storeN row101 rfl rfl hB2 rfl rfl rfl ?_)
  intro w6 hB3 k5 hs3
  have hb6 := below_g hb5 k5 (by first | omega | (have h9 := (hb5).size; omega))
  have hO4 := Own.keptN node_flat hO3 k5 hn1
  clear hB2
  refine r_end (n_then (w_seq (w_seq (w_region (st (s_assign rfl (r_end ?_)))))))
  refine n_then (w_block ?_)
  refine w_loop (α := Int × List Nd × Value × Int × Int × Int × Int) (fun ((k, ok, vj, a, b, c, e) : Int × List Nd × Value × Int × Int × Int × Int) => [(1, .int .i64 level), (4, .slice none 0 0), (5, .int .i64 0), (6, vj), (7, .int .i64 (o.length : Int)), (8, .pointer (some ⟨g2, 0, none⟩)), (9, .int .i64 k)]) (fun ((k, ok, vj, a, b, c, e) : Int × List Nd × Value × Int × Int × Int × Int) W => Below w.heap.size w W ∧ (0 ≤ k ∧ k ≤ 4) ∧ ((ok, a, b, c, e) = grS (lastN' o) o k.toNat) ∧ ((ok.length : Int) ≤ o.length + k) ∧ (o.length ≤ ok.length) ∧ ((ix ok ((o.length : Int) - 1)) = lastN' o) ∧ (Blk W g2 101 [.int .i64 ((ix o ((o.length : Int) - 1)).lv + 1), .int .i64 a, .int .i64 b, .int .i64 c, .int .i64 e].toArray) ∧ (Gw.Own Kd.node 101 w.heap.size W (fun _ => False) vj (ok)) ∧ (vj.ownBlock ≠ some g2)) (fun ((k, ok, vj, a, b, c, e) : Int × List Nd × Value × Int × Int × Int × Int) => (4 - k).toNat) ((0), (o), (vk), (0), (0), (0), (0)) ⟨hb6, by omega, rfl, by omega, Nat.le_refl _, rfl, hB3, hO4, hn1⟩ (by exact ⟨rfl, rfl, rfl, rfl, rfl, rfl, rfl, trivial⟩) ?_
  rintro ⟨k, ok, vj, a, b, c, e⟩ w7 ⟨hb7, hk, hgs, hokl, hokm, hpx, hBx, hOj, hnx⟩
  dsimp only at *
  have hz5 := hb7.size
  have hgxl2 := hBx.lt
  refine w_seq (w_seq (w_region (st (s_move rfl (st (s_lt rfl rfl (r_end (n_then ?_))))))))
  refine w_condP rfl (fun h4 => ?_) (fun h4 => ?_)
  rotate_left
  · refine w_exit' (n_then_exit (n_then_exit (n_block_exit (n_then (w_seq (w_region ?_))))))
    refine st (s_move rfl (st (s_loadW row101 rfl hBx.range rfl (st (s_bslice (ps := [(0, .tmp 78)]) (ccs := [#[.int .i64 ((ix o ((o.length : Int) - 1)).lv + 1), .int .i64 a, .int .i64 b, .int .i64 c, .int .i64 e]]) (e := 101) (cells := [.int .i64 ((ix o ((o.length : Int) - 1)).lv + 1), .int .i64 a, .int .i64 b, .int .i64 c, .int .i64 e]) rfl rfl (by kernel_rfl) (by decide) nz101 ?_)))))
    intro g5 w14 hg5 hB9 k12 hs9
    have hb14 := below_g0 hb7 k12
    have hz9 := hb14.size
    have hO11 := hOj.g0 k12
    have hS2 := lit_nodes (F := fun _ => False) ([⟨((ix o ((o.length : Int) - 1)).lv + 1), a, b, c, e⟩] : List Nd) hB9 (fun h => h) rfl (by first | decide | simp)
    refine st (s_append (K := Kd.node) sl22 rfl rfl hO11 (lit_nodes (F := Out (fun _ => False) vj) ([⟨((ix o ((o.length : Int) - 1)).lv + 1), a, b, c, e⟩] : List Nd) hB9 (fun h => h.elim id (fun h => by have h9 := (hOj.lt _ h).2; omega)) rfl (by first | decide | simp)) node_ones (by simp; omega) (by simp; omega) (by first | exact Nat.le_refl _ | omega) (fun _ h => h.elim) ?_)
    intro v4 w15 hO12 k13 hr7
    have hn5 := own_app hnx hr7 (by have := (hBx.g0 k12).lt; omega)
    have hb15 := hb14.grown k13 hb14.size (fun k_ hk_ => (hO11.lt k_ hk_).1)
    have hz10 := hb15.size
    refine st (s_assign rfl (r_end (n_then (w_region (st (s_move rfl (st (s_len sl22 rfl hO12.sl (st (s_assign rfl ?_))))))))))
    refine r_end (n_block ?_)
    have hgs4 : (ok, a, b, c, e) = grS (lastN' o) o 4 := by rw [(by omega : k = 4)] at hgs; exact hgs
    have hgr := grow_round (level := level) hgs4 hlt
    have hll9 : ((ok ++ ([⟨((ix o ((o.length : Int) - 1)).lv + 1), a, b, c, e⟩] : List Nd)).length : Int) = ok.length + 1 := by simp
    have hla9 : lastN' (ok ++ ([⟨((ix o ((o.length : Int) - 1)).lv + 1), a, b, c, e⟩] : List Nd)) = ⟨(lastN' o).lv + 1, a, b, c, e⟩ := grow_last (o := ok) (x := ⟨(lastN' o).lv + 1, a, b, c, e⟩)
    exact n_round ((ok ++ ([⟨((ix o ((o.length : Int) - 1)).lv + 1), a, b, c, e⟩] : List Nd)), (v4)) ⟨hb15, by dsimp only; rw [hla9]; simp only; omega, by dsimp only; rw [← hgf, ← hgr]; rfl, hO12⟩ (by dsimp only; rw [hla9]; simp only; omega) (by exact ⟨rfl, rfl, rfl, rfl, rfl, trivial⟩)
  refine w_skip' (n_then (w_seq (w_block (w_seq (w_region (st (s_move rfl ?_)))))))
  refine st (s_move rfl (st (s_sub rfl rfl (by omega) (st (s_move rfl (st (s_idx sl22 rfl rfl hOj.sl (by omega) (by omega) ?_)))))))
  rintro b3 o3 _ ⟨rfl, _⟩ hc3 hF3 hlt3
  refine st (s_faddr fld101_1 rfl (st (s_iaddr arr99 rfl rfl (by omega) (by omega) (st (s_load4 one3 rfl hc3 (j := 1) rfl rfl (by omega) (by omega) (st (s_assign rfl (r_end (n_then (w_seq ?_))))))))))
  refine w_seq (w_region (st (s_move rfl (st (s_eq rfl rfl (r_end (n_then ?_)))))))
  refine w_condP rfl (fun h5 => ?_) (fun h5 => ?_)
  · refine w_exit' (n_then_exit (n_block_exit (n_then (w_region (st (s_move rfl (st (s_add rfl rfl (by omega) ?_))))))))
    refine st (s_assign rfl (r_end ?_))
    exact n_round (((k + 1)), (ok), (vj), (a), (b), (c), (e)) ⟨hb7, by dsimp only; first | omega | (simp; omega), rgs_step hpx hk.1 hgs h5, by dsimp only; first | omega | (simp; omega), by dsimp only; first | omega | (simp; omega), hpx, hBx, hOj, hnx⟩ (by omega) (by exact ⟨rfl, rfl, rfl, rfl, rfl, rfl, rfl, trivial⟩)
  refine w_skip' (n_then (w_seq (w_region (st (s_move rfl (st (s_move rfl (st (s_sub rfl rfl (by omega) ?_)))))))))
  refine st (s_idx sl22 rfl rfl hOj.sl (by omega) (by omega) ?_)
  rintro b4 o4 _ ⟨rfl, _⟩ hc4 hF4 hlt4
  refine st (s_faddr fld101_0 rfl (st (s_load one3 rfl hc4 (j := 0) rfl (st (s_build (ps := [(0, .tmp 61)]) (ccs := [#[.int .i64 ((ix ok ((o.length : Int) - 1)).lv)]]) (cells := [.int .i64 ((ix ok ((o.length : Int) - 1)).lv), .int .i64 0, .int .i64 0, .int .i64 0, .int .i64 0]) rfl rfl (by kernel_rfl) (st (s_alloc zero101 ?_)))))))
  intro g3 w8 hg3 hB4 k6 hs4
  have hz6 := hb7.size
  have hn2 := own_new hOj hg3
  have hb8 := below_g0 hb7 k6
  have hO5 := hOj.g0 k6
  refine st0 (s_storeN row101 rfl rfl hB4 rfl rfl rfl ?_)
  intro w9 hB5 k7 hs5
  have hb9 := below_g hb8 k7 (by first | omega | (have h9 := (hb8).size; omega))
  have hO6 := Own.keptN node_flat hO5 k7 hn2
  clear hB4
  refine r_end (n_then (w_seq (w_region (st (s_move rfl (st (s_sub rfl rfl (by omega) (st (s_move rfl ?_)))))))))
  refine st (s_faddr fld101_1 rfl (st (s_iaddr arr99 rfl rfl (by omega) (by omega) (st0 (s_storeK one3 rfl rfl hB5 (by omega) (by omega) ?_)))))
  intro w10 hB6 k8 hs6
  have hb10 := below_g hb9 k8 (by first | omega | (have h9 := (hb9).size; omega))
  have hO7 := Own.keptN node_flat hO6 k8 hn2
  clear hB5
  refine r_end (n_then (w_seq (w_region (st (s_move rfl (st (s_loadW row101 rfl hB6.range rfl ?_)))))))
  refine st (s_bslice (ps := [(0, .tmp 69)]) (ccs := [#[.int .i64 ((ix ok ((o.length : Int) - 1)).lv), .int .i64 (if (3 - k) = 0 then (sel4 ((ix ok ((o.length : Int) - 1)).k0) ((ix ok ((o.length : Int) - 1)).k1) ((ix ok ((o.length : Int) - 1)).k2) ((ix ok ((o.length : Int) - 1)).k3) k) else 0), .int .i64 (if (3 - k) = 1 then (sel4 ((ix ok ((o.length : Int) - 1)).k0) ((ix ok ((o.length : Int) - 1)).k1) ((ix ok ((o.length : Int) - 1)).k2) ((ix ok ((o.length : Int) - 1)).k3) k) else 0), .int .i64 (if (3 - k) = 2 then (sel4 ((ix ok ((o.length : Int) - 1)).k0) ((ix ok ((o.length : Int) - 1)).k1) ((ix ok ((o.length : Int) - 1)).k2) ((ix ok ((o.length : Int) - 1)).k3) k) else 0), .int .i64 (if (3 - k) = 3 then (sel4 ((ix ok ((o.length : Int) - 1)).k0) ((ix ok ((o.length : Int) - 1)).k1) ((ix ok ((o.length : Int) - 1)).k2) ((ix ok ((o.length : Int) - 1)).k3) k) else 0)]]) (e := 101) (cells := [.int .i64 ((ix ok ((o.length : Int) - 1)).lv), .int .i64 (if (3 - k) = 0 then (sel4 ((ix ok ((o.length : Int) - 1)).k0) ((ix ok ((o.length : Int) - 1)).k1) ((ix ok ((o.length : Int) - 1)).k2) ((ix ok ((o.length : Int) - 1)).k3) k) else 0), .int .i64 (if (3 - k) = 1 then (sel4 ((ix ok ((o.length : Int) - 1)).k0) ((ix ok ((o.length : Int) - 1)).k1) ((ix ok ((o.length : Int) - 1)).k2) ((ix ok ((o.length : Int) - 1)).k3) k) else 0), .int .i64 (if (3 - k) = 2 then (sel4 ((ix ok ((o.length : Int) - 1)).k0) ((ix ok ((o.length : Int) - 1)).k1) ((ix ok ((o.length : Int) - 1)).k2) ((ix ok ((o.length : Int) - 1)).k3) k) else 0), .int .i64 (if (3 - k) = 3 then (sel4 ((ix ok ((o.length : Int) - 1)).k0) ((ix ok ((o.length : Int) - 1)).k1) ((ix ok ((o.length : Int) - 1)).k2) ((ix ok ((o.length : Int) - 1)).k3) k) else 0)]) rfl rfl (by kernel_rfl) (by decide) nz101 ?_)
  intro g4 w11 hg4 hB7 k9 hs7
  have hb11 := below_g0 hb10 k9
  have hz7 := hb11.size
  have hO8 := hO7.g0 k9
  have hS1 := lit_nodes (F := fun _ => False) ([⟨(ix ok ((o.length : Int) - 1)).lv, (if (3 - k) = 0 then (sel4 ((ix ok ((o.length : Int) - 1)).k0) ((ix ok ((o.length : Int) - 1)).k1) ((ix ok ((o.length : Int) - 1)).k2) ((ix ok ((o.length : Int) - 1)).k3) k) else 0), (if (3 - k) = 1 then (sel4 ((ix ok ((o.length : Int) - 1)).k0) ((ix ok ((o.length : Int) - 1)).k1) ((ix ok ((o.length : Int) - 1)).k2) ((ix ok ((o.length : Int) - 1)).k3) k) else 0), (if (3 - k) = 2 then (sel4 ((ix ok ((o.length : Int) - 1)).k0) ((ix ok ((o.length : Int) - 1)).k1) ((ix ok ((o.length : Int) - 1)).k2) ((ix ok ((o.length : Int) - 1)).k3) k) else 0), (if (3 - k) = 3 then (sel4 ((ix ok ((o.length : Int) - 1)).k0) ((ix ok ((o.length : Int) - 1)).k1) ((ix ok ((o.length : Int) - 1)).k2) ((ix ok ((o.length : Int) - 1)).k3) k) else 0)⟩] : List Nd) hB7 (fun h => h) rfl (by first | decide | simp)
  refine st (s_append (K := Kd.node) sl22 rfl rfl hO8 (lit_nodes (F := Out (fun _ => False) vj) ([⟨(ix ok ((o.length : Int) - 1)).lv, (if (3 - k) = 0 then (sel4 ((ix ok ((o.length : Int) - 1)).k0) ((ix ok ((o.length : Int) - 1)).k1) ((ix ok ((o.length : Int) - 1)).k2) ((ix ok ((o.length : Int) - 1)).k3) k) else 0), (if (3 - k) = 1 then (sel4 ((ix ok ((o.length : Int) - 1)).k0) ((ix ok ((o.length : Int) - 1)).k1) ((ix ok ((o.length : Int) - 1)).k2) ((ix ok ((o.length : Int) - 1)).k3) k) else 0), (if (3 - k) = 2 then (sel4 ((ix ok ((o.length : Int) - 1)).k0) ((ix ok ((o.length : Int) - 1)).k1) ((ix ok ((o.length : Int) - 1)).k2) ((ix ok ((o.length : Int) - 1)).k3) k) else 0), (if (3 - k) = 3 then (sel4 ((ix ok ((o.length : Int) - 1)).k0) ((ix ok ((o.length : Int) - 1)).k1) ((ix ok ((o.length : Int) - 1)).k2) ((ix ok ((o.length : Int) - 1)).k3) k) else 0)⟩] : List Nd) hB7 (fun h => h.elim id (fun h => by have h9 := (hO7.lt _ h).2; omega)) rfl (by first | decide | simp)) node_ones (by simp; omega) (by simp; omega) (by first | exact Nat.le_refl _ | omega) (fun _ h => h.elim) ?_)
  intro v3 w12 hO9 k10 hr6
  have hn3 := own_app hnx hr6 (by have := ((((hBx.g0 k6).gne k7 (by omega)).gne k8 (by omega)).g0 k9).lt; omega)
  have hn4 := own_app hn2 hr6 (by have := (hB6.g0 k9).lt; omega)
  have hb12 := hb11.grown k10 hb11.size (fun k_ hk_ => (hO8.lt k_ hk_).1)
  have hz8 := hb12.size
  refine st (s_assign rfl (r_end (n_then (w_region (st (s_move rfl (st (s_move rfl (st (s_len sl22 rfl hO9.sl ?_))))))))))
  refine st (s_faddr fld101_1 rfl (st (s_iaddr arr99 rfl rfl (by omega) (by omega) (st0 (s_storeK one3 rfl rfl (((((hBx.g0 k6).gne k7 (by omega)).gne k8 (by omega)).g0 k9).grown k10 (fun e => hnx e.symm)) (by omega) (by omega) ?_)))))
  intro w13 hB8 k11 hs8
  have hb13 := below_g hb12 k11 (by first | omega | (have h9 := (hb12).size; omega))
  have hO10 := Own.keptN node_flat hO9 k11 hn3
  refine r_end (n_block (n_then (w_region (st (s_move rfl (st (s_add rfl rfl (by omega) (st (s_assign rfl ?_)))))))))
  refine r_end ?_
  exact n_round (((k + 1)), (ok ++ ([⟨(ix ok ((o.length : Int) - 1)).lv, (if (3 - k) = 0 then (sel4 ((ix ok ((o.length : Int) - 1)).k0) ((ix ok ((o.length : Int) - 1)).k1) ((ix ok ((o.length : Int) - 1)).k2) ((ix ok ((o.length : Int) - 1)).k3) k) else 0), (if (3 - k) = 1 then (sel4 ((ix ok ((o.length : Int) - 1)).k0) ((ix ok ((o.length : Int) - 1)).k1) ((ix ok ((o.length : Int) - 1)).k2) ((ix ok ((o.length : Int) - 1)).k3) k) else 0), (if (3 - k) = 2 then (sel4 ((ix ok ((o.length : Int) - 1)).k0) ((ix ok ((o.length : Int) - 1)).k1) ((ix ok ((o.length : Int) - 1)).k2) ((ix ok ((o.length : Int) - 1)).k3) k) else 0), (if (3 - k) = 3 then (sel4 ((ix ok ((o.length : Int) - 1)).k0) ((ix ok ((o.length : Int) - 1)).k1) ((ix ok ((o.length : Int) - 1)).k2) ((ix ok ((o.length : Int) - 1)).k3) k) else 0)⟩] : List Nd)), (v3), ((if k = 0 then ((ok ++ ([⟨(ix ok ((o.length : Int) - 1)).lv, (if (3 - k) = 0 then (sel4 ((ix ok ((o.length : Int) - 1)).k0) ((ix ok ((o.length : Int) - 1)).k1) ((ix ok ((o.length : Int) - 1)).k2) ((ix ok ((o.length : Int) - 1)).k3) k) else 0), (if (3 - k) = 1 then (sel4 ((ix ok ((o.length : Int) - 1)).k0) ((ix ok ((o.length : Int) - 1)).k1) ((ix ok ((o.length : Int) - 1)).k2) ((ix ok ((o.length : Int) - 1)).k3) k) else 0), (if (3 - k) = 2 then (sel4 ((ix ok ((o.length : Int) - 1)).k0) ((ix ok ((o.length : Int) - 1)).k1) ((ix ok ((o.length : Int) - 1)).k2) ((ix ok ((o.length : Int) - 1)).k3) k) else 0), (if (3 - k) = 3 then (sel4 ((ix ok ((o.length : Int) - 1)).k0) ((ix ok ((o.length : Int) - 1)).k1) ((ix ok ((o.length : Int) - 1)).k2) ((ix ok ((o.length : Int) - 1)).k3) k) else 0)⟩] : List Nd)).length : Int) else a)), ((if k = 1 then ((ok ++ ([⟨(ix ok ((o.length : Int) - 1)).lv, (if (3 - k) = 0 then (sel4 ((ix ok ((o.length : Int) - 1)).k0) ((ix ok ((o.length : Int) - 1)).k1) ((ix ok ((o.length : Int) - 1)).k2) ((ix ok ((o.length : Int) - 1)).k3) k) else 0), (if (3 - k) = 1 then (sel4 ((ix ok ((o.length : Int) - 1)).k0) ((ix ok ((o.length : Int) - 1)).k1) ((ix ok ((o.length : Int) - 1)).k2) ((ix ok ((o.length : Int) - 1)).k3) k) else 0), (if (3 - k) = 2 then (sel4 ((ix ok ((o.length : Int) - 1)).k0) ((ix ok ((o.length : Int) - 1)).k1) ((ix ok ((o.length : Int) - 1)).k2) ((ix ok ((o.length : Int) - 1)).k3) k) else 0), (if (3 - k) = 3 then (sel4 ((ix ok ((o.length : Int) - 1)).k0) ((ix ok ((o.length : Int) - 1)).k1) ((ix ok ((o.length : Int) - 1)).k2) ((ix ok ((o.length : Int) - 1)).k3) k) else 0)⟩] : List Nd)).length : Int) else b)), ((if k = 2 then ((ok ++ ([⟨(ix ok ((o.length : Int) - 1)).lv, (if (3 - k) = 0 then (sel4 ((ix ok ((o.length : Int) - 1)).k0) ((ix ok ((o.length : Int) - 1)).k1) ((ix ok ((o.length : Int) - 1)).k2) ((ix ok ((o.length : Int) - 1)).k3) k) else 0), (if (3 - k) = 1 then (sel4 ((ix ok ((o.length : Int) - 1)).k0) ((ix ok ((o.length : Int) - 1)).k1) ((ix ok ((o.length : Int) - 1)).k2) ((ix ok ((o.length : Int) - 1)).k3) k) else 0), (if (3 - k) = 2 then (sel4 ((ix ok ((o.length : Int) - 1)).k0) ((ix ok ((o.length : Int) - 1)).k1) ((ix ok ((o.length : Int) - 1)).k2) ((ix ok ((o.length : Int) - 1)).k3) k) else 0), (if (3 - k) = 3 then (sel4 ((ix ok ((o.length : Int) - 1)).k0) ((ix ok ((o.length : Int) - 1)).k1) ((ix ok ((o.length : Int) - 1)).k2) ((ix ok ((o.length : Int) - 1)).k3) k) else 0)⟩] : List Nd)).length : Int) else c)), ((if k = 3 then ((ok ++ ([⟨(ix ok ((o.length : Int) - 1)).lv, (if (3 - k) = 0 then (sel4 ((ix ok ((o.length : Int) - 1)).k0) ((ix ok ((o.length : Int) - 1)).k1) ((ix ok ((o.length : Int) - 1)).k2) ((ix ok ((o.length : Int) - 1)).k3) k) else 0), (if (3 - k) = 1 then (sel4 ((ix ok ((o.length : Int) - 1)).k0) ((ix ok ((o.length : Int) - 1)).k1) ((ix ok ((o.length : Int) - 1)).k2) ((ix ok ((o.length : Int) - 1)).k3) k) else 0), (if (3 - k) = 2 then (sel4 ((ix ok ((o.length : Int) - 1)).k0) ((ix ok ((o.length : Int) - 1)).k1) ((ix ok ((o.length : Int) - 1)).k2) ((ix ok ((o.length : Int) - 1)).k3) k) else 0), (if (3 - k) = 3 then (sel4 ((ix ok ((o.length : Int) - 1)).k0) ((ix ok ((o.length : Int) - 1)).k1) ((ix ok ((o.length : Int) - 1)).k2) ((ix ok ((o.length : Int) - 1)).k3) k) else 0)⟩] : List Nd)).length : Int) else e))) ⟨hb13, by dsimp only; first | omega | (simp; omega), rgs_put hpx hk.1 hgs h5, by dsimp only; first | omega | (simp; omega), by dsimp only; first | omega | (simp; omega), rgs_px hpx (by omega) (by omega), hB8, hO10, hn3⟩ (by omega) (by exact ⟨rfl, rfl, rfl, rfl, rfl, rfl, rfl, trivial⟩)
end Go.Proofs.Ytfljelnfjbbknaa.Nd

set_option maxRecDepth 20000
set_option linter.unusedSimpArgs false
set_option linter.unusedVariables false
namespace Go.Proofs.Ytfljelnfjbbknaa.Lm
open Go.RowKit Go.Gw
set_option maxHeartbeats 1000000 in
theorem set_any {w : World} {x y s : Int} {n0 : Nat} (hn0 : n0 ≤ w.heap.size) {va : Value} {l : List Nd} {F : Nat → Prop} (hl : Sl Kd.node w F va l) (hcan : Gw.Can l) (hll : l.length ≤ 90000) {px py : Value} (hpx : Sl Kd.u32 w (G 83 n0 w) px (ml x)) (hpy : Sl Kd.u32 w (G 83 n0 w) py (ml y)) (hbx : Bd 50 x) (hby : Bd 50 y) (hs : 0 ≤ s ∧ s ≤ 255)  :
    Calls Try.prog 28 [.agg [va].toArray, .agg [.bool (decide (x < 0)), px].toArray, .agg [.bool (decide (y < 0)), py].toArray, .int .u8 s].toArray w (Pure w fun r W => ∃ sv, r = .tuple #[.agg #[sv], .int .i64 (setQ l x y s).2] ∧ Sl Kd.node W (fun _ => False) sv (setQ l x y s).1) := by
  have hb0 := Below.refl w.heap.size w
  have hlr := level_rng hcan
  have hlast := last_rng hcan
  refine enter Try.func28 rfl rfl (w_seq (w_region (st (s_box rfl ?_))))
  intro g1 w1 hg1 hB1 k1 hs1
  change Blk w1 g1 25 [va].toArray at hB1
  have hb1 := below_g0 hb0 k1
  refine st (s_box rfl ?_)
  intro g2 w2 hg2 hB2 k2 hs2
  change Blk w2 g2 31 [.bool (decide (x < 0)), px].toArray at hB2
  have hb2 := below_g0 hb1 k2
  refine st (s_box rfl ?_)
  intro g3 w3 hg3 hB3 k3 hs3
  change Blk w3 g3 31 [.bool (decide (y < 0)), py].toArray at hB3
  have hb3 := below_g0 hb2 k3
  have hlt_1 := (((hB1.g0 k2).g0 k3)).lt
  have hlt_2 := ((hB2.g0 k3)).lt
  have hlt_3 := (hB3).lt
  refine st (s_alloc zero25 ?_)
  intro g4 w4 hg4 hB4 k4 hs4
  have hz1 := hb3.size
  have hb4 := below_g0 hb3 k4
  refine st (s_assign rfl (r_end (n_then (w_seq (w_seq (w_region (st (s_move rfl ?_))))))))
  refine st (s_loadW row25 rfl (((hB1.g0 k2).g0 k3).g0 k4).range rfl (st (s_loadW row31 rfl ((hB2.g0 k3).g0 k4).range rfl (st (s_loadW row31 rfl (hB3.g0 k4).range rfl (st (s_call fn30 rfl (get_any (x := x) (y := y) (n0 := n0) (below_n0 hn0 hb4) (hl.at0 hb4) hcan (by omega) ((((hpx.gg0 k1).gg0 k2).gg0 k3).gg0 k4) ((((hpy.gg0 k1).gg0 k2).gg0 k3).gg0 k4) (Bd.le hbx (show 50 ≤ 50 by decide)) (Bd.le hby (show 50 ≤ 50 by decide))) ?_)))))))
  rintro _ w5 ⟨hq1, rfl⟩
  have k5 := grown_of_below hq1 none
  have hz2 := hq1.size
  have hb5 := below_g0 hb4 k5
  have hz3 := hb5.size
  have hcr1 := celQ_rng hcan x y
  refine st (s_eq rfl rfl (r_end (n_then ?_)))
  refine w_condP rfl (fun h1 => ?_) (fun h1 => ?_)
  · have hsc := h1
    refine w_seq (w_region (st (s_loadW row25 rfl ((((hB1.g0 k2).g0 k3).g0 k4).g0 k5).range rfl (st0 (s_storeN row25 rfl rfl (hB4.g0 k5) (by simp only [List.all_cons, List.all_nil, hl.one, Bool.and_true, Bool.and_self] <;> rfl) rfl rfl ?_)))))
    intro w6 hB5 k6 hs5
    have hb6 := below_g hb5 k6 (by first | omega | (have h9 := (hb5).size; omega))
    refine st (s_assign rfl (r_end (n_then (w_retc2 rfl row25 rfl rfl hB5.range rfl ?_))))
    rw [set_same hcan hs hsc]
    exact ⟨_, rfl, hb6, _, rfl, ((hl.at0 hb6)).none⟩
  have hsc := h1
  refine w_skip' (n_then (w_seq (w_region (st (s_loadW row25 rfl ((((hB1.g0 k2).g0 k3).g0 k4).g0 k5).range rfl (st (s_call fn43 rfl (Nd.level_any (hl.at0 hb5)) ?_)))))))
  rintro _ w7 ⟨hq2, rfl⟩
  have k7 := grown_of_below hq2 none
  have hz4 := hq2.size
  have hb7 := below_g0 hb5 k7
  have hz5 := hb7.size
  refine st (s_max rfl rfl (st (s_assign rfl (r_end (n_then (w_seq (w_region (st (s_move rfl ?_)))))))))
  refine st (s_loadW row31 rfl ((((hB2.g0 k3).g0 k4).g0 k5).g0 k7).range rfl (st (s_loadW row31 rfl (((hB3.g0 k4).g0 k5).g0 k7).range rfl (st (s_call fn58 rfl (spot_any (x := x) (y := y) (n0 := n0) (below_n0 hn0 hb7) ((((((hpx.gg0 k1).gg0 k2).gg0 k3).gg0 k4).gg0 k5).gg0 k7) ((((((hpy.gg0 k1).gg0 k2).gg0 k3).gg0 k4).gg0 k5).gg0 k7) (Bd.le hbx (show 50 ≤ 50 by decide)) (Bd.le hby (show 50 ≤ 50 by decide)) (by omega)) ?_)))))
  rintro _ w8 ⟨hq3, v1, v2, rfl, hS1, hS2⟩
  have k8 := grown_of_below hq3 none
  have hz6 := hq3.size
  have hb8 := below_g0 hb7 k8
  have hz7 := hb8.size
  refine st (s_move rfl (st (s_extract rfl rfl (st (s_extract rfl rfl ?_)))))
  have hlt_4 := (((((((hB1.g0 k2).g0 k3).g0 k4).g0 k5).g0 k7).g0 k8)).lt
  have hlt_5 := ((((((hB2.g0 k3).g0 k4).g0 k5).g0 k7).g0 k8)).lt
  have hlt_6 := (((((hB3.g0 k4).g0 k5).g0 k7).g0 k8)).lt
  have hlt_7 := ((((hB4.g0 k5).g0 k7).g0 k8)).lt
  refine st (s_alloc zero89 ?_)
  intro g5 w9 hg5 hB6 k9 hs6
  have hz8 := hb8.size
  have hb9 := below_g0 hb8 k9
  refine st0 (s_storeN row89 rfl rfl hB6 (by simp only [List.all_cons, List.all_nil, hS1.one, hS2.one, Bool.and_true, Bool.and_self] <;> rfl) rfl rfl ?_)
  intro w10 hB7 k10 hs7
  have hb10 := below_g hb9 k10 (by first | omega | (have h9 := (hb9).size; omega))
  refine st (s_assign rfl (r_end (n_then (w_seq (w_block ?_)))))
  refine w_loop (α := Int × Value × Value) (fun ((u, pa, pb) : Int × Value × Value) => [(3, .int .u8 s), (4, .pointer (some ⟨g1, 0, none⟩)), (5, .pointer (some ⟨g2, 0, none⟩)), (6, .pointer (some ⟨g3, 0, none⟩)), (8, .pointer (some ⟨g4, 0, none⟩)), (9, .int .i64 0), (10, .int .i64 u), (11, .pointer (some ⟨g5, 0, none⟩)), (12, .bool (inC ⟨x, y, 0⟩ u))]) (fun ((u, pa, pb) : Int × Value × Value) W => Below w.heap.size w W ∧ (max (levelN l) 1 ≤ u ∧ u ≤ 1329) ∧ (∀ j : Int, max (levelN l) 1 ≤ j → j < u → inC ⟨x, y, 0⟩ j = false) ∧ (Blk W g1 25 [va].toArray) ∧ (Blk W g2 31 [.bool (decide (x < 0)), px].toArray) ∧ (Blk W g3 31 [.bool (decide (y < 0)), py].toArray) ∧ (Blk W g4 25 [.slice none 0 0].toArray) ∧ (Blk W g5 89 [pa, pb].toArray) ∧ (Sl Kd.u32 W (G 83 n0 W) px (ml x)) ∧ (Sl Kd.u32 W (G 83 n0 W) py (ml y)) ∧ (Sl Kd.u32 W (G 83 n0 W) pa (ml (x + hf u))) ∧ (Sl Kd.u32 W (G 83 n0 W) pb (ml (y + hf u)))) (fun ((u, pa, pb) : Int × Value × Value) => (1329 - u).toNat) (((max (levelN l) 1)), (v1), (v2)) ⟨hb10, by omega, fun j _ _ => by omega, ((((((((hB1.g0 k2).g0 k3).g0 k4).g0 k5).g0 k7).g0 k8).g0 k9).gne k10 (by omega)), (((((((hB2.g0 k3).g0 k4).g0 k5).g0 k7).g0 k8).g0 k9).gne k10 (by omega)), ((((((hB3.g0 k4).g0 k5).g0 k7).g0 k8).g0 k9).gne k10 (by omega)), (((((hB4.g0 k5).g0 k7).g0 k8).g0 k9).gne k10 (by omega)), hB7, (((((((((hpx.gg0 k1).gg0 k2).gg0 k3).gg0 k4).gg0 k5).gg0 k7).gg0 k8).gg0 k9).ggB k10 hB6 (by decide) (by omega)), (((((((((hpy.gg0 k1).gg0 k2).gg0 k3).gg0 k4).gg0 k5).gg0 k7).gg0 k8).gg0 k9).ggB k10 hB6 (by decide) (by omega)), ((hS1.gg0 k9).ggB k10 hB6 (by decide) (by omega)), ((hS2.gg0 k9).ggB k10 hB6 (by decide) (by omega))⟩ (by exact ⟨rfl, rfl, rfl, rfl, rfl, rfl, rfl, rfl, rfl, trivial⟩) ?_
  rintro ⟨u, pa, pb⟩ w11 ⟨hb11, hu, hno, hbl0, hbl1, hbl2, hbl3, hbl4, hsl1_1, hsl2_1, hsl4_0, hsl4_1⟩
  dsimp only at *
  have hz9 := hb11.size
  have hbl0l := hbl0.lt
  have hbl1l := hbl1.lt
  have hbl2l := hbl2.lt
  have hbl3l := hbl3.lt
  have hbl4l := hbl4.lt
  refine w_seq (w_seq (w_region (st (s_move rfl (st (s_not rfl (st (s_move rfl ?_))))))))
  refine r_case 36 rfl (fun h2 => ?_) (fun h2 => ?_)
  · have hin : inC ⟨x, y, 0⟩ u = false := by simpa using h2
    refine stg (s_move rfl (stg (s_lt rfl rfl (st (s_pick rfl rfl (r_end (n_then ?_)))))))
    refine w_condP rfl (fun h3 => ?_) (fun h3 => ?_)
    rotate_left
    · refine w_exit' (n_then_exit (n_then_exit (n_block_exit (n_then (w_seq (w_seq ?_))))))
      refine w_region (st (s_move rfl (st (s_not rfl (r_end (n_then ?_))))))
      refine w_cond rfl (fun h4 => ?_) (fun h4 => absurd (h2.symm.trans h4) (by decide))
      have hin : inC ⟨x, y, 0⟩ u = false := by simpa using h4
      refine w_seq (w_region (st (s_build (ps := []) (ccs := []) (cells := [.slice none 0 0]) rfl rfl (by kernel_rfl) (st0 (s_storeN row25 rfl rfl hbl3 rfl rfl rfl ?_)))))
      intro w14 hB9 k13 hs9
      have hb14 := below_g hb11 k13 (by first | omega | (have h9 := (hb11).size; omega))
      refine st (s_assign rfl (r_end (n_then (w_retc2 rfl row25 rfl rfl hB9.range rfl ?_))))
      have hu9 : u = 1329 := by omega
      subst hu9
      rw [set_out hcan (lvUp_out hcan hno hin) hsc]
      exact ⟨_, rfl, hb14, _, rfl, Sl.nil0⟩
    refine w_skip' (n_then (w_block (w_seq (w_region (st (s_move rfl (st (s_add rfl rfl (by omega) ?_))))))))
    refine st (s_assign rfl (r_end (n_then (w_region (st (s_move rfl (st (s_loadW row31 rfl hbl1.range rfl (st (s_loadW row31 rfl hbl2.range rfl ?_))))))))))
    refine st (s_call fn58 rfl (spot_any (x := x) (y := y) (n0 := n0) (below_n0 hn0 hb11) hsl1_1 hsl2_1 (Bd.le hbx (show 50 ≤ 50 by decide)) (Bd.le hby (show 50 ≤ 50 by decide)) (by omega)) ?_)
    rintro _ w12 ⟨hq4, v3, v4, rfl, hS3, hS4⟩
    have k11 := grown_of_below hq4 none
    have hz10 := hq4.size
    have hb12 := below_g0 hb11 k11
    have hz11 := hb12.size
    refine st (s_move rfl (st (s_extract rfl rfl (st (s_extract rfl rfl (st0 (s_storeN row89 rfl rfl (hbl4.g0 k11) (by simp only [List.all_cons, List.all_nil, hS3.one, hS4.one, Bool.and_true, Bool.and_self] <;> rfl) rfl rfl ?_)))))))
    intro w13 hB8 k12 hs8
    have hb13 := below_g hb12 k12 (by first | omega | (have h9 := (hb12).size; omega))
    refine st (s_assign rfl (r_end (n_block ?_)))
    exact n_round (((u + 1)), (v3), (v4)) ⟨hb13, by omega, fun j j0 j1 => if e : j = u then by rw [e]; exact hin else hno j j0 (by omega), ((hbl0.g0 k11).gne k12 (by omega)), ((hbl1.g0 k11).gne k12 (by omega)), ((hbl2.g0 k11).gne k12 (by omega)), ((hbl3.g0 k11).gne k12 (by omega)), hB8, ((hsl1_1.gg0 k11).ggB k12 (hbl4.g0 k11) (by decide) (by omega)), ((hsl2_1.gg0 k11).ggB k12 (hbl4.g0 k11) (by decide) (by omega)), (hS3.ggB k12 (hbl4.g0 k11) (by decide) (by omega)), (hS4.ggB k12 (hbl4.g0 k11) (by decide) (by omega))⟩ (by omega) (by exact ⟨rfl, rfl, rfl, rfl, rfl, rfl, rfl, rfl, rfl, trivial⟩)
  have hin : inC ⟨x, y, 0⟩ u = true := by simpa using h2
  refine s_pass rfl rfl (s_pass rfl rfl (st (s_pick rfl rfl (r_end (n_then (w_condF rfl (w_exit' ?_)))))))
  refine n_then_exit (n_then_exit (n_block_exit (n_then (w_seq (w_seq (w_region ?_))))))
  refine st (s_move rfl (st (s_not rfl (r_end (n_then (w_cond rfl (fun h5 => absurd (h2.symm.trans h5) (by decide)) (fun h5 => ?_)))))))
  have hin : inC ⟨x, y, 0⟩ u = true := by simpa using h5
  refine w_skip' (n_then (w_seq (w_region (st (s_loadW row25 rfl hbl0.range rfl (st (s_move rfl (st (s_call fn59 rfl (Nd.growO_any (level := u) (hl.at0 hb11) (by omega) hlast (by omega)) ?_)))))))))
  rintro _ w15 ⟨hq5, v5, rfl, hO1⟩
  have k14 := grown_of_below hq5 none
  have hz12 := hq5.size
  have hb15 := below_g0 hb11 k14
  have hz13 := hb15.size
  have hO2 := hO1.rebase (b' := w.heap.size) hb11.size
  obtain ⟨hgo, hgn, _, hgl⟩ := grown_sem hcan (v := u) (by omega) (by omega) (by omega)
  refine st (s_move rfl (st (s_extract rfl rfl (st (s_extract rfl rfl (st (s_assign rfl (st (s_assign rfl (r_end (n_then ?_)))))))))))
  refine w_seq (w_region (st (s_move rfl (st (s_loadW row89 rfl (hbl4.g0 k14).range rfl (st (s_move rfl (st (s_build (ps := [(0, .tmp 58), (1, .tmp 59), (2, .tmp 60)]) (ccs := [#[v5], #[pa, pb], #[.int .u8 s]]) (cells := [v5, pa, pb, .int .u8 s]) rfl (by simp only [List.map_cons, List.map_nil]; change [(v5 : Value).cells, (Value.agg #[pa, pb]).cells, (.int .u8 s : Value).cells] = _; simp only [hO2.cells1] <;> rfl) (by kernel_rfl) (st (s_box rfl ?_)))))))))))
  intro g6 w16 hg6 hB10 k15 hs10
  change Blk w16 g6 95 [v5, pa, pb, .int .u8 s].toArray at hB10
  have hb16 := below_g0 hb15 k15
  have hO3 := hO2.g0 k15
  refine st (s_assign rfl (r_end (n_then (w_seq (w_region (st (s_move rfl (st (s_move rfl ?_)))))))))
  refine st (s_move rfl (st (s_call fn60 rfl (paint_any (a0 := w) (n0 := n0) (by omega) (gp := g6) (by omega) (A := (x + hf u)) (B := (y + hf u)) (s := s) (spot_pos hin).1 (spot_pos hin).2 hs u.toNat (n := ((grownQ l u).length : Int)) (lv := u) (by omega) (by omega) hgo hgn (by omega) hb16 hO3 hB10 ((hsl4_0.gg0 k14).gg0 k15) ((hsl4_1.gg0 k14).gg0 k15)) ?_)))
  rintro _ w17 ⟨rfl, vo1, hb17, hO4, hB11, hS5, hS6, hF1⟩
  have hB12 := Blk.frm ((hbl3.g0 k14).g0 k15) hF1 (blk_ne_blk ((hbl3.g0 k14).g0 k15) hB10 (by decide)) (hO3.neB ((hbl3.g0 k14).g0 k15) (by decide))
  have hz14 := hb17.size
  have hpl_ := put_len u.toNat (grownQ l u) ((grownQ l u).length : Int) ((x + hf u) % (2 * hf u)) ((y + hf u) % (2 * hf u)) s
  refine st (s_assign rfl (r_end (n_then (w_seq (w_region (st (s_move rfl (st (s_nilp rfl ?_)))))))))
  refine st (s_faddr fld95_0 rfl (st (s_load one22 rfl hB11.range (j := 0) rfl (st (s_move rfl (st (s_call fn61 rfl (Nd.of_any (n := (putF u.toNat (grownQ l u) ((grownQ l u).length : Int) ((x + hf u) % (2 * hf u)) ((y + hf u) % (2 * hf u)) s).2) hO4.sl (by omega)) ?_)))))))
  rintro _ w18 ⟨hq6, sv1, rfl, hS7, _⟩
  have k17 := grown_of_below hq6 none
  have hz15 := hq6.size
  have hb18 := below_g0 hb17 k17
  have hz16 := hb18.size
  refine st (s_extract rfl rfl (st (s_extract rfl rfl (st0 (s_storeN row25 rfl rfl (hB12.g0 k17) (by simp only [List.all_cons, List.all_nil, hS7.one, Bool.and_true, Bool.and_self] <;> rfl) rfl rfl ?_)))))
  intro w19 hB13 k18 hs11
  have hb19 := below_g hb18 k18 (by first | omega | (have h9 := (hb18).size; omega))
  refine st (s_assign rfl (r_end (n_then (w_retc2 rfl row25 rfl rfl hB13.range rfl ?_))))
  rw [set_up (lvUp_eq hcan hu.1 hu.2 hno hin) hu.2 hin]
  exact ⟨_, rfl, hb19, _, rfl, (Sl.gSmall node_flat hS7 k18 (hB12.g0 k17) (by decide))⟩
end Go.Proofs.Ytfljelnfjbbknaa.Lm

set_option maxRecDepth 20000
set_option linter.unusedSimpArgs false
set_option linter.unusedVariables false
namespace Go.Proofs.Ytfljelnfjbbknaa.Lm
open Go.RowKit Go.Gw
set_option maxHeartbeats 1000000 in
theorem rset_any {w : World} {x y s : Int} {n0 : Nat} (hn0 : n0 ≤ w.heap.size) {va : Value} {l : List Nd} {F : Nat → Prop} (hl : Sl Kd.node w F va l) (hcan : Gw.Can l) (hll : l.length ≤ 90000) {px py : Value} (hpx : Sl Kd.u32 w (G 83 n0 w) px (ml x)) (hpy : Sl Kd.u32 w (G 83 n0 w) py (ml y)) (hbx : Bd 50 x) (hby : Bd 50 y) (hs : 0 ≤ s ∧ s ≤ 255)  :
    Calls Try.prog 29 [.agg [va].toArray, .agg [.bool (decide (x < 0)), px].toArray, .agg [.bool (decide (y < 0)), py].toArray, .int .u8 s].toArray w (Pure w fun r W => ∃ sv, r = .tuple #[.agg #[sv], .int .i64 (setQ l x y s).2] ∧ Sl Kd.node W (fun _ => False) sv (setQ l x y s).1) := by
  have hb0 := Below.refl w.heap.size w
  have hlr := level_rng hcan
  have hlast := last_rng hcan
  refine enter Try.func29 rfl rfl (w_seq (w_region (st (s_box rfl ?_))))
  intro g1 w1 hg1 hB1 k1 hs1
  change Blk w1 g1 25 [va].toArray at hB1
  have hb1 := below_g0 hb0 k1
  refine st (s_box rfl ?_)
  intro g2 w2 hg2 hB2 k2 hs2
  change Blk w2 g2 31 [.bool (decide (x < 0)), px].toArray at hB2
  have hb2 := below_g0 hb1 k2
  refine st (s_box rfl ?_)
  intro g3 w3 hg3 hB3 k3 hs3
  change Blk w3 g3 31 [.bool (decide (y < 0)), py].toArray at hB3
  have hb3 := below_g0 hb2 k3
  have hlt_1 := (((hB1.g0 k2).g0 k3)).lt
  have hlt_2 := ((hB2.g0 k3)).lt
  have hlt_3 := (hB3).lt
  refine st (s_alloc zero25 ?_)
  intro g4 w4 hg4 hB4 k4 hs4
  have hz1 := hb3.size
  have hb4 := below_g0 hb3 k4
  refine st (s_assign rfl (r_end (n_then (w_seq (w_region (st (s_loadW row25 rfl (((hB1.g0 k2).g0 k3).g0 k4).range rfl (st (s_call fn46 rfl (rlevel_any (hl.at0 hb4)) ?_)))))))))
  rintro _ w5 ⟨hq1, rfl⟩
  have k5 := grown_of_below hq1 none
  have hz2 := hq1.size
  have hb5 := below_g0 hb4 k5
  have hz3 := hb5.size
  refine st (s_max rfl rfl (st (s_assign rfl (r_end (n_then (w_seq (w_block ?_)))))))
  refine w_loop (α := Int) (fun (u : Int) => [(3, .int .u8 s), (4, .pointer (some ⟨g1, 0, none⟩)), (5, .pointer (some ⟨g2, 0, none⟩)), (6, .pointer (some ⟨g3, 0, none⟩)), (8, .pointer (some ⟨g4, 0, none⟩)), (9, .int .i64 0), (10, .int .i64 u)]) (fun (u : Int) W => Below w.heap.size w W ∧ (max (levelN l) 1 ≤ u ∧ u ≤ 1330) ∧ (∀ j : Int, max (levelN l) 1 ≤ j → j < u → inC ⟨x, y, 0⟩ j = false) ∧ (Blk W g1 25 [va].toArray) ∧ (Blk W g2 31 [.bool (decide (x < 0)), px].toArray) ∧ (Blk W g3 31 [.bool (decide (y < 0)), py].toArray) ∧ (Blk W g4 25 [.slice none 0 0].toArray) ∧ (Sl Kd.u32 W (G 83 n0 W) px (ml x)) ∧ (Sl Kd.u32 W (G 83 n0 W) py (ml y))) (fun (u : Int) => (1330 - u).toNat) ((max (levelN l) 1)) ⟨hb5, by omega, fun j _ _ => by omega, ((((hB1.g0 k2).g0 k3).g0 k4).g0 k5), (((hB2.g0 k3).g0 k4).g0 k5), ((hB3.g0 k4).g0 k5), (hB4.g0 k5), (((((hpx.gg0 k1).gg0 k2).gg0 k3).gg0 k4).gg0 k5), (((((hpy.gg0 k1).gg0 k2).gg0 k3).gg0 k4).gg0 k5)⟩ (by exact ⟨rfl, rfl, rfl, rfl, rfl, rfl, rfl, trivial⟩) ?_
  rintro u w6 ⟨hb6, hu, hno, hbl0, hbl1, hbl2, hbl3, hsl1_1, hsl2_1⟩
  have hz4 := hb6.size
  have hbl0l := hbl0.lt
  have hbl1l := hbl1.lt
  have hbl2l := hbl2.lt
  have hbl3l := hbl3.lt
  refine w_seq (w_seq (w_region (st (s_move rfl (st (s_le rfl rfl (st (s_move rfl ?_))))))))
  refine r_caseP 19 rfl (fun h1 => ?_) (fun h1 => ?_)
  rotate_left
  · have hu13 := h1
    refine s_pass rfl rfl (s_pass rfl rfl (s_pass rfl rfl (s_pass rfl rfl (s_passU rfl rfl (s_passU rfl rfl (s_passU rfl rfl ?_))))))
    refine s_pass rfl rfl (s_pass rfl rfl (st (s_pick rfl rfl (r_end (n_then (w_condF rfl (w_exit' ?_)))))))
    refine n_then_exit (n_then_exit (n_block_exit (n_then (w_seq (w_seq (w_region ?_))))))
    refine st (s_move rfl (st (s_gt rfl rfl (st (s_move rfl ?_)))))
    refine r_caseP 34 rfl (fun h6 => ?_) (fun h6 => absurd (show 1329 < u by omega) h6)
    refine stg (s_move rfl (stg (s_eq rfl rfl (st (s_pick rfl rfl (r_end (n_then ?_)))))))
    refine w_condP rfl (fun h7 => ?_) (fun h7 => ?_)
    · refine w_seq (w_region (st (s_loadW row25 rfl hbl0.range rfl (st0 (s_storeN row25 rfl rfl hbl3 (by simp only [List.all_cons, List.all_nil, hl.one, Bool.and_true, Bool.and_self] <;> rfl) rfl rfl ?_)))))
      intro w33 hB9 k31 hs9
      have hb31 := below_g hb6 k31 (by first | omega | (have h9 := (hb6).size; omega))
      refine st (s_assign rfl (r_end (n_then (w_retc2 rfl row25 rfl rfl hB9.range rfl ?_))))
      rw [set_far0 (far_of hcan (by omega) hno) h7]
      exact ⟨_, rfl, hb31, _, rfl, ((hl.at0 hb31)).none⟩
    refine w_skip' (n_then (w_seq (w_seq (w_region (st (s_move rfl (st (s_gt rfl rfl ?_))))))))
    refine r_end (n_then ?_)
    refine w_condP rfl (fun h8 => ?_) (fun h8 => absurd (show 1329 < u by omega) h8)
    refine w_seq (w_region (st (s_build (ps := []) (ccs := []) (cells := [.slice none 0 0]) rfl rfl (by kernel_rfl) (st0 (s_storeN row25 rfl rfl hbl3 rfl rfl rfl ?_)))))
    intro w34 hB10 k32 hs10
    have hb32 := below_g hb6 k32 (by first | omega | (have h9 := (hb6).size; omega))
    refine st (s_assign rfl (r_end (n_then (w_retc2 rfl row25 rfl rfl hB10.range rfl ?_))))
    rw [set_far (far_of hcan (by omega) hno) h7]
    exact ⟨_, rfl, hb32, _, rfl, Sl.nil0⟩
  have hu13 := h1
  refine stg (s_loadW row31 rfl hbl1.range rfl (stg (s_move rfl (stg (s_call fn62 rfl (rin_any (x := x) (n0 := n0) (below_n0 hn0 hb6) hsl1_1 (Bd.le hbx (show 50 ≤ 50 by decide)) (by omega)) ?_)))))
  rintro _ w7 ⟨hq2, rfl⟩
  have k6 := grown_of_below hq2 none
  have hz5 := hq2.size
  have hb7 := below_g0 hb6 k6
  have hz6 := hb7.size
  refine stg (s_move rfl ?_)
  refine r_case 23 rfl (fun h2 => ?_) (fun h2 => ?_)
  rotate_left
  · have hix : inR x u = false := h2
    refine s_pass rfl rfl (s_pass rfl rfl (s_pass rfl rfl (stg (s_pick rfl rfl (stg (s_not rfl (st (s_pick rfl rfl (r_end ?_)))))))))
    refine n_then (w_condT rfl (w_skip' (n_then (w_block (w_region (st (s_move rfl ?_)))))))
    refine st (s_add rfl rfl (by omega) (st (s_assign rfl (r_end (n_block ?_)))))
    exact n_round ((u + 1)) ⟨hb7, by omega, fun j j0 j1 => if e : j = u then by rw [e]; exact inR_out (.inl hix) else hno j j0 (by omega), (hbl0.g0 k6), (hbl1.g0 k6), (hbl2.g0 k6), (hbl3.g0 k6), (hsl1_1.gg0 k6), (hsl2_1.gg0 k6)⟩ (by omega) (by exact ⟨rfl, rfl, rfl, rfl, rfl, rfl, rfl, trivial⟩)
  have hix : inR x u = true := h2
  refine stg (s_loadW row31 rfl (hbl2.g0 k6).range rfl (stg (s_move rfl (stg (s_call fn62 rfl (rin_any (x := y) (n0 := n0) (below_n0 hn0 hb7) (hsl2_1.gg0 k6) (Bd.le hby (show 50 ≤ 50 by decide)) (by omega)) ?_)))))
  rintro _ w8 ⟨hq3, rfl⟩
  have k7 := grown_of_below hq3 none
  have hz7 := hq3.size
  have hb8 := below_g0 hb7 k7
  have hz8 := hb8.size
  refine stg (s_pick rfl rfl (stg (s_not rfl (st (s_pick rfl rfl (r_end (n_then ?_)))))))
  refine w_cond rfl (fun h3 => ?_) (fun h3 => ?_)
  · have hiy : inR y u = false := by simpa using h3
    refine w_skip' (n_then (w_block (w_region (st (s_move rfl (st (s_add rfl rfl (by omega) (st (s_assign rfl ?_)))))))))
    refine r_end (n_block ?_)
    exact n_round ((u + 1)) ⟨hb8, by omega, fun j j0 j1 => if e : j = u then by rw [e]; exact inR_out (.inr hiy) else hno j j0 (by omega), ((hbl0.g0 k6).g0 k7), ((hbl1.g0 k6).g0 k7), ((hbl2.g0 k6).g0 k7), ((hbl3.g0 k6).g0 k7), ((hsl1_1.gg0 k6).gg0 k7), ((hsl2_1.gg0 k6).gg0 k7)⟩ (by omega) (by exact ⟨rfl, rfl, rfl, rfl, rfl, rfl, rfl, trivial⟩)
  have hiy : inR y u = true := by simpa using h3
  have hin := inR_in hix hiy
  have hxu : 0 ≤ x + hf u ∧ x + hf u < 2 * hf u := by unfold inR at hix; simp at hix; omega
  have hyu : 0 ≤ y + hf u ∧ y + hf u < 2 * hf u := by unfold inR at hiy; simp at hiy; omega
  refine w_exit' (n_then_exit (n_then_exit (n_block_exit (n_then (w_seq (w_seq ?_))))))
  refine w_region (st (s_move rfl (st (s_gt rfl rfl (st (s_move rfl (r_caseP 34 rfl (fun h4 => absurd h4 (by omega)) (fun h4 => (s_pass rfl rfl (s_pass rfl rfl ?_))))))))))
  refine st (s_pick rfl rfl (r_end (n_then (w_condF rfl (w_skip' (n_then (w_seq ?_)))))))
  refine w_seq (w_region (st (s_move rfl (st (s_gt rfl rfl (r_end (n_then (w_condP rfl (fun h5 => absurd h5 (by omega)) (fun h5 => ?_)))))))))
  refine w_skip' (n_then (w_seq (w_region (st (s_loadW row25 rfl ((hbl0.g0 k6).g0 k7).range rfl (st (s_move rfl (st (s_call fn63 rfl (Nd.rgrow_any (level := u) (hl.at0 hb8) (by omega) hlast (by omega)) ?_)))))))))
  rintro _ w9 ⟨hq4, v1, rfl, hO1⟩
  have k8 := grown_of_below hq4 none
  have hz9 := hq4.size
  have hb9 := below_g0 hb8 k8
  have hz10 := hb9.size
  have hO2 := hO1.rebase (b' := w.heap.size) hb8.size
  obtain ⟨hgo, hgn, _, hgl⟩ := grown_sem hcan (v := u) (by omega) (by omega) (by omega)
  refine st (s_move rfl (st (s_extract rfl rfl (st (s_extract rfl rfl (st (s_assign rfl (st (s_assign rfl (r_end (n_then ?_)))))))))))
  refine w_seq (w_region (st (s_move rfl (st (s_sub rfl rfl (by omega) (st (s_call fn47 rfl (rbpow_any (n0 := n0) (below_n0 hn0 hb9)) ?_)))))))
  rintro v3 w10 ⟨hq5, hv1⟩
  rw [show (shlN 1 (u - 1)) = (hf u) from (shl_hf (by omega))] at hv1
  obtain ⟨v2, rfl, hS1⟩ := hv1
  have k9 := grown_of_below hq5 none
  have hz11 := hq5.size
  have hb10 := below_g0 hb9 k9
  have hz12 := hb10.size
  have hO3 := hO2.g0 k9
  have hlt_4 := (((((hbl0.g0 k6).g0 k7).g0 k8).g0 k9)).lt
  have hlt_5 := (((((hbl1.g0 k6).g0 k7).g0 k8).g0 k9)).lt
  have hlt_6 := (((((hbl2.g0 k6).g0 k7).g0 k8).g0 k9)).lt
  have hlt_7 := (((((hbl3.g0 k6).g0 k7).g0 k8).g0 k9)).lt
  refine st (s_alloc zero31 ?_)
  intro g5 w11 hg5 hB5 k10 hs5
  have hz13 := hb10.size
  have hb11 := below_g0 hb10 k10
  have hO4 := hO3.g0 k10
  refine st0 (s_storeN row31 rfl rfl hB5 (by simp only [List.all_cons, List.all_nil, hS1.one, Bool.and_true, Bool.and_self] <;> rfl) rfl rfl ?_)
  intro w12 hB6 k11 hs6
  have hb12 := below_g hb11 k11 (by first | omega | (have h9 := (hb11).size; omega))
  have hO5 := Own.keptF node_flat hO4 k11 (hO4.ne_blk hB5 (by decide))
  refine r_end (n_then (w_seq ?_))
  refine w_drawDE 15 (Two (fun i => v1.ownBlock = some i)) (fun a b => a.grownBy b none) (Two (fun i => v1.ownBlock = some i)) [(some 52, Is <| v1), (some 53, Is <| .int .i64 u), (some 54, Is <| .int .i64 ((grownQ l u).length : Int)), (some 55, Is <| .agg [.bool (decide (x < 0)), px].toArray), (some 56, Is <| .agg [.bool (decide ((hf u) < 0)), v2].toArray), (some 57, fun v W => IsBig 83 n0 W v ((x + (hf u)))), (some 58, Is <| .agg [.bool (decide (y < 0)), py].toArray), (some 59, Is <| .agg [.bool (decide ((hf u) < 0)), v2].toArray), (some 60, fun v W => IsBig 83 n0 W v ((y + (hf u)))), (some 61, Is <| .int .u8 s), (some 62, fun v W => ∃ q, v = .tuple #[q, .int .i64 (putF u.toNat (grownQ l u) ((grownQ l u).length : Int) (x + hf u) (y + hf u) s).2] ∧ Gw.Own Kd.node 101 w.heap.size W (fun _ => False) q (putF u.toNat (grownQ l u) ((grownQ l u).length : Int) (x + hf u) (y + hf u) s).1), (some 51, fun v W => ∃ q, v = .tuple #[q, .int .i64 (putF u.toNat (grownQ l u) ((grownQ l u).length : Int) (x + hf u) (y + hf u) s).2] ∧ Gw.Own Kd.node 101 w.heap.size W (fun _ => False) q (putF u.toNat (grownQ l u) ((grownQ l u).length : Int) (x + hf u) (y + hf u) s).1), (some 63, fun v W => Gw.Own Kd.node 101 w.heap.size W (fun _ => False) v (putF u.toNat (grownQ l u) ((grownQ l u).length : Int) (x + hf u) (y + hf u) s).1), (some 64, Is <| .int .i64 (putF u.toNat (grownQ l u) ((grownQ l u).length : Int) (x + hf u) (y + hf u) s).2), (some 11, fun v W => Gw.Own Kd.node 101 w.heap.size W (fun _ => False) v (putF u.toNat (grownQ l u) ((grownQ l u).length : Int) (x + hf u) (y + hf u) s).1)] [[], [], [], [], [], [3, 4], [], [], [6, 7], [], [0, 1, 2, 5, 8, 9], [10], [11], [11], [12]] [[], [], [], [], [], [3, 4], [], [], [3, 4, 5, 6, 7], [], [0, 1, 2, 3, 4, 5, 6, 7, 8, 9], [0, 1, 2, 3, 4, 5, 6, 7, 8, 9, 10], [0, 1, 2, 3, 4, 5, 6, 7, 8, 9, 10, 11], [0, 1, 2, 3, 4, 5, 6, 7, 8, 9, 10, 11], [0, 1, 2, 3, 4, 5, 6, 7, 8, 9, 10, 11, 12]] [[], [], [], [], [], [10], [], [], [10], [], [], [], [], [], []] [false, false, false, false, false, false, false, false, false, false, true, false, false, false, false] [true, true, true, true, true, false, true, true, false, true, false, false, false, true, false] [true, true, true, true, true, true, true, true, true, true, true, false, false, false, false] [(3, .int .u8 s), (5, .pointer (some ⟨g2, 0, none⟩)), (6, .pointer (some ⟨g3, 0, none⟩)), (8, .pointer (some ⟨g4, 0, none⟩)), (9, .int .i64 0), (10, .int .i64 u), (12, .int .i64 ((grownQ l u).length : Int)), (13, .pointer (some ⟨g5, 0, none⟩))] [(11, v1)] [true, false, false, false, false, false, false, false, false, false, false, false, false, false, false] (by exact ⟨rfl, rfl, rfl, rfl, rfl, rfl, rfl, rfl, trivial⟩) (by exact ⟨rfl, trivial⟩) (by kernel_rfl) (by kernel_rfl) (by kernel_rfl) (by kernel_rfl) (by kernel_rfl) rfl (Two.refl _) (fun _ _ _ h k => h.trans k) (fun _ _ h => Two.none h) (fun _ _ h => h) ⟨kv, kv, kv, kv, kv, kv, kv, kv, kv, kv, fun _ _ _ h k => h.g0 k, kv, kv, kv, kv, fun _ _ _ h k => h.g0 k, kv, kv, fun _ _ _ h k => by obtain ⟨q, e, h⟩ := h; exact ⟨q, e, h.g0 k⟩, fun _ _ _ h k => by obtain ⟨q, e, h⟩ := h; exact ⟨q, e, h.g0 k⟩, fun _ _ _ h k => h.g0 k, kv, kv, fun _ _ _ h k => h.g0 k, trivial⟩ grown_none_refl (fun _ _ _ => grown_none_trans) rfl ?_
  intro w15 k14 hs7
  have hb13 := below_g0 hb12 k14
  have hO6 := hO5.g0 k14
  refine ⟨⟨?_, ?_, ?_, ?_, ?_, ?_, ?_, ?_, ?_, ?_, ?_, ?_, ?_, ?_, ?_, trivial⟩, ?_⟩
  · intro w16 k15
    have hb14 := below_g0 hb13 k15
    have hz14 := hb14.size
    refine op1 (s_move rfl ?_)
    exact ⟨rfl, grown_none_refl _⟩
  · intro w17 k16
    have hb15 := below_g0 hb13 k16
    have hz15 := hb15.size
    refine op1 (s_move rfl ?_)
    exact ⟨rfl, grown_none_refl _⟩
  · intro w18 k17
    have hb16 := below_g0 hb13 k17
    have hz16 := hb16.size
    refine op1 (s_move rfl ?_)
    exact ⟨rfl, grown_none_refl _⟩
  · intro w19 k18
    have hb17 := below_g0 hb13 k18
    have hz17 := hb17.size
    refine op1 (s_loadW row31 rfl ((((((((hbl1.g0 k6).g0 k7).g0 k8).g0 k9).g0 k10).gne k11 (by omega)).g0 k14).g0 k18).range rfl ?_)
    exact ⟨rfl, grown_none_refl _⟩
  · intro w20 k19
    have hb18 := below_g0 hb13 k19
    have hz18 := hb18.size
    refine op1 (s_loadW row31 rfl ((hB6.g0 k14).g0 k19).range rfl ?_)
    exact ⟨rfl, grown_none_refl _⟩
  · intro w21 k20
    have hb19 := below_g0 hb13 k20
    have hz19 := hb19.size
    rintro _ rfl _ rfl
    refine op1 (s_call fn22 rfl (rbadd_any (n0 := n0) (below_n0 hn0 hb19) (big_of rfl ((((((((hsl1_1.gg0 k6).gg0 k7).gg0 k8).gg0 k9).gg0 k10).ggB k11 hB5 (by decide) (by omega)).gg0 k14).gg0 k20)) (big_of rfl ((((hS1.gg0 k10).ggB k11 hB5 (by decide) (by omega)).gg0 k14).gg0 k20)) (Bd.le hbx (show 50 ≤ 90000 by decide)) (Bd.le (bd_hf (by omega)) (show 42 ≤ 90000 by decide))) ?_)
    rintro _ w22 ⟨hq8, v6, rfl, hS4⟩
    have k21 := grown_of_below hq8 none
    have hz20 := hq8.size
    have hb20 := below_g0 hb19 k21
    have hz21 := hb20.size
    exact ⟨⟨_, rfl, hS4⟩, k21⟩
  · intro w23 k22
    have hb21 := below_g0 hb13 k22
    have hz22 := hb21.size
    refine op1 (s_loadW row31 rfl ((((((((hbl2.g0 k6).g0 k7).g0 k8).g0 k9).g0 k10).gne k11 (by omega)).g0 k14).g0 k22).range rfl ?_)
    exact ⟨rfl, grown_none_refl _⟩
  · intro w24 k23
    have hb22 := below_g0 hb13 k23
    have hz23 := hb22.size
    refine op1 (s_loadW row31 rfl ((hB6.g0 k14).g0 k23).range rfl ?_)
    exact ⟨rfl, grown_none_refl _⟩
  · intro w25 k24
    have hb23 := below_g0 hb13 k24
    have hz24 := hb23.size
    rintro _ rfl _ rfl
    refine op1 (s_call fn22 rfl (rbadd_any (n0 := n0) (below_n0 hn0 hb23) (big_of rfl ((((((((hsl2_1.gg0 k6).gg0 k7).gg0 k8).gg0 k9).gg0 k10).ggB k11 hB5 (by decide) (by omega)).gg0 k14).gg0 k24)) (big_of rfl ((((hS1.gg0 k10).ggB k11 hB5 (by decide) (by omega)).gg0 k14).gg0 k24)) (Bd.le hby (show 50 ≤ 90000 by decide)) (Bd.le (bd_hf (by omega)) (show 42 ≤ 90000 by decide))) ?_)
    rintro _ w26 ⟨hq9, v7, rfl, hS5⟩
    have k25 := grown_of_below hq9 none
    have hz25 := hq9.size
    have hb24 := below_g0 hb23 k25
    have hz26 := hb24.size
    exact ⟨⟨_, rfl, hS5⟩, k25⟩
  · intro w27 k26
    have hb25 := below_g0 hb13 k26
    have hz27 := hb25.size
    refine op1 (s_move rfl ?_)
    exact ⟨rfl, grown_none_refl _⟩
  · intro w28 k27
    have hb26 := below_g0 hb13 k27
    have hz28 := hb26.size
    have hO19 := hO6.g0 k27
    intro v_ hv_; subst v_
    rintro _ rfl _ rfl _ ⟨v8, rfl, hS6⟩ _ ⟨v9, rfl, hS7⟩ _ rfl
    refine op1 (s_call fn64 rfl (put_any (a0 := w) (n0 := n0) hn0 hs u.toNat (n := ((grownQ l u).length : Int)) (lv := u) (x := x + hf u) (y := y + hf u) (by omega) (by omega) hgo hgn (by omega) hxu hyu hb26 hO19 hS6 hS7) ?_)
    rintro _ w29 ⟨vo1, rfl, hb27, hO20, hr1, hT1⟩
    exact ⟨⟨vo1, rfl, hO20⟩, hT1⟩
  · intro w8z_ kb_
    rintro _ ⟨u_, rfl, hu_⟩
    exact op1 (s_move rfl ⟨⟨u_, rfl, hu_⟩, grown_none_refl _⟩)
  · intro w8z_ kb_
    rintro _ ⟨u_, rfl, hu_⟩
    exact op1 (s_extract rfl rfl ⟨hu_, grown_none_refl _⟩)
  · intro w8z_ kb_
    rintro _ ⟨u_, rfl, hu_⟩
    exact op1 (s_extract rfl rfl ⟨rfl, grown_none_refl _⟩)
  · intro w8z_ kb_
    intro u_ hu_
    exact op1 (s_assign rfl ⟨hu_, grown_none_refl _⟩)
  intro w30 k28
  intro v_ hv_; subst v_
  intro v_ hv_; subst v_
  intro v_ hv_; subst v_
  intro v_ hv_; subst v_
  intro v_ hv_; subst v_
  intro _ _
  intro v_ hv_; subst v_
  intro v_ hv_; subst v_
  intro _ _
  intro v_ hv_; subst v_
  rintro _ ⟨_, rfl, _⟩ _ ⟨_, rfl, _⟩ _ _ _ rfl vo2 hO21
  have hb28 := k28.below hb13 hb13.size (fun i hi h_ => by have := (hO6.lt i h_).1; omega)
  have hB7 := (((((((hbl3.g0 k6).g0 k7).g0 k8).g0 k9).g0 k10).gne k11 (by omega)).g0 k14).two k28 (hO6.neB (((((((hbl3.g0 k6).g0 k7).g0 k8).g0 k9).g0 k10).gne k11 (by omega)).g0 k14) (by decide))
  have hz29 := hb28.size
  have hpl_ := put_len u.toNat (grownQ l u) ((grownQ l u).length : Int) (x + hf u) (y + hf u) s
  refine st (s_assign rfl (r_end (n_then (w_seq (w_region (st (s_move rfl (st (s_move rfl ?_)))))))))
  refine st (s_call fn11 rfl (Nd.rof_any (n := (putF u.toNat (grownQ l u) ((grownQ l u).length : Int) (x + hf u) (y + hf u) s).2) hO21.sl (by omega)) ?_)
  rintro _ w31 ⟨hq10, sv1, rfl, hS8⟩
  have k29 := grown_of_below hq10 none
  have hz30 := hq10.size
  have hb29 := below_g0 hb28 k29
  have hz31 := hb29.size
  refine st (s_extract rfl rfl (st (s_extract rfl rfl (st0 (s_storeN row25 rfl rfl (hB7.g0 k29) (by simp only [List.all_cons, List.all_nil, hS8.one, Bool.and_true, Bool.and_self] <;> rfl) rfl rfl ?_)))))
  intro w32 hB8 k30 hs8
  have hb30 := below_g hb29 k30 (by first | omega | (have h9 := (hb29).size; omega))
  refine st (s_assign rfl (r_end (n_then (w_retc2 rfl row25 rfl rfl hB8.range rfl ?_))))
  rw [set_up' (lvUp_eq hcan hu.1 hu13 hno hin) hu13]
  exact ⟨_, rfl, hb30, _, rfl, (Sl.gSmall node_flat hS8 k30 (hB7.g0 k29) (by decide))⟩
end Go.Proofs.Ytfljelnfjbbknaa.Lm
