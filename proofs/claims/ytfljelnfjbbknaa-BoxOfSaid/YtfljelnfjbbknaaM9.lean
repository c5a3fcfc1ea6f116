/- Part of the proof: a library for walks, plain laws, and functions' walks. -/
import Derived.Test.YtfljelnfjbbknaaM8
import Derived.Test.YtfljelnfjbbknaaM4
import Derived.Test.YtfljelnfjbbknaaM5
set_option maxRecDepth 20000
set_option linter.unusedSimpArgs false
set_option linter.unusedVariables false
namespace Go.Proofs.Ytfljelnfjbbknaa.Lm
open Go.RowKit Go.Gw
set_option maxHeartbeats 1000000 in
theorem order_any {w : World} {a b : Cl} {n0 : Nat} (hn0 : n0 ≤ w.heap.size) {px py : Value} (hpx : Sl Kd.u32 w (G 83 n0 w) px (ml a.x)) (hpy : Sl Kd.u32 w (G 83 n0 w) py (ml a.y)) {qx qy : Value} (hqx : Sl Kd.u32 w (G 83 n0 w) qx (ml b.x)) (hqy : Sl Kd.u32 w (G 83 n0 w) qy (ml b.y)) (hax : Bd 50 a.x) (hay : Bd 50 a.y) (hbx : Bd 50 b.x) (hby : Bd 50 b.y) :
    Calls Try.prog 52 [.agg [.bool (decide (a.x < 0)), px, .bool (decide (a.y < 0)), py, .int .u8 a.st].toArray, .agg [.bool (decide (b.x < 0)), qx, .bool (decide (b.y < 0)), qy, .int .u8 b.st].toArray].toArray w (Pure w fun v _ => v = .int .i64 (ordC a b)) := by
  have hb0 := Below.refl w.heap.size w
  refine enter Try.func52 rfl rfl (w_seq (w_region (st (s_box rfl ?_))))
  intro g1 w1 hg1 hB1 k1 hs1
  change Blk w1 g1 47 [.bool (decide (a.x < 0)), px, .bool (decide (a.y < 0)), py, .int .u8 a.st].toArray at hB1
  have hb1 := below_g0 hb0 k1
  refine st (s_box rfl ?_)
  intro g2 w2 hg2 hB2 k2 hs2
  change Blk w2 g2 47 [.bool (decide (b.x < 0)), qx, .bool (decide (b.y < 0)), qy, .int .u8 b.st].toArray at hB2
  have hb2 := below_g0 hb1 k2
  refine st (s_assign rfl (r_end (n_then (w_seq (w_region (st (s_faddr fld47_1 rfl (st (s_loadN (us := [.bool (decide (a.y < 0)), py]) row31 rfl (hB1.g0 k2).range (j := 2) rfl rfl ?_)))))))))
  refine st (s_faddr fld47_1 rfl (st (s_loadN (us := [.bool (decide (b.y < 0)), qy]) row31 rfl hB2.range (j := 2) rfl rfl (st (s_call fn23 rfl (rbcmp_any (n0 := n0) (below_n0 hn0 hb2) (big_of rfl ((hpy.gg0 k1).gg0 k2)) (big_of rfl ((hqy.gg0 k1).gg0 k2)) (Bd.le hay (show 50 ≤ 90000 by decide)) (Bd.le hby (show 50 ≤ 90000 by decide))) ?_)))))
  rintro _ w3 ⟨hq1, rfl⟩
  have k3 := grown_of_below hq1 none
  have hz1 := hq1.size
  have hb3 := below_g0 hb2 k3
  have hz2 := hb3.size
  refine st (s_assign rfl (r_end (n_then (w_seq (w_seq (w_region (st (s_move rfl ?_))))))))
  refine st (s_ne rfl rfl (r_end (n_then ?_)))
  refine w_condP rfl (fun h1 => ?_) (fun h1 => ?_)
  · refine w_seq (w_region (st (s_move rfl (st (s_assign rfl (r_end (n_then (w_ret1 rfl rfl ?_))))))))
    exact ⟨_, rfl, hb3, by unfold ordC; rw [if_neg h1]⟩
  refine w_skip' (n_then (w_seq (w_region (st (s_faddr fld47_0 rfl (st (s_loadN (us := [.bool (decide (a.x < 0)), px]) row31 rfl ((hB1.g0 k2).g0 k3).range (j := 0) rfl rfl (st (s_faddr fld47_0 rfl ?_)))))))))
  refine st (s_loadN (us := [.bool (decide (b.x < 0)), qx]) row31 rfl (hB2.g0 k3).range (j := 0) rfl rfl (st (s_call fn23 rfl (rbcmp_any (n0 := n0) (below_n0 hn0 hb3) (big_of rfl (((hpx.gg0 k1).gg0 k2).gg0 k3)) (big_of rfl (((hqx.gg0 k1).gg0 k2).gg0 k3)) (Bd.le hax (show 50 ≤ 90000 by decide)) (Bd.le hbx (show 50 ≤ 90000 by decide))) ?_)))
  rintro _ w4 ⟨hq2, rfl⟩
  have k4 := grown_of_below hq2 none
  have hz3 := hq2.size
  have hb4 := below_g0 hb3 k4
  have hz4 := hb4.size
  refine st (s_assign rfl (r_end (n_then (w_ret1 rfl rfl ?_))))
  exact ⟨_, rfl, hb4, by unfold ordC; rw [if_pos (Classical.not_not.1 h1)]⟩

set_option maxHeartbeats 1000000 in
theorem last_any {w : World} {F : Nat → Prop} {va : Value} {l : List Cl} {n0 : Nat} (hn0 : n0 ≤ w.heap.size) (hl : Sl (Kd.cell 83 n0) w F va l) (hcb : CBd l) (hll : l.length ≤ 100000) :
    Calls Try.prog 19 [va].toArray w (Pure w fun v W => Gw.Own (Kd.cell 83 n0) 47 w.heap.size W (fun _ => False) v (lastL l)) := by
  have hb0 := Below.refl w.heap.size w
  have hln1 := hl.lenle
  refine enter Try.func19 rfl rfl (w_seq (w_region (st (s_assign rfl (r_end (n_then (w_seq ?_)))))))
  refine w_region (st (s_assign rfl (r_end (n_then (w_seq (w_seq (w_region ?_)))))))
  refine st (s_assign rfl (r_end (n_then (w_block (w_loop (α := Int × Value × List Cl) (fun ((i, vo, os) : Int × Value × List Cl) => [(0, va), (2, .slice none 0 0), (3, vo), (4, .int .i64 i)]) (fun ((i, vo, os) : Int × Value × List Cl) W => Below w.heap.size w W ∧ (0 ≤ i ∧ i ≤ l.length) ∧ (Gw.Own (Kd.cell 83 n0) 47 w.heap.size W (fun _ => False) vo os) ∧ (os = lastA (l.take i.toNat))) (fun ((i, vo, os) : Int × Value × List Cl) => (l.length - i).toNat) ((0), (.slice none 0 0), ([])) ⟨hb0, by omega, Own.nil _ _ _ _ _, rfl⟩ (by exact ⟨rfl, rfl, rfl, rfl, trivial⟩) ?_)))))
  rintro ⟨i, vo, os⟩ w1 ⟨hb1, hi, hO, hos⟩
  dsimp only at *
  have hz1 := hb1.size
  have hcbo := cbd_last hcb hos
  have hlo := last_len hos
  refine w_seq (w_seq (w_region (st (s_move rfl (st (s_move rfl (st (s_len sl39 rfl (hl.at0 hb1) (st (s_lt rfl rfl ?_))))))))))
  refine r_end (n_then ?_)
  refine w_condP rfl (fun h1 => ?_) (fun h1 => ?_)
  rotate_left
  · refine w_exit' (n_then_exit (n_then_exit (n_block_exit (n_then (w_seq (w_region ?_))))))
    refine st (s_assign rfl (r_end (n_then (w_seq (w_seq (w_region (st (s_assign rfl ?_))))))))
    refine r_end (n_then (w_block (w_loop (α := Int × Value × List Cl) (fun ((m, vp, ys) : Int × Value × List Cl) => [(2, .slice none 0 0), (3, vo), (8, vp), (9, .int .i64 m)]) (fun ((m, vp, ys) : Int × Value × List Cl) W => Below w.heap.size w W ∧ (0 ≤ m ∧ m ≤ os.length) ∧ (Sl (Kd.cell 83 n0) W (Gw.Loc (fun _ => False) w1) vo os) ∧ (Gw.Own (Kd.cell 83 n0) 47 w1.heap.size W (fun _ => False) vp ys) ∧ (w1.heap.size ≤ W.heap.size) ∧ (ys = (os.take m.toNat).filter nzC)) (fun ((m, vp, ys) : Int × Value × List Cl) => (os.length - m).toNat) ((0), (.slice none 0 0), ([])) ⟨hb1, by omega, hO.sl.loc, Own.nil _ _ _ _ _, Nat.le_refl _, rfl⟩ (by exact ⟨rfl, rfl, rfl, rfl, trivial⟩) ?_)))
    rintro ⟨m, vp, ys⟩ w233 ⟨hb218, hm, hOa, hOb, hW1, hys⟩
    dsimp only at *
    have hz59 := hb218.size
    have hyl := filt_len hys
    have hW0 := (hb1).size
    refine w_seq (w_seq (w_region (st (s_move rfl (st (s_move rfl (st (s_len sl39 rfl hOa (st (s_lt rfl rfl ?_))))))))))
    refine r_end (n_then ?_)
    refine w_condP rfl (fun h8 => ?_) (fun h8 => ?_)
    rotate_left
    · refine w_exit' (n_then_exit (n_then_exit (n_block_exit (n_then (w_seq (w_region ?_))))))
      refine st (s_move rfl (st (s_assign rfl (r_end (n_then (w_ret1 rfl rfl ?_))))))
      exact ⟨_, rfl, hb218, by unfold lastL; rw [show lastA l = os by rw [hos, List.take_of_length_le (by omega)], show os.filter nzC = ys by rw [hys, List.take_of_length_le (by omega)]]; exact hOb.rebase (by omega)⟩
    refine w_skip' (n_then (w_seq (w_block (w_seq (w_region (st (s_move rfl ?_)))))))
    refine st (s_move rfl (st (s_idx sl39 rfl rfl hOa (by omega) (by omega) ?_)))
    rintro b13 o13 _ ⟨ca13, cb13, rfl, hca13, hcb13, hcs13⟩ hc13 hF13 hlt13
    replace hca13 := hca13.ofGF
    replace hcb13 := hcb13.ofGF
    refine st (s_faddr fld47_2 rfl (st (s_load one5 rfl hc13 (j := 4) rfl (st (s_ne rfl rfl (r_end (n_then ?_)))))))
    refine w_condP rfl (fun h9 => ?_) (fun h9 => ?_)
    rotate_left
    · refine w_skip' (n_block (n_then (w_region (st (s_move rfl (st (s_add rfl rfl (by omega) (st (s_assign rfl ?_)))))))))
      refine r_end ?_
      exact n_round (((m + 1)), (vp), (ys)) ⟨hb218, by omega, hOa, hOb, by  omega, filt_no hm.1 h8 hys h9⟩ (by dsimp only; omega) (by exact ⟨rfl, rfl, rfl, rfl, trivial⟩)
    refine w_region (st (s_move rfl (st (s_move rfl (st (s_move rfl (st (s_idx sl39 rfl rfl hOa (by omega) (by omega) ?_))))))))
    rintro b14 o14 _ ⟨ca14, cb14, rfl, hca14, hcb14, hcs14⟩ hc14 hF14 hlt14
    replace hca14 := hca14.ofGF
    replace hcb14 := hcb14.ofGF
    refine st (s_loadW row47 rfl hc14 rfl (st (s_bslice (ps := [(0, .tmp 86)]) (ccs := [#[.bool (decide ((ix os m).x < 0)), ca14, .bool (decide ((ix os m).y < 0)), cb14, .int .u8 ((ix os m).st)]]) (e := 47) (cells := [.bool (decide ((ix os m).x < 0)), ca14, .bool (decide ((ix os m).y < 0)), cb14, .int .u8 ((ix os m).st)]) rfl rfl (by kernel_rfl) (by decide) nz47 ?_)))
    intro g17 w234 hg13 hB17 k231 hs25
    have hb219 := below_g0 hb218 k231
    have hz60 := hb219.size
    have hO360 := hOb.g0 k231
    have hS31 : Sl (Kd.cell 83 n0) w234 (fun _ => False) (.slice (some ⟨g17, 0, none⟩) 1 1) [(ix os m)] := lit_cell (c := (ix os m)) hB17 (hca14.gg0 k231) (hcb14.gg0 k231) hcs14
    refine st (s_append (K := (Kd.cell 83 n0)) sl39 rfl rfl hO360 (lit_cellO (c := (ix os m)) hB17 (hca14.gg0 k231) (hcb14.gg0 k231) hcs14 hO360 (own_new hOb hg13) (by decide) (by omega)) (cell_gk 83 n0).ones (by simp; omega) (by simp; omega) (by first | exact Nat.le_refl _ | omega | (have h0_ := k231.size; omega)) (fun _ h => h.elim) ?_)
    intro v71 w235 hO361 k232 hr33
    have hb220 := hb219.grown k232 hb219.size (fun k_ hk_ => by have h9_ := (hO360.lt k_ hk_).1; omega)
    have hz61 := hb220.size
    refine st (s_assign rfl (r_end (n_block (n_then (w_region (st (s_move rfl (st (s_add rfl rfl (by omega) ?_)))))))))
    refine st (s_assign rfl (r_end ?_))
    exact n_round (((m + 1)), (v71), (ys ++ [(ix os m)])) ⟨hb220, by omega, (Sl.gO (hOa.g0 k231) k232 (fun g_ h_ => by have h9_ := (hO360.lt g_ h_).1; omega)), hO361, by have h0_ := k231.size; have h1_ := k232.size; omega, filt_yes hm.1 h8 hys h9⟩ (by dsimp only; omega) (by exact ⟨rfl, rfl, rfl, rfl, trivial⟩)
  have hlt := h1
  refine w_skip' (n_then (w_seq (w_block (w_seq (w_region (st (s_assign rfl ?_)))))))
  refine r_end (n_then (w_seq (w_block (w_loop (α := Int) (fun (k : Int) => [(0, va), (2, .slice none 0 0), (3, vo), (4, .int .i64 i), (5, .int .i64 k)]) (fun (k : Int) W => Below w.heap.size w W ∧ (0 ≤ k ∧ k ≤ os.length) ∧ (Gw.Own (Kd.cell 83 n0) 47 w.heap.size W (fun _ => False) vo os) ∧ (∀ j : Int, 0 ≤ j → j < k → ordC (ix os j) (ix l i) < 0)) (fun (k : Int) => (os.length - k).toNat) (0) ⟨hb1, by omega, hO, fun j _ _ => by omega⟩ (by exact ⟨rfl, rfl, rfl, rfl, rfl, trivial⟩) ?_))))
  rintro k w2 ⟨hb2, hk, hOk, hat⟩
  have hz2 := hb2.size
  refine w_seq (w_seq ?_)
  by_cases h2 : k < (os.length : Int)
  rotate_left
  · refine w_draw 16 (fun a b => a.grownBy b none) [(some 16, Is <| .int .i64 k), (some 17, Is <| vo), (some 18, Is <| .int .i64 (os.length : Int)), (some 19, Is <| .bool (decide (k < (os.length : Int)))), (some 20, Is <| .bool false), (some 21, Is <| undef), (some 22, Is <| undef), (some 23, Is <| undef), (some 24, Is <| undef), (some 25, Is <| undef), (some 26, Is <| undef), (some 27, Is <| undef), (some 28, Is <| undef), (some 29, Is <| undef), (some 30, Is <| undef), (some 31, Is <| .bool false)] [[], [], [1], [0, 2], [3], [4], [4], [4, 5, 6], [4, 7], [4], [4], [4, 9, 10], [4, 11], [4, 8, 12], [4, 13], [4, 14]] [(0, va), (2, .slice none 0 0), (3, vo), (4, .int .i64 i), (5, .int .i64 k)] (by exact ⟨rfl, rfl, rfl, rfl, rfl, trivial⟩) (by kernel_rfl) (by kernel_rfl) grown_none_refl (fun _ _ _ => grown_none_trans) ⟨kv, kv, kv, kv, kv, kv, kv, kv, kv, kv, kv, kv, kv, kv, kv, kv, trivial⟩ ?_
    intro w119 k117 hs13
    have hb111 := below_g0 hb2 k117
    have hO181 := hOk.g0 k117
    refine ⟨⟨?_, ?_, ?_, ?_, ?_, ?_, ?_, ?_, ?_, ?_, ?_, ?_, ?_, ?_, ?_, ?_, trivial⟩, ?_⟩
    · intro w120 k118
      refine op1 (s_move rfl ?_)
      exact ⟨rfl, grown_none_refl _⟩
    · intro w121 k119
      refine op1 (s_move rfl ?_)
      exact ⟨rfl, grown_none_refl _⟩
    · intro w122 k120
      have hO184 := hO181.g0 k120
      intro v_ hv_; subst v_
      refine op1 (s_len sl39 rfl hO184.sl.loc ?_)
      exact ⟨rfl, grown_none_refl _⟩
    · intro w123 k121
      rintro _ rfl _ rfl
      refine op1 (s_lt rfl rfl ?_)
      exact ⟨rfl, grown_none_refl _⟩
    · intro w124 k122
      rintro _ rfl
      refine op1 (s_move rfl ?_)
      exact ⟨(by rw [decide_eq_false h2]), grown_none_refl _⟩
    · intro w125 k123
      rintro _ rfl
      refine op1p ⟨rfl, grown_none_refl _⟩
    · intro w126 k124
      rintro _ rfl
      refine op1p ⟨rfl, grown_none_refl _⟩
    · intro w127 k125
      rintro _ rfl
      intro v_ hv_; subst v_
      intro v_ hv_; subst v_
      refine op1p ⟨rfl, grown_none_refl _⟩
    · intro w128 k126
      rintro _ rfl
      intro v_ hv_; subst v_
      refine op1p ⟨rfl, grown_none_refl _⟩
    · intro w129 k127
      rintro _ rfl
      refine op1p ⟨rfl, grown_none_refl _⟩
    · intro w130 k128
      rintro _ rfl
      refine op1p ⟨rfl, grown_none_refl _⟩
    · intro w131 k129
      rintro _ rfl
      intro v_ hv_; subst v_
      intro v_ hv_; subst v_
      refine op1p ⟨rfl, grown_none_refl _⟩
    · intro w132 k130
      rintro _ rfl
      intro v_ hv_; subst v_
      refine op1p ⟨rfl, grown_none_refl _⟩
    · intro w133 k131
      rintro _ rfl
      intro v_ hv_; subst v_
      intro v_ hv_; subst v_
      refine op1p ⟨rfl, grown_none_refl _⟩
    · intro w134 k132
      rintro _ rfl
      intro v_ hv_; subst v_
      refine op1p ⟨rfl, grown_none_refl _⟩
    · intro w135 k133
      rintro _ rfl
      intro v_ hv_; subst v_
      refine op1 (s_pick rfl rfl ?_)
      exact ⟨rfl, grown_none_refl _⟩
    intro w136 k134
    have hb128 := below_g0 hb111 k134
    have hO198 := hO181.g0 k134
    have hz32 := k117.size
    have hz33 := k134.size
    rintro _ rfl
    intro v_ hv_; subst v_
    rintro _ rfl _ rfl _ rfl
    intro v_ hv_; subst v_
    intro v_ hv_; subst v_
    intro v_ hv_; subst v_
    intro v_ hv_; subst v_
    intro v_ hv_; subst v_
    intro v_ hv_; subst v_
    intro v_ hv_; subst v_
    intro v_ hv_; subst v_
    intro v_ hv_; subst v_
    intro v_ hv_; subst v_
    rintro _ rfl
    refine r_end (n_then (w_condF rfl (w_exit' (n_then_exit (n_then_exit (n_block_exit ?_))))))
    refine n_then (w_seq ?_)
    by_cases h6 : k < (os.length : Int)
    rotate_left
    · refine w_draw 16 (fun a b => a.grownBy b none) [(some 34, Is <| .int .i64 k), (some 35, Is <| vo), (some 36, Is <| .int .i64 (os.length : Int)), (some 37, Is <| .bool (decide (k < (os.length : Int)))), (some 38, Is <| .bool false), (some 39, Is <| undef), (some 40, Is <| undef), (some 41, Is <| undef), (some 42, Is <| undef), (some 43, Is <| undef), (some 44, Is <| undef), (some 45, Is <| undef), (some 46, Is <| undef), (some 47, Is <| undef), (some 48, Is <| undef), (some 49, Is <| .bool false)] [[], [], [1], [0, 2], [3], [4], [4], [4, 5, 6], [4, 7], [4], [4], [4, 9, 10], [4, 11], [4, 8, 12], [4, 13], [4, 14]] [(0, va), (2, .slice none 0 0), (3, vo), (4, .int .i64 i), (5, .int .i64 k)] (by exact ⟨rfl, rfl, rfl, rfl, rfl, trivial⟩) (by kernel_rfl) (by kernel_rfl) grown_none_refl (fun _ _ _ => grown_none_trans) ⟨kv, kv, kv, kv, kv, kv, kv, kv, kv, kv, kv, kv, kv, kv, kv, kv, trivial⟩ ?_
      intro w195 k193 hs21
      have hb182 := below_g0 hb128 k193
      have hO299 := hO198.g0 k193
      refine ⟨⟨?_, ?_, ?_, ?_, ?_, ?_, ?_, ?_, ?_, ?_, ?_, ?_, ?_, ?_, ?_, ?_, trivial⟩, ?_⟩
      · intro w196 k194
        refine op1 (s_move rfl ?_)
        exact ⟨rfl, grown_none_refl _⟩
      · intro w197 k195
        refine op1 (s_move rfl ?_)
        exact ⟨rfl, grown_none_refl _⟩
      · intro w198 k196
        have hO302 := hO299.g0 k196
        intro v_ hv_; subst v_
        refine op1 (s_len sl39 rfl hO302.sl.loc ?_)
        exact ⟨rfl, grown_none_refl _⟩
      · intro w199 k197
        rintro _ rfl _ rfl
        refine op1 (s_lt rfl rfl ?_)
        exact ⟨rfl, grown_none_refl _⟩
      · intro w200 k198
        rintro _ rfl
        refine op1 (s_move rfl ?_)
        exact ⟨(by rw [decide_eq_false h6]), grown_none_refl _⟩
      · intro w201 k199
        rintro _ rfl
        refine op1p ⟨rfl, grown_none_refl _⟩
      · intro w202 k200
        rintro _ rfl
        refine op1p ⟨rfl, grown_none_refl _⟩
      · intro w203 k201
        rintro _ rfl
        intro v_ hv_; subst v_
        intro v_ hv_; subst v_
        refine op1p ⟨rfl, grown_none_refl _⟩
      · intro w204 k202
        rintro _ rfl
        intro v_ hv_; subst v_
        refine op1p ⟨rfl, grown_none_refl _⟩
      · intro w205 k203
        rintro _ rfl
        refine op1p ⟨rfl, grown_none_refl _⟩
      · intro w206 k204
        rintro _ rfl
        refine op1p ⟨rfl, grown_none_refl _⟩
      · intro w207 k205
        rintro _ rfl
        intro v_ hv_; subst v_
        intro v_ hv_; subst v_
        refine op1p ⟨rfl, grown_none_refl _⟩
      · intro w208 k206
        rintro _ rfl
        intro v_ hv_; subst v_
        refine op1p ⟨rfl, grown_none_refl _⟩
      · intro w209 k207
        rintro _ rfl
        intro v_ hv_; subst v_
        intro v_ hv_; subst v_
        refine op1p ⟨rfl, grown_none_refl _⟩
      · intro w210 k208
        rintro _ rfl
        intro v_ hv_; subst v_
        refine op1p ⟨rfl, grown_none_refl _⟩
      · intro w211 k209
        rintro _ rfl
        intro v_ hv_; subst v_
        refine op1 (s_pick rfl rfl ?_)
        exact ⟨rfl, grown_none_refl _⟩
      intro w212 k210
      have hb199 := below_g0 hb182 k210
      have hO316 := hO299.g0 k210
      have hz50 := k193.size
      have hz51 := k210.size
      rintro _ rfl
      intro v_ hv_; subst v_
      rintro _ rfl _ rfl _ rfl
      intro v_ hv_; subst v_
      intro v_ hv_; subst v_
      intro v_ hv_; subst v_
      intro v_ hv_; subst v_
      intro v_ hv_; subst v_
      intro v_ hv_; subst v_
      intro v_ hv_; subst v_
      intro v_ hv_; subst v_
      intro v_ hv_; subst v_
      intro v_ hv_; subst v_
      rintro _ rfl
      refine st (s_assign rfl (r_end (n_then (w_seq (w_region (st (s_bslice0b (K := (Kd.cell 83 n0)) (base := w.heap.size) (F := (fun _ => False)) sl39 (hb199).size (fun _ h => h.elim) ?_)))))))
      intro g14 w213 hB14 hO317 k211
      have hb200 := below_g0 hb199 k211
      have hz52 := hb200.size
      have hO318 := hO316.g0 k211
      refine st (s_move rfl (st (s_move rfl (st (s_sllo sl39 rfl rfl hO318.sl.loc (by first | omega | (simp; omega)) (by first | omega | (simp; omega)) ?_)))))
      intro v59 hS26
      refine st (s_append0 sl39 rfl rfl hO317 (hS26).none (cell_gk 83 n0).ones (by simp; omega) (by simp; omega) (by omega) (fun _ h => h.elim) ?_)
      intro v60 w214 hO319 k212
      have hb201 := below_g0 hb200 k212
      have hz53 := hb201.size
      have hO320 := hO318.g0 k212
      refine st (s_assign rfl (r_end (n_then (w_seq (w_seq (w_region (st (s_move rfl ?_))))))))
      refine r_end (n_then (w_condF rfl (w_skip' (n_then ?_))))
      obtain ⟨b12, o12, _, hat12, ⟨ca12, cb12, rfl, hca12, hcb12, hcs12⟩, hc12, hF12, hlt12⟩ := (hl.at0 hb201).elem i (by omega) (by omega)
      have hl_9 := Loc.lt hF12
      replace hca12 := hca12.ofGF
      replace hcb12 := hcb12.ofGF
      refine w_drawT 11 (fun a b => a.grownBy b none) [(some 58, Is <| vo), (some 59, Is <| .int .i64 k), (some 60, Is <| .int .i64 k), (some 61, fun v W => SlC (Kd.cell 83 n0) W (fun _ => False) v (os.take (k).toNat)), (some 62, Is <| va), (some 63, Is <| .int .i64 i), (some 64, Is <| .pointer (some ⟨b12, o12, none⟩)), (some 65, Is <| .agg [.bool (decide ((ix l i).x < 0)), ca12, .bool (decide ((ix l i).y < 0)), cb12, .int .u8 ((ix l i).st)].toArray), (some 66, fun v W => Sl (Kd.cell 83 n0) W (fun _ => False) v [(ix l i)]), (some 67, fun v W => Gw.Own (Kd.cell 83 n0) 47 w214.heap.size W (fun _ => False) v ((os.take (k).toNat) ++ [(ix l i)])), (some 68, Is <| v60)] [[], [], [], [0, 1, 2], [], [], [4, 5], [6], [7], [3, 8], []] [(0, va), (2, .slice none 0 0), (3, vo), (4, .int .i64 i), (5, .int .i64 k), (7, v60)] (by exact ⟨rfl, rfl, rfl, rfl, rfl, rfl, trivial⟩) (by kernel_rfl) (by kernel_rfl) grown_none_refl (fun _ _ _ => grown_none_trans) ⟨kv, kv, kv, fun _ _ _ h k => h.g0 k, kv, kv, kv, kv, fun _ _ _ h k => h.g0 k, fun _ _ _ h k => h.g0 k, kv, trivial⟩ ?_
      intro w217 k215 hs23
      have hb202 := below_g0 hb201 k215
      have hO323 := hO320.g0 k215
      have hO324 := hO319.g0 k215
      refine ⟨⟨?_, ?_, ?_, ?_, ?_, ?_, ?_, ?_, ?_, ?_, ?_, trivial⟩, ?_⟩
      · intro w218 k216
        refine op1 (s_move rfl ?_)
        exact ⟨rfl, grown_none_refl _⟩
      · intro w219 k217
        refine op1 (s_move rfl ?_)
        exact ⟨rfl, grown_none_refl _⟩
      · intro w220 k218
        refine op1 (s_move rfl ?_)
        exact ⟨rfl, grown_none_refl _⟩
      · intro w221 k219
        have hO331 := hO323.g0 k219
        intro v_ hv_; subst v_
        rintro _ rfl _ rfl
        refine op1 (s_slcap sl39 rfl rfl rfl (hO331.sl.loc).none (by first | omega | (simp; omega)) (by first | omega | (simp; omega)) ?_)
        intro v63 hC22
        exact ⟨hC22, grown_none_refl _⟩
      · intro w222 k220
        refine op1 (s_move rfl ?_)
        exact ⟨rfl, grown_none_refl _⟩
      · intro w223 k221
        refine op1 (s_move rfl ?_)
        exact ⟨rfl, grown_none_refl _⟩
      · intro w224 k222
        intro v_ hv_; subst v_
        rintro _ rfl
        refine op1 (s_idxat sl39 rfl rfl hat12 ?_)
        exact ⟨rfl, grown_none_refl _⟩
      · intro w225 k223
        rintro _ rfl
        refine op1 (s_loadW row47 rfl (range_g0 (range_g0 hc12 k215) k223) rfl ?_)
        exact ⟨rfl, grown_none_refl _⟩
      · intro w226 k224
        have hb211 := below_g0 hb202 k224
        rintro _ rfl
        refine op1 (s_bslice (ps := [(0, .tmp 65)]) (ccs := [#[.bool (decide ((ix l i).x < 0)), ca12, .bool (decide ((ix l i).y < 0)), cb12, .int .u8 ((ix l i).st)]]) (e := 47) (cells := [.bool (decide ((ix l i).x < 0)), ca12, .bool (decide ((ix l i).y < 0)), cb12, .int .u8 ((ix l i).st)]) rfl rfl (by kernel_rfl) (by decide) nz47 ?_)
        intro g16 w227 hg12 hB16 k225 hs24
        have hb212 := below_g0 hb211 k225
        have hz54 := hb212.size
        have hS28 : Sl (Kd.cell 83 n0) w227 (fun _ => False) (.slice (some ⟨g16, 0, none⟩) 1 1) [(ix l i)] := lit_cell (c := (ix l i)) hB16 (((hca12.gg0 k215).gg0 k224).gg0 k225) (((hcb12.gg0 k215).gg0 k224).gg0 k225) hcs12
        exact ⟨hS28, k225⟩
      · intro w228 k226
        have hb213 := below_g0 hb202 k226
        rintro v64 hC23 v65 hS29
        refine op1 (s_appfull (K := (Kd.cell 83 n0)) sl39 rfl rfl hC23 (hS29).none (by simp) (cell_gk 83 n0).ones (by simp; omega) (by simp; omega) (fun _ h => h.elim) ?_)
        intro v66 w229 hO347 k227 hr29
        have hO348 := hO347.rebase (b' := w214.heap.size) (by have h0_ := k210.size; have h1_ := k211.size; have h2_ := k212.size; have h3_ := k215.size; have h4_ := k226.size; have h5_ := k227.size; omega)
        have hb214 := below_g0 hb213 k227
        have hz55 := hb214.size
        exact ⟨hO348, k227⟩
      · intro w230 k228
        refine op1 (s_move rfl ?_)
        exact ⟨rfl, grown_none_refl _⟩
      intro w231 k229
      have hb216 := below_g0 hb202 k229
      have hO354 := hO324.g0 k229
      have hz56 := k215.size
      have hz57 := k229.size
      intro v_ hv_; subst v_
      rintro _ rfl _ rfl v67 hC24
      intro v_ hv_; subst v_
      rintro _ rfl _ rfl _ rfl v68 hS30 v69 hO355
      have hO356 := hO355.rebase (b' := w.heap.size) (by omega)
      intro v_ hv_; subst v_
      refine st (s_append (K := (Kd.cell 83 n0)) sl39 rfl rfl hO356 (Own.srcG (cell_free 83 n0) hO354 hO356 (by decide) (by omega) (fun g_ h_ e_ => by have h8 := (hO355.lt g_ h_).1; have h9 := (hO319.lt g_ e_).2; omega)) (cell_gk 83 n0).ones (by simp; omega) (by simp; omega) (by first | exact Nat.le_refl _ | omega | (have h0_ := k134.size; have h1_ := k193.size; have h2_ := k210.size; have h3_ := k211.size; have h4_ := k212.size; have h5_ := k215.size; have h6_ := k229.size; omega)) (fun _ h => h.elim) ?_)
      intro v70 w232 hO357 k230 hr30
      have hb217 := hb216.grown k230 hb216.size (fun k_ hk_ => by have h9_ := (hO356.lt k_ hk_).1; omega)
      have hz58 := hb217.size
      refine st (s_assign rfl (r_end (n_block (n_then (w_region (st (s_move rfl (st (s_add rfl rfl (by omega) ?_)))))))))
      refine st (s_assign rfl (r_end ?_))
      exact n_round (((i + 1)), (v70), ((insC os (ix l i)))) ⟨hb217, by omega, (by rw [← insC_new (by omega) (by omega) hat (fun hz => ⟨(absurd hz (by omega)), (absurd hz (by omega))⟩)]; exact hO357), lastA_step hi.1 hlt hos⟩ (by dsimp only; omega) (by exact ⟨rfl, rfl, rfl, rfl, trivial⟩)
    obtain ⟨b8, o8, _, hat8, ⟨ca8, cb8, rfl, hca8, hcb8, hcs8⟩, hc8, hF8, hlt8⟩ := hO198.sl.loc.elem k (by omega) (by omega)
    replace hca8 := hca8.ofGF
    replace hcb8 := hcb8.ofGF
    obtain ⟨b9, o9, _, hat9, ⟨ca9, cb9, rfl, hca9, hcb9, hcs9⟩, hc9, hF9, hlt9⟩ := (hl.at0 hb128).elem i (by omega) (by omega)
    have hl_6 := Loc.lt hF9
    replace hca9 := hca9.ofGF
    replace hcb9 := hcb9.ofGF
    refine w_draw 16 (fun a b => a.grownBy b none) [(some 34, Is <| .int .i64 k), (some 35, Is <| vo), (some 36, Is <| .int .i64 (os.length : Int)), (some 37, Is <| .bool (decide (k < (os.length : Int)))), (some 38, Is <| .bool true), (some 39, Is <| vo), (some 40, Is <| .int .i64 k), (some 41, Is <| .pointer (some ⟨b8, o8, none⟩)), (some 42, Is <| .agg [.bool (decide ((ix os k).x < 0)), ca8, .bool (decide ((ix os k).y < 0)), cb8, .int .u8 ((ix os k).st)].toArray), (some 43, Is <| va), (some 44, Is <| .int .i64 i), (some 45, Is <| .pointer (some ⟨b9, o9, none⟩)), (some 46, Is <| .agg [.bool (decide ((ix l i).x < 0)), ca9, .bool (decide ((ix l i).y < 0)), cb9, .int .u8 ((ix l i).st)].toArray), (some 47, Is <| .int .i64 (ordC (ix os k) (ix l i))), (some 48, Is <| .bool (decide ((ordC (ix os k) (ix l i)) = 0))), (some 49, Is <| .bool (decide ((ordC (ix os k) (ix l i)) = 0)))] [[], [], [1], [0, 2], [3], [4], [4], [4, 5, 6], [4, 7], [4], [4], [4, 9, 10], [4, 11], [4, 8, 12], [4, 13], [4, 14]] [(0, va), (2, .slice none 0 0), (3, vo), (4, .int .i64 i), (5, .int .i64 k)] (by exact ⟨rfl, rfl, rfl, rfl, rfl, trivial⟩) (by kernel_rfl) (by kernel_rfl) grown_none_refl (fun _ _ _ => grown_none_trans) ⟨kv, kv, kv, kv, kv, kv, kv, kv, kv, kv, kv, kv, kv, kv, kv, kv, trivial⟩ ?_
    intro w138 k136 hs14
    have hb129 := below_g0 hb128 k136
    have hO199 := hO198.g0 k136
    refine ⟨⟨?_, ?_, ?_, ?_, ?_, ?_, ?_, ?_, ?_, ?_, ?_, ?_, ?_, ?_, ?_, ?_, trivial⟩, ?_⟩
    · intro w139 k137
      refine op1 (s_move rfl ?_)
      exact ⟨rfl, grown_none_refl _⟩
    · intro w140 k138
      refine op1 (s_move rfl ?_)
      exact ⟨rfl, grown_none_refl _⟩
    · intro w141 k139
      have hO202 := hO199.g0 k139
      intro v_ hv_; subst v_
      refine op1 (s_len sl39 rfl hO202.sl.loc ?_)
      exact ⟨rfl, grown_none_refl _⟩
    · intro w142 k140
      rintro _ rfl _ rfl
      refine op1 (s_lt rfl rfl ?_)
      exact ⟨rfl, grown_none_refl _⟩
    · intro w143 k141
      rintro _ rfl
      refine op1 (s_move rfl ?_)
      exact ⟨(by rw [decide_eq_true h6]), grown_none_refl _⟩
    · intro w144 k142
      rintro _ rfl
      refine op1g (s_move rfl ?_)
      exact ⟨rfl, grown_none_refl _⟩
    · intro w145 k143
      rintro _ rfl
      refine op1g (s_move rfl ?_)
      exact ⟨rfl, grown_none_refl _⟩
    · intro w146 k144
      rintro _ rfl
      intro v_ hv_; subst v_
      rintro _ rfl
      refine op1g (s_idxat sl39 rfl rfl hat8 ?_)
      exact ⟨rfl, grown_none_refl _⟩
    · intro w147 k145
      rintro _ rfl _ rfl
      refine op1g (s_loadW row47 rfl (range_g0 (range_g0 hc8 k136) k145) rfl ?_)
      exact ⟨rfl, grown_none_refl _⟩
    · intro w148 k146
      rintro _ rfl
      refine op1g (s_move rfl ?_)
      exact ⟨rfl, grown_none_refl _⟩
    · intro w149 k147
      rintro _ rfl
      refine op1g (s_move rfl ?_)
      exact ⟨rfl, grown_none_refl _⟩
    · intro w150 k148
      rintro _ rfl
      intro v_ hv_; subst v_
      rintro _ rfl
      refine op1g (s_idxat sl39 rfl rfl hat9 ?_)
      exact ⟨rfl, grown_none_refl _⟩
    · intro w151 k149
      rintro _ rfl _ rfl
      refine op1g (s_loadW row47 rfl (range_g0 (range_g0 hc9 k136) k149) rfl ?_)
      exact ⟨rfl, grown_none_refl _⟩
    · intro w152 k150
      have hb143 := below_g0 hb129 k150
      rintro _ rfl _ rfl _ rfl
      refine op1g (s_call fn52 rfl (order_any (a := (ix os k)) (b := (ix l i)) (n0 := n0) (below_n0 hn0 hb143) ((hca8.gg0 k136).gg0 k150) ((hcb8.gg0 k136).gg0 k150) ((hca9.gg0 k136).gg0 k150) ((hcb9.gg0 k136).gg0 k150) (Bd.le (cbd_ix hcbo (by omega) (by omega)).1 (show 50 ≤ 50 by decide)) (Bd.le (cbd_ix hcbo (by omega) (by omega)).2 (show 50 ≤ 50 by decide)) (Bd.le (cbd_ix hcb (by omega) (by omega)).1 (show 50 ≤ 50 by decide)) (Bd.le (cbd_ix hcb (by omega) (by omega)).2 (show 50 ≤ 50 by decide))) ?_)
      rintro _ w153 ⟨hq6, rfl⟩
      have k151 := grown_of_below hq6 none
      have hz34 := hq6.size
      have hb144 := below_g0 hb143 k151
      have hz35 := hb144.size
      exact ⟨rfl, k151⟩
    · intro w154 k152
      rintro _ rfl _ rfl
      refine op1g (s_eq rfl rfl ?_)
      exact ⟨rfl, grown_none_refl _⟩
    · intro w155 k153
      rintro _ rfl _ rfl
      refine op1 (s_pick rfl rfl ?_)
      exact ⟨rfl, grown_none_refl _⟩
    intro w156 k154
    have hb147 := below_g0 hb129 k154
    have hO217 := hO199.g0 k154
    have hz36 := k136.size
    have hz37 := k154.size
    rintro _ rfl
    intro v_ hv_; subst v_
    rintro _ rfl _ rfl _ rfl
    intro v_ hv_; subst v_
    rintro _ rfl _ rfl _ rfl
    intro v_ hv_; subst v_
    rintro _ rfl _ rfl _ rfl _ rfl _ rfl _ rfl
    refine st (s_assign rfl (r_end (n_then (w_seq (w_region (st (s_bslice0b (K := (Kd.cell 83 n0)) (base := w.heap.size) (F := (fun _ => False)) sl39 (hb147).size (fun _ h => h.elim) ?_)))))))
    intro g9 w157 hB9 hO218 k155
    have hb148 := below_g0 hb147 k155
    have hz38 := hb148.size
    have hO219 := hO217.g0 k155
    refine st (s_move rfl (st (s_move rfl (st (s_sllo sl39 rfl rfl hO219.sl.loc (by first | omega | (simp; omega)) (by first | omega | (simp; omega)) ?_)))))
    intro v36 hS16
    refine st (s_append0 sl39 rfl rfl hO218 (hS16).none (cell_gk 83 n0).ones (by simp; omega) (by simp; omega) (by omega) (fun _ h => h.elim) ?_)
    intro v37 w158 hO220 k156
    have hb149 := below_g0 hb148 k156
    have hz39 := hb149.size
    have hO221 := hO219.g0 k156
    refine st (s_assign rfl (r_end (n_then (w_seq (w_seq (w_region (st (s_move rfl ?_))))))))
    refine r_end (n_then ?_)
    refine w_condP rfl (fun h7 => ?_) (fun h7 => ?_)
    rotate_left
    · refine w_skip' (n_then ?_)
      obtain ⟨b11, o11, _, hat11, ⟨ca11, cb11, rfl, hca11, hcb11, hcs11⟩, hc11, hF11, hlt11⟩ := (hl.at0 hb149).elem i (by omega) (by omega)
      have hl_8 := Loc.lt hF11
      replace hca11 := hca11.ofGF
      replace hcb11 := hcb11.ofGF
      refine w_drawT 11 (fun a b => a.grownBy b none) [(some 58, Is <| vo), (some 59, Is <| .int .i64 k), (some 60, Is <| .int .i64 k), (some 61, fun v W => SlC (Kd.cell 83 n0) W (fun _ => False) v (os.take (k).toNat)), (some 62, Is <| va), (some 63, Is <| .int .i64 i), (some 64, Is <| .pointer (some ⟨b11, o11, none⟩)), (some 65, Is <| .agg [.bool (decide ((ix l i).x < 0)), ca11, .bool (decide ((ix l i).y < 0)), cb11, .int .u8 ((ix l i).st)].toArray), (some 66, fun v W => Sl (Kd.cell 83 n0) W (fun _ => False) v [(ix l i)]), (some 67, fun v W => Gw.Own (Kd.cell 83 n0) 47 w158.heap.size W (fun _ => False) v ((os.take (k).toNat) ++ [(ix l i)])), (some 68, Is <| v37)] [[], [], [], [0, 1, 2], [], [], [4, 5], [6], [7], [3, 8], []] [(0, va), (2, .slice none 0 0), (3, vo), (4, .int .i64 i), (5, .int .i64 k), (7, v37)] (by exact ⟨rfl, rfl, rfl, rfl, rfl, rfl, trivial⟩) (by kernel_rfl) (by kernel_rfl) grown_none_refl (fun _ _ _ => grown_none_trans) ⟨kv, kv, kv, fun _ _ _ h k => h.g0 k, kv, kv, kv, kv, fun _ _ _ h k => h.g0 k, fun _ _ _ h k => h.g0 k, kv, trivial⟩ ?_
      intro w179 k177 hs19
      have hb166 := below_g0 hb149 k177
      have hO262 := hO221.g0 k177
      have hO263 := hO220.g0 k177
      refine ⟨⟨?_, ?_, ?_, ?_, ?_, ?_, ?_, ?_, ?_, ?_, ?_, trivial⟩, ?_⟩
      · intro w180 k178
        refine op1 (s_move rfl ?_)
        exact ⟨rfl, grown_none_refl _⟩
      · intro w181 k179
        refine op1 (s_move rfl ?_)
        exact ⟨rfl, grown_none_refl _⟩
      · intro w182 k180
        refine op1 (s_move rfl ?_)
        exact ⟨rfl, grown_none_refl _⟩
      · intro w183 k181
        have hO270 := hO262.g0 k181
        intro v_ hv_; subst v_
        rintro _ rfl _ rfl
        refine op1 (s_slcap sl39 rfl rfl rfl (hO270.sl.loc).none (by first | omega | (simp; omega)) (by first | omega | (simp; omega)) ?_)
        intro v51 hC18
        exact ⟨hC18, grown_none_refl _⟩
      · intro w184 k182
        refine op1 (s_move rfl ?_)
        exact ⟨rfl, grown_none_refl _⟩
      · intro w185 k183
        refine op1 (s_move rfl ?_)
        exact ⟨rfl, grown_none_refl _⟩
      · intro w186 k184
        intro v_ hv_; subst v_
        rintro _ rfl
        refine op1 (s_idxat sl39 rfl rfl hat11 ?_)
        exact ⟨rfl, grown_none_refl _⟩
      · intro w187 k185
        rintro _ rfl
        refine op1 (s_loadW row47 rfl (range_g0 (range_g0 hc11 k177) k185) rfl ?_)
        exact ⟨rfl, grown_none_refl _⟩
      · intro w188 k186
        have hb175 := below_g0 hb166 k186
        rintro _ rfl
        refine op1 (s_bslice (ps := [(0, .tmp 65)]) (ccs := [#[.bool (decide ((ix l i).x < 0)), ca11, .bool (decide ((ix l i).y < 0)), cb11, .int .u8 ((ix l i).st)]]) (e := 47) (cells := [.bool (decide ((ix l i).x < 0)), ca11, .bool (decide ((ix l i).y < 0)), cb11, .int .u8 ((ix l i).st)]) rfl rfl (by kernel_rfl) (by decide) nz47 ?_)
        intro g13 w189 hg10 hB13 k187 hs20
        have hb176 := below_g0 hb175 k187
        have hz45 := hb176.size
        have hS23 : Sl (Kd.cell 83 n0) w189 (fun _ => False) (.slice (some ⟨g13, 0, none⟩) 1 1) [(ix l i)] := lit_cell (c := (ix l i)) hB13 (((hca11.gg0 k177).gg0 k186).gg0 k187) (((hcb11.gg0 k177).gg0 k186).gg0 k187) hcs11
        exact ⟨hS23, k187⟩
      · intro w190 k188
        have hb177 := below_g0 hb166 k188
        rintro v52 hC19 v53 hS24
        refine op1 (s_appfull (K := (Kd.cell 83 n0)) sl39 rfl rfl hC19 (hS24).none (by simp) (cell_gk 83 n0).ones (by simp; omega) (by simp; omega) (fun _ h => h.elim) ?_)
        intro v54 w191 hO286 k189 hr25
        have hO287 := hO286.rebase (b' := w158.heap.size) (by have h0_ := k154.size; have h1_ := k155.size; have h2_ := k156.size; have h3_ := k177.size; have h4_ := k188.size; have h5_ := k189.size; omega)
        have hb178 := below_g0 hb177 k189
        have hz46 := hb178.size
        exact ⟨hO287, k189⟩
      · intro w192 k190
        refine op1 (s_move rfl ?_)
        exact ⟨rfl, grown_none_refl _⟩
      intro w193 k191
      have hb180 := below_g0 hb166 k191
      have hO293 := hO263.g0 k191
      have hz47 := k177.size
      have hz48 := k191.size
      intro v_ hv_; subst v_
      rintro _ rfl _ rfl v55 hC20
      intro v_ hv_; subst v_
      rintro _ rfl _ rfl _ rfl v56 hS25 v57 hO294
      have hO295 := hO294.rebase (b' := w.heap.size) (by omega)
      intro v_ hv_; subst v_
      refine st (s_append (K := (Kd.cell 83 n0)) sl39 rfl rfl hO295 (Own.srcG (cell_free 83 n0) hO293 hO295 (by decide) (by omega) (fun g_ h_ e_ => by have h8 := (hO294.lt g_ h_).1; have h9 := (hO220.lt g_ e_).2; omega)) (cell_gk 83 n0).ones (by simp; omega) (by simp; omega) (by first | exact Nat.le_refl _ | omega | (have h0_ := k134.size; have h1_ := k136.size; have h2_ := k154.size; have h3_ := k155.size; have h4_ := k156.size; have h5_ := k177.size; have h6_ := k191.size; omega)) (fun _ h => h.elim) ?_)
      intro v58 w194 hO296 k192 hr26
      have hb181 := hb180.grown k192 hb180.size (fun k_ hk_ => by have h9_ := (hO295.lt k_ hk_).1; omega)
      have hz49 := hb181.size
      refine st (s_assign rfl (r_end (n_block (n_then (w_region (st (s_move rfl (st (s_add rfl rfl (by omega) ?_)))))))))
      refine st (s_assign rfl (r_end ?_))
      exact n_round (((i + 1)), (v58), ((insC os (ix l i)))) ⟨hb181, by omega, (by rw [← insC_new (by omega) (by omega) hat (fun hz => ⟨(absurd hz (by omega)), h7⟩)]; exact hO296), lastA_step hi.1 hlt hos⟩ (by dsimp only; omega) (by exact ⟨rfl, rfl, rfl, rfl, trivial⟩)
    refine w_region (st (s_move rfl (st (s_sllo sl39 rfl rfl hO220.sl.loc (by first | omega | (simp; omega)) (by first | omega | (simp; omega)) ?_))))
    intro v38 hS17
    refine st (s_assign rfl (r_end (n_then ?_)))
    obtain ⟨b10, o10, _, hat10, ⟨ca10, cb10, rfl, hca10, hcb10, hcs10⟩, hc10, hF10, hlt10⟩ := (hl.at0 hb149).elem i (by omega) (by omega)
    have hl_7 := Loc.lt hF10
    replace hca10 := hca10.ofGF
    replace hcb10 := hcb10.ofGF
    refine w_drawT 11 (fun a b => a.grownBy b none) [(some 58, Is <| vo), (some 59, Is <| .int .i64 k), (some 60, Is <| .int .i64 k), (some 61, fun v W => SlC (Kd.cell 83 n0) W (fun _ => False) v (os.take (k).toNat)), (some 62, Is <| va), (some 63, Is <| .int .i64 i), (some 64, Is <| .pointer (some ⟨b10, o10, none⟩)), (some 65, Is <| .agg [.bool (decide ((ix l i).x < 0)), ca10, .bool (decide ((ix l i).y < 0)), cb10, .int .u8 ((ix l i).st)].toArray), (some 66, fun v W => Sl (Kd.cell 83 n0) W (fun _ => False) v [(ix l i)]), (some 67, fun v W => Gw.Own (Kd.cell 83 n0) 47 w158.heap.size W (fun _ => False) v ((os.take (k).toNat) ++ [(ix l i)])), (some 68, Is <| v38)] [[], [], [], [0, 1, 2], [], [], [4, 5], [6], [7], [3, 8], []] [(0, va), (2, .slice none 0 0), (3, vo), (4, .int .i64 i), (5, .int .i64 k), (7, v38)] (by exact ⟨rfl, rfl, rfl, rfl, rfl, rfl, trivial⟩) (by kernel_rfl) (by kernel_rfl) grown_none_refl (fun _ _ _ => grown_none_trans) ⟨kv, kv, kv, fun _ _ _ h k => h.g0 k, kv, kv, kv, kv, fun _ _ _ h k => h.g0 k, fun _ _ _ h k => h.g0 k, kv, trivial⟩ ?_
    intro w161 k159 hs16
    have hb150 := below_g0 hb149 k159
    have hO224 := hO221.g0 k159
    refine ⟨⟨?_, ?_, ?_, ?_, ?_, ?_, ?_, ?_, ?_, ?_, ?_, trivial⟩, ?_⟩
    · intro w162 k160
      refine op1 (s_move rfl ?_)
      exact ⟨rfl, grown_none_refl _⟩
    · intro w163 k161
      refine op1 (s_move rfl ?_)
      exact ⟨rfl, grown_none_refl _⟩
    · intro w164 k162
      refine op1 (s_move rfl ?_)
      exact ⟨rfl, grown_none_refl _⟩
    · intro w165 k163
      have hO232 := hO224.g0 k163
      intro v_ hv_; subst v_
      rintro _ rfl _ rfl
      refine op1 (s_slcap sl39 rfl rfl rfl (hO232.sl.loc).none (by first | omega | (simp; omega)) (by first | omega | (simp; omega)) ?_)
      intro v41 hC14
      exact ⟨hC14, grown_none_refl _⟩
    · intro w166 k164
      refine op1 (s_move rfl ?_)
      exact ⟨rfl, grown_none_refl _⟩
    · intro w167 k165
      refine op1 (s_move rfl ?_)
      exact ⟨rfl, grown_none_refl _⟩
    · intro w168 k166
      intro v_ hv_; subst v_
      rintro _ rfl
      refine op1 (s_idxat sl39 rfl rfl hat10 ?_)
      exact ⟨rfl, grown_none_refl _⟩
    · intro w169 k167
      rintro _ rfl
      refine op1 (s_loadW row47 rfl (range_g0 (range_g0 hc10 k159) k167) rfl ?_)
      exact ⟨rfl, grown_none_refl _⟩
    · intro w170 k168
      have hb159 := below_g0 hb150 k168
      rintro _ rfl
      refine op1 (s_bslice (ps := [(0, .tmp 65)]) (ccs := [#[.bool (decide ((ix l i).x < 0)), ca10, .bool (decide ((ix l i).y < 0)), cb10, .int .u8 ((ix l i).st)]]) (e := 47) (cells := [.bool (decide ((ix l i).x < 0)), ca10, .bool (decide ((ix l i).y < 0)), cb10, .int .u8 ((ix l i).st)]) rfl rfl (by kernel_rfl) (by decide) nz47 ?_)
      intro g11 w171 hg8 hB11 k169 hs17
      have hb160 := below_g0 hb159 k169
      have hz40 := hb160.size
      have hS19 : Sl (Kd.cell 83 n0) w171 (fun _ => False) (.slice (some ⟨g11, 0, none⟩) 1 1) [(ix l i)] := lit_cell (c := (ix l i)) hB11 (((hca10.gg0 k159).gg0 k168).gg0 k169) (((hcb10.gg0 k159).gg0 k168).gg0 k169) hcs10
      exact ⟨hS19, k169⟩
    · intro w172 k170
      have hb161 := below_g0 hb150 k170
      rintro v42 hC15 v43 hS20
      refine op1 (s_appfull (K := (Kd.cell 83 n0)) sl39 rfl rfl hC15 (hS20).none (by simp) (cell_gk 83 n0).ones (by simp; omega) (by simp; omega) (fun _ h => h.elim) ?_)
      intro v44 w173 hO248 k171 hr21
      have hO249 := hO248.rebase (b' := w158.heap.size) (by have h0_ := k154.size; have h1_ := k155.size; have h2_ := k156.size; have h3_ := k159.size; have h4_ := k170.size; have h5_ := k171.size; omega)
      have hb162 := below_g0 hb161 k171
      have hz41 := hb162.size
      exact ⟨hO249, k171⟩
    · intro w174 k172
      refine op1 (s_move rfl ?_)
      exact ⟨rfl, grown_none_refl _⟩
    intro w175 k173
    have hb164 := below_g0 hb150 k173
    have hz42 := k159.size
    have hz43 := k173.size
    intro v_ hv_; subst v_
    rintro _ rfl _ rfl v45 hC16
    intro v_ hv_; subst v_
    rintro _ rfl _ rfl _ rfl v46 hS21 v47 hO256
    have hO257 := hO256.rebase (b' := w.heap.size) (by omega)
    intro v_ hv_; subst v_
    refine st (s_append (K := (Kd.cell 83 n0)) sl39 rfl rfl hO257 (Sl.srcG (cell_free 83 n0) ((hS17.g0 k159).g0 k173) hO257 (by decide) (by omega) (fun g_ h_ => by have h9_ := (hO256.lt g_ h_).1; have h0_ := k159.size; have h1_ := k173.size; omega)) (cell_gk 83 n0).ones (by simp; omega) (by simp; omega) (by first | exact Nat.le_refl _ | omega | (have h0_ := k134.size; have h1_ := k136.size; have h2_ := k154.size; have h3_ := k155.size; have h4_ := k156.size; have h5_ := k159.size; have h6_ := k173.size; omega)) (fun _ h => h.elim) ?_)
    intro v48 w176 hO258 k174 hr22
    have hb165 := hb164.grown k174 hb164.size (fun k_ hk_ => by have h9_ := (hO257.lt k_ hk_).1; omega)
    have hz44 := hb165.size
    refine st (s_assign rfl (r_end (n_block (n_then (w_region (st (s_move rfl (st (s_add rfl rfl (by omega) ?_)))))))))
    refine st (s_assign rfl (r_end ?_))
    exact n_round (((i + 1)), (v48), ((insC os (ix l i)))) ⟨hb165, by omega, (by rw [← insC_same (by omega) (by omega) hat h7]; exact hO258), lastA_step hi.1 hlt hos⟩ (by dsimp only; omega) (by exact ⟨rfl, rfl, rfl, rfl, trivial⟩)
  obtain ⟨b1, o1, _, hat1, ⟨ca1, cb1, rfl, hca1, hcb1, hcs1⟩, hc1, hF1, hlt1⟩ := hOk.sl.loc.elem k (by omega) (by omega)
  replace hca1 := hca1.ofGF
  replace hcb1 := hcb1.ofGF
  obtain ⟨b2, o2, _, hat2, ⟨ca2, cb2, rfl, hca2, hcb2, hcs2⟩, hc2, hF2, hlt2⟩ := (hl.at0 hb2).elem i (by omega) (by omega)
  have hl_1 := Loc.lt hF2
  replace hca2 := hca2.ofGF
  replace hcb2 := hcb2.ofGF
  refine w_draw 16 (fun a b => a.grownBy b none) [(some 16, Is <| .int .i64 k), (some 17, Is <| vo), (some 18, Is <| .int .i64 (os.length : Int)), (some 19, Is <| .bool (decide (k < (os.length : Int)))), (some 20, Is <| .bool true), (some 21, Is <| vo), (some 22, Is <| .int .i64 k), (some 23, Is <| .pointer (some ⟨b1, o1, none⟩)), (some 24, Is <| .agg [.bool (decide ((ix os k).x < 0)), ca1, .bool (decide ((ix os k).y < 0)), cb1, .int .u8 ((ix os k).st)].toArray), (some 25, Is <| va), (some 26, Is <| .int .i64 i), (some 27, Is <| .pointer (some ⟨b2, o2, none⟩)), (some 28, Is <| .agg [.bool (decide ((ix l i).x < 0)), ca2, .bool (decide ((ix l i).y < 0)), cb2, .int .u8 ((ix l i).st)].toArray), (some 29, Is <| .int .i64 (ordC (ix os k) (ix l i))), (some 30, Is <| .bool (decide ((ordC (ix os k) (ix l i)) < 0))), (some 31, Is <| .bool (decide ((ordC (ix os k) (ix l i)) < 0)))] [[], [], [1], [0, 2], [3], [4], [4], [4, 5, 6], [4, 7], [4], [4], [4, 9, 10], [4, 11], [4, 8, 12], [4, 13], [4, 14]] [(0, va), (2, .slice none 0 0), (3, vo), (4, .int .i64 i), (5, .int .i64 k)] (by exact ⟨rfl, rfl, rfl, rfl, rfl, trivial⟩) (by kernel_rfl) (by kernel_rfl) grown_none_refl (fun _ _ _ => grown_none_trans) ⟨kv, kv, kv, kv, kv, kv, kv, kv, kv, kv, kv, kv, kv, kv, kv, kv, trivial⟩ ?_
  intro w4 k2 hs1
  have hb3 := below_g0 hb2 k2
  have hO1 := hOk.g0 k2
  refine ⟨⟨?_, ?_, ?_, ?_, ?_, ?_, ?_, ?_, ?_, ?_, ?_, ?_, ?_, ?_, ?_, ?_, trivial⟩, ?_⟩
  · intro w5 k3
    refine op1 (s_move rfl ?_)
    exact ⟨rfl, grown_none_refl _⟩
  · intro w6 k4
    refine op1 (s_move rfl ?_)
    exact ⟨rfl, grown_none_refl _⟩
  · intro w7 k5
    have hO4 := hO1.g0 k5
    intro v_ hv_; subst v_
    refine op1 (s_len sl39 rfl hO4.sl.loc ?_)
    exact ⟨rfl, grown_none_refl _⟩
  · intro w8 k6
    rintro _ rfl _ rfl
    refine op1 (s_lt rfl rfl ?_)
    exact ⟨rfl, grown_none_refl _⟩
  · intro w9 k7
    rintro _ rfl
    refine op1 (s_move rfl ?_)
    exact ⟨(by rw [decide_eq_true h2]), grown_none_refl _⟩
  · intro w10 k8
    rintro _ rfl
    refine op1g (s_move rfl ?_)
    exact ⟨rfl, grown_none_refl _⟩
  · intro w11 k9
    rintro _ rfl
    refine op1g (s_move rfl ?_)
    exact ⟨rfl, grown_none_refl _⟩
  · intro w12 k10
    rintro _ rfl
    intro v_ hv_; subst v_
    rintro _ rfl
    refine op1g (s_idxat sl39 rfl rfl hat1 ?_)
    exact ⟨rfl, grown_none_refl _⟩
  · intro w13 k11
    rintro _ rfl _ rfl
    refine op1g (s_loadW row47 rfl (range_g0 (range_g0 hc1 k2) k11) rfl ?_)
    exact ⟨rfl, grown_none_refl _⟩
  · intro w14 k12
    rintro _ rfl
    refine op1g (s_move rfl ?_)
    exact ⟨rfl, grown_none_refl _⟩
  · intro w15 k13
    rintro _ rfl
    refine op1g (s_move rfl ?_)
    exact ⟨rfl, grown_none_refl _⟩
  · intro w16 k14
    rintro _ rfl
    intro v_ hv_; subst v_
    rintro _ rfl
    refine op1g (s_idxat sl39 rfl rfl hat2 ?_)
    exact ⟨rfl, grown_none_refl _⟩
  · intro w17 k15
    rintro _ rfl _ rfl
    refine op1g (s_loadW row47 rfl (range_g0 (range_g0 hc2 k2) k15) rfl ?_)
    exact ⟨rfl, grown_none_refl _⟩
  · intro w18 k16
    have hb17 := below_g0 hb3 k16
    rintro _ rfl _ rfl _ rfl
    refine op1g (s_call fn52 rfl (order_any (a := (ix os k)) (b := (ix l i)) (n0 := n0) (below_n0 hn0 hb17) ((hca1.gg0 k2).gg0 k16) ((hcb1.gg0 k2).gg0 k16) ((hca2.gg0 k2).gg0 k16) ((hcb2.gg0 k2).gg0 k16) (Bd.le (cbd_ix hcbo (by omega) (by omega)).1 (show 50 ≤ 50 by decide)) (Bd.le (cbd_ix hcbo (by omega) (by omega)).2 (show 50 ≤ 50 by decide)) (Bd.le (cbd_ix hcb (by omega) (by omega)).1 (show 50 ≤ 50 by decide)) (Bd.le (cbd_ix hcb (by omega) (by omega)).2 (show 50 ≤ 50 by decide))) ?_)
    rintro _ w19 ⟨hq2, rfl⟩
    have k17 := grown_of_below hq2 none
    have hz3 := hq2.size
    have hb18 := below_g0 hb17 k17
    have hz4 := hb18.size
    exact ⟨rfl, k17⟩
  · intro w20 k18
    rintro _ rfl _ rfl
    refine op1g (s_lt rfl rfl ?_)
    exact ⟨rfl, grown_none_refl _⟩
  · intro w21 k19
    rintro _ rfl _ rfl
    refine op1 (s_pick rfl rfl ?_)
    exact ⟨rfl, grown_none_refl _⟩
  intro w22 k20
  have hb21 := below_g0 hb3 k20
  have hO19 := hO1.g0 k20
  have hz5 := k2.size
  have hz6 := k20.size
  rintro _ rfl
  intro v_ hv_; subst v_
  rintro _ rfl _ rfl _ rfl
  intro v_ hv_; subst v_
  rintro _ rfl _ rfl _ rfl
  intro v_ hv_; subst v_
  rintro _ rfl _ rfl _ rfl _ rfl _ rfl _ rfl
  refine r_end (n_then ?_)
  refine w_condP rfl (fun h3 => ?_) (fun h3 => ?_)
  · refine w_skip' (n_then (w_block (w_region (st (s_move rfl (st (s_add rfl rfl (by omega) (st (s_assign rfl ?_)))))))))
    refine r_end (n_block ?_)
    exact n_round ((k + 1)) ⟨hb21, by omega, hO19, fun j j0 j1 => if e : j = k then by rw [e]; exact h3 else hat j j0 (by omega)⟩ (by omega) (by exact ⟨rfl, rfl, rfl, rfl, rfl, trivial⟩)
  refine w_exit' (n_then_exit (n_then_exit (n_block_exit (n_then (w_seq ?_)))))
  by_cases h4 : k < (os.length : Int)
  rotate_left
  · refine w_draw 16 (fun a b => a.grownBy b none) [(some 34, Is <| .int .i64 k), (some 35, Is <| vo), (some 36, Is <| .int .i64 (os.length : Int)), (some 37, Is <| .bool (decide (k < (os.length : Int)))), (some 38, Is <| .bool false), (some 39, Is <| undef), (some 40, Is <| undef), (some 41, Is <| undef), (some 42, Is <| undef), (some 43, Is <| undef), (some 44, Is <| undef), (some 45, Is <| undef), (some 46, Is <| undef), (some 47, Is <| undef), (some 48, Is <| undef), (some 49, Is <| .bool false)] [[], [], [1], [0, 2], [3], [4], [4], [4, 5, 6], [4, 7], [4], [4], [4, 9, 10], [4, 11], [4, 8, 12], [4, 13], [4, 14]] [(0, va), (2, .slice none 0 0), (3, vo), (4, .int .i64 i), (5, .int .i64 k)] (by exact ⟨rfl, rfl, rfl, rfl, rfl, trivial⟩) (by kernel_rfl) (by kernel_rfl) grown_none_refl (fun _ _ _ => grown_none_trans) ⟨kv, kv, kv, kv, kv, kv, kv, kv, kv, kv, kv, kv, kv, kv, kv, kv, trivial⟩ ?_
    intro w81 k79 hs9
    have hb75 := below_g0 hb21 k79
    have hO120 := hO19.g0 k79
    refine ⟨⟨?_, ?_, ?_, ?_, ?_, ?_, ?_, ?_, ?_, ?_, ?_, ?_, ?_, ?_, ?_, ?_, trivial⟩, ?_⟩
    · intro w82 k80
      refine op1 (s_move rfl ?_)
      exact ⟨rfl, grown_none_refl _⟩
    · intro w83 k81
      refine op1 (s_move rfl ?_)
      exact ⟨rfl, grown_none_refl _⟩
    · intro w84 k82
      have hO123 := hO120.g0 k82
      intro v_ hv_; subst v_
      refine op1 (s_len sl39 rfl hO123.sl.loc ?_)
      exact ⟨rfl, grown_none_refl _⟩
    · intro w85 k83
      rintro _ rfl _ rfl
      refine op1 (s_lt rfl rfl ?_)
      exact ⟨rfl, grown_none_refl _⟩
    · intro w86 k84
      rintro _ rfl
      refine op1 (s_move rfl ?_)
      exact ⟨(by rw [decide_eq_false h4]), grown_none_refl _⟩
    · intro w87 k85
      rintro _ rfl
      refine op1p ⟨rfl, grown_none_refl _⟩
    · intro w88 k86
      rintro _ rfl
      refine op1p ⟨rfl, grown_none_refl _⟩
    · intro w89 k87
      rintro _ rfl
      intro v_ hv_; subst v_
      intro v_ hv_; subst v_
      refine op1p ⟨rfl, grown_none_refl _⟩
    · intro w90 k88
      rintro _ rfl
      intro v_ hv_; subst v_
      refine op1p ⟨rfl, grown_none_refl _⟩
    · intro w91 k89
      rintro _ rfl
      refine op1p ⟨rfl, grown_none_refl _⟩
    · intro w92 k90
      rintro _ rfl
      refine op1p ⟨rfl, grown_none_refl _⟩
    · intro w93 k91
      rintro _ rfl
      intro v_ hv_; subst v_
      intro v_ hv_; subst v_
      refine op1p ⟨rfl, grown_none_refl _⟩
    · intro w94 k92
      rintro _ rfl
      intro v_ hv_; subst v_
      refine op1p ⟨rfl, grown_none_refl _⟩
    · intro w95 k93
      rintro _ rfl
      intro v_ hv_; subst v_
      intro v_ hv_; subst v_
      refine op1p ⟨rfl, grown_none_refl _⟩
    · intro w96 k94
      rintro _ rfl
      intro v_ hv_; subst v_
      refine op1p ⟨rfl, grown_none_refl _⟩
    · intro w97 k95
      rintro _ rfl
      intro v_ hv_; subst v_
      refine op1 (s_pick rfl rfl ?_)
      exact ⟨rfl, grown_none_refl _⟩
    intro w98 k96
    have hb92 := below_g0 hb75 k96
    have hO137 := hO120.g0 k96
    have hz23 := k79.size
    have hz24 := k96.size
    rintro _ rfl
    intro v_ hv_; subst v_
    rintro _ rfl _ rfl _ rfl
    intro v_ hv_; subst v_
    intro v_ hv_; subst v_
    intro v_ hv_; subst v_
    intro v_ hv_; subst v_
    intro v_ hv_; subst v_
    intro v_ hv_; subst v_
    intro v_ hv_; subst v_
    intro v_ hv_; subst v_
    intro v_ hv_; subst v_
    intro v_ hv_; subst v_
    rintro _ rfl
    refine st (s_assign rfl (r_end (n_then (w_seq (w_region (st (s_bslice0b (K := (Kd.cell 83 n0)) (base := w.heap.size) (F := (fun _ => False)) sl39 (hb92).size (fun _ h => h.elim) ?_)))))))
    intro g6 w99 hB6 hO138 k97
    have hb93 := below_g0 hb92 k97
    have hz25 := hb93.size
    have hO139 := hO137.g0 k97
    refine st (s_move rfl (st (s_move rfl (st (s_sllo sl39 rfl rfl hO139.sl.loc (by first | omega | (simp; omega)) (by first | omega | (simp; omega)) ?_)))))
    intro v24 hS11
    refine st (s_append0 sl39 rfl rfl hO138 (hS11).none (cell_gk 83 n0).ones (by simp; omega) (by simp; omega) (by omega) (fun _ h => h.elim) ?_)
    intro v25 w100 hO140 k98
    have hb94 := below_g0 hb93 k98
    have hz26 := hb94.size
    have hO141 := hO139.g0 k98
    refine st (s_assign rfl (r_end (n_then (w_seq (w_seq (w_region (st (s_move rfl ?_))))))))
    refine r_end (n_then (w_condF rfl (w_skip' (n_then ?_))))
    obtain ⟨b7, o7, _, hat7, ⟨ca7, cb7, rfl, hca7, hcb7, hcs7⟩, hc7, hF7, hlt7⟩ := (hl.at0 hb94).elem i (by omega) (by omega)
    have hl_5 := Loc.lt hF7
    replace hca7 := hca7.ofGF
    replace hcb7 := hcb7.ofGF
    refine w_drawT 11 (fun a b => a.grownBy b none) [(some 58, Is <| vo), (some 59, Is <| .int .i64 k), (some 60, Is <| .int .i64 k), (some 61, fun v W => SlC (Kd.cell 83 n0) W (fun _ => False) v (os.take (k).toNat)), (some 62, Is <| va), (some 63, Is <| .int .i64 i), (some 64, Is <| .pointer (some ⟨b7, o7, none⟩)), (some 65, Is <| .agg [.bool (decide ((ix l i).x < 0)), ca7, .bool (decide ((ix l i).y < 0)), cb7, .int .u8 ((ix l i).st)].toArray), (some 66, fun v W => Sl (Kd.cell 83 n0) W (fun _ => False) v [(ix l i)]), (some 67, fun v W => Gw.Own (Kd.cell 83 n0) 47 w100.heap.size W (fun _ => False) v ((os.take (k).toNat) ++ [(ix l i)])), (some 68, Is <| v25)] [[], [], [], [0, 1, 2], [], [], [4, 5], [6], [7], [3, 8], []] [(0, va), (2, .slice none 0 0), (3, vo), (4, .int .i64 i), (5, .int .i64 k), (7, v25)] (by exact ⟨rfl, rfl, rfl, rfl, rfl, rfl, trivial⟩) (by kernel_rfl) (by kernel_rfl) grown_none_refl (fun _ _ _ => grown_none_trans) ⟨kv, kv, kv, fun _ _ _ h k => h.g0 k, kv, kv, kv, kv, fun _ _ _ h k => h.g0 k, fun _ _ _ h k => h.g0 k, kv, trivial⟩ ?_
    intro w103 k101 hs11
    have hb95 := below_g0 hb94 k101
    have hO144 := hO141.g0 k101
    have hO145 := hO140.g0 k101
    refine ⟨⟨?_, ?_, ?_, ?_, ?_, ?_, ?_, ?_, ?_, ?_, ?_, trivial⟩, ?_⟩
    · intro w104 k102
      refine op1 (s_move rfl ?_)
      exact ⟨rfl, grown_none_refl _⟩
    · intro w105 k103
      refine op1 (s_move rfl ?_)
      exact ⟨rfl, grown_none_refl _⟩
    · intro w106 k104
      refine op1 (s_move rfl ?_)
      exact ⟨rfl, grown_none_refl _⟩
    · intro w107 k105
      have hO152 := hO144.g0 k105
      intro v_ hv_; subst v_
      rintro _ rfl _ rfl
      refine op1 (s_slcap sl39 rfl rfl rfl (hO152.sl.loc).none (by first | omega | (simp; omega)) (by first | omega | (simp; omega)) ?_)
      intro v28 hC10
      exact ⟨hC10, grown_none_refl _⟩
    · intro w108 k106
      refine op1 (s_move rfl ?_)
      exact ⟨rfl, grown_none_refl _⟩
    · intro w109 k107
      refine op1 (s_move rfl ?_)
      exact ⟨rfl, grown_none_refl _⟩
    · intro w110 k108
      intro v_ hv_; subst v_
      rintro _ rfl
      refine op1 (s_idxat sl39 rfl rfl hat7 ?_)
      exact ⟨rfl, grown_none_refl _⟩
    · intro w111 k109
      rintro _ rfl
      refine op1 (s_loadW row47 rfl (range_g0 (range_g0 hc7 k101) k109) rfl ?_)
      exact ⟨rfl, grown_none_refl _⟩
    · intro w112 k110
      have hb104 := below_g0 hb95 k110
      rintro _ rfl
      refine op1 (s_bslice (ps := [(0, .tmp 65)]) (ccs := [#[.bool (decide ((ix l i).x < 0)), ca7, .bool (decide ((ix l i).y < 0)), cb7, .int .u8 ((ix l i).st)]]) (e := 47) (cells := [.bool (decide ((ix l i).x < 0)), ca7, .bool (decide ((ix l i).y < 0)), cb7, .int .u8 ((ix l i).st)]) rfl rfl (by kernel_rfl) (by decide) nz47 ?_)
      intro g8 w113 hg6 hB8 k111 hs12
      have hb105 := below_g0 hb104 k111
      have hz27 := hb105.size
      have hS13 : Sl (Kd.cell 83 n0) w113 (fun _ => False) (.slice (some ⟨g8, 0, none⟩) 1 1) [(ix l i)] := lit_cell (c := (ix l i)) hB8 (((hca7.gg0 k101).gg0 k110).gg0 k111) (((hcb7.gg0 k101).gg0 k110).gg0 k111) hcs7
      exact ⟨hS13, k111⟩
    · intro w114 k112
      have hb106 := below_g0 hb95 k112
      rintro v29 hC11 v30 hS14
      refine op1 (s_appfull (K := (Kd.cell 83 n0)) sl39 rfl rfl hC11 (hS14).none (by simp) (cell_gk 83 n0).ones (by simp; omega) (by simp; omega) (fun _ h => h.elim) ?_)
      intro v31 w115 hO168 k113 hr15
      have hO169 := hO168.rebase (b' := w100.heap.size) (by have h0_ := k96.size; have h1_ := k97.size; have h2_ := k98.size; have h3_ := k101.size; have h4_ := k112.size; have h5_ := k113.size; omega)
      have hb107 := below_g0 hb106 k113
      have hz28 := hb107.size
      exact ⟨hO169, k113⟩
    · intro w116 k114
      refine op1 (s_move rfl ?_)
      exact ⟨rfl, grown_none_refl _⟩
    intro w117 k115
    have hb109 := below_g0 hb95 k115
    have hO175 := hO145.g0 k115
    have hz29 := k101.size
    have hz30 := k115.size
    intro v_ hv_; subst v_
    rintro _ rfl _ rfl v32 hC12
    intro v_ hv_; subst v_
    rintro _ rfl _ rfl _ rfl v33 hS15 v34 hO176
    have hO177 := hO176.rebase (b' := w.heap.size) (by omega)
    intro v_ hv_; subst v_
    refine st (s_append (K := (Kd.cell 83 n0)) sl39 rfl rfl hO177 (Own.srcG (cell_free 83 n0) hO175 hO177 (by decide) (by omega) (fun g_ h_ e_ => by have h8 := (hO176.lt g_ h_).1; have h9 := (hO140.lt g_ e_).2; omega)) (cell_gk 83 n0).ones (by simp; omega) (by simp; omega) (by first | exact Nat.le_refl _ | omega | (have h0_ := k20.size; have h1_ := k79.size; have h2_ := k96.size; have h3_ := k97.size; have h4_ := k98.size; have h5_ := k101.size; have h6_ := k115.size; omega)) (fun _ h => h.elim) ?_)
    intro v35 w118 hO178 k116 hr16
    have hb110 := hb109.grown k116 hb109.size (fun k_ hk_ => by have h9_ := (hO177.lt k_ hk_).1; omega)
    have hz31 := hb110.size
    refine st (s_assign rfl (r_end (n_block (n_then (w_region (st (s_move rfl (st (s_add rfl rfl (by omega) ?_)))))))))
    refine st (s_assign rfl (r_end ?_))
    exact n_round (((i + 1)), (v35), ((insC os (ix l i)))) ⟨hb110, by omega, (by rw [← insC_new (by omega) (by omega) hat (fun hz => ⟨h3, (absurd hz (by omega))⟩)]; exact hO178), lastA_step hi.1 hlt hos⟩ (by dsimp only; omega) (by exact ⟨rfl, rfl, rfl, rfl, trivial⟩)
  obtain ⟨b3, o3, _, hat3, ⟨ca3, cb3, rfl, hca3, hcb3, hcs3⟩, hc3, hF3, hlt3⟩ := hO19.sl.loc.elem k (by omega) (by omega)
  replace hca3 := hca3.ofGF
  replace hcb3 := hcb3.ofGF
  obtain ⟨b4, o4, _, hat4, ⟨ca4, cb4, rfl, hca4, hcb4, hcs4⟩, hc4, hF4, hlt4⟩ := (hl.at0 hb21).elem i (by omega) (by omega)
  have hl_2 := Loc.lt hF4
  replace hca4 := hca4.ofGF
  replace hcb4 := hcb4.ofGF
  refine w_draw 16 (fun a b => a.grownBy b none) [(some 34, Is <| .int .i64 k), (some 35, Is <| vo), (some 36, Is <| .int .i64 (os.length : Int)), (some 37, Is <| .bool (decide (k < (os.length : Int)))), (some 38, Is <| .bool true), (some 39, Is <| vo), (some 40, Is <| .int .i64 k), (some 41, Is <| .pointer (some ⟨b3, o3, none⟩)), (some 42, Is <| .agg [.bool (decide ((ix os k).x < 0)), ca3, .bool (decide ((ix os k).y < 0)), cb3, .int .u8 ((ix os k).st)].toArray), (some 43, Is <| va), (some 44, Is <| .int .i64 i), (some 45, Is <| .pointer (some ⟨b4, o4, none⟩)), (some 46, Is <| .agg [.bool (decide ((ix l i).x < 0)), ca4, .bool (decide ((ix l i).y < 0)), cb4, .int .u8 ((ix l i).st)].toArray), (some 47, Is <| .int .i64 (ordC (ix os k) (ix l i))), (some 48, Is <| .bool (decide ((ordC (ix os k) (ix l i)) = 0))), (some 49, Is <| .bool (decide ((ordC (ix os k) (ix l i)) = 0)))] [[], [], [1], [0, 2], [3], [4], [4], [4, 5, 6], [4, 7], [4], [4], [4, 9, 10], [4, 11], [4, 8, 12], [4, 13], [4, 14]] [(0, va), (2, .slice none 0 0), (3, vo), (4, .int .i64 i), (5, .int .i64 k)] (by exact ⟨rfl, rfl, rfl, rfl, rfl, trivial⟩) (by kernel_rfl) (by kernel_rfl) grown_none_refl (fun _ _ _ => grown_none_trans) ⟨kv, kv, kv, kv, kv, kv, kv, kv, kv, kv, kv, kv, kv, kv, kv, kv, trivial⟩ ?_
  intro w24 k22 hs2
  have hb22 := below_g0 hb21 k22
  have hO20 := hO19.g0 k22
  refine ⟨⟨?_, ?_, ?_, ?_, ?_, ?_, ?_, ?_, ?_, ?_, ?_, ?_, ?_, ?_, ?_, ?_, trivial⟩, ?_⟩
  · intro w25 k23
    refine op1 (s_move rfl ?_)
    exact ⟨rfl, grown_none_refl _⟩
  · intro w26 k24
    refine op1 (s_move rfl ?_)
    exact ⟨rfl, grown_none_refl _⟩
  · intro w27 k25
    have hO23 := hO20.g0 k25
    intro v_ hv_; subst v_
    refine op1 (s_len sl39 rfl hO23.sl.loc ?_)
    exact ⟨rfl, grown_none_refl _⟩
  · intro w28 k26
    rintro _ rfl _ rfl
    refine op1 (s_lt rfl rfl ?_)
    exact ⟨rfl, grown_none_refl _⟩
  · intro w29 k27
    rintro _ rfl
    refine op1 (s_move rfl ?_)
    exact ⟨(by rw [decide_eq_true h4]), grown_none_refl _⟩
  · intro w30 k28
    rintro _ rfl
    refine op1g (s_move rfl ?_)
    exact ⟨rfl, grown_none_refl _⟩
  · intro w31 k29
    rintro _ rfl
    refine op1g (s_move rfl ?_)
    exact ⟨rfl, grown_none_refl _⟩
  · intro w32 k30
    rintro _ rfl
    intro v_ hv_; subst v_
    rintro _ rfl
    refine op1g (s_idxat sl39 rfl rfl hat3 ?_)
    exact ⟨rfl, grown_none_refl _⟩
  · intro w33 k31
    rintro _ rfl _ rfl
    refine op1g (s_loadW row47 rfl (range_g0 (range_g0 hc3 k22) k31) rfl ?_)
    exact ⟨rfl, grown_none_refl _⟩
  · intro w34 k32
    rintro _ rfl
    refine op1g (s_move rfl ?_)
    exact ⟨rfl, grown_none_refl _⟩
  · intro w35 k33
    rintro _ rfl
    refine op1g (s_move rfl ?_)
    exact ⟨rfl, grown_none_refl _⟩
  · intro w36 k34
    rintro _ rfl
    intro v_ hv_; subst v_
    rintro _ rfl
    refine op1g (s_idxat sl39 rfl rfl hat4 ?_)
    exact ⟨rfl, grown_none_refl _⟩
  · intro w37 k35
    rintro _ rfl _ rfl
    refine op1g (s_loadW row47 rfl (range_g0 (range_g0 hc4 k22) k35) rfl ?_)
    exact ⟨rfl, grown_none_refl _⟩
  · intro w38 k36
    have hb36 := below_g0 hb22 k36
    rintro _ rfl _ rfl _ rfl
    refine op1g (s_call fn52 rfl (order_any (a := (ix os k)) (b := (ix l i)) (n0 := n0) (below_n0 hn0 hb36) ((hca3.gg0 k22).gg0 k36) ((hcb3.gg0 k22).gg0 k36) ((hca4.gg0 k22).gg0 k36) ((hcb4.gg0 k22).gg0 k36) (Bd.le (cbd_ix hcbo (by omega) (by omega)).1 (show 50 ≤ 50 by decide)) (Bd.le (cbd_ix hcbo (by omega) (by omega)).2 (show 50 ≤ 50 by decide)) (Bd.le (cbd_ix hcb (by omega) (by omega)).1 (show 50 ≤ 50 by decide)) (Bd.le (cbd_ix hcb (by omega) (by omega)).2 (show 50 ≤ 50 by decide))) ?_)
    rintro _ w39 ⟨hq4, rfl⟩
    have k37 := grown_of_below hq4 none
    have hz7 := hq4.size
    have hb37 := below_g0 hb36 k37
    have hz8 := hb37.size
    exact ⟨rfl, k37⟩
  · intro w40 k38
    rintro _ rfl _ rfl
    refine op1g (s_eq rfl rfl ?_)
    exact ⟨rfl, grown_none_refl _⟩
  · intro w41 k39
    rintro _ rfl _ rfl
    refine op1 (s_pick rfl rfl ?_)
    exact ⟨rfl, grown_none_refl _⟩
  intro w42 k40
  have hb40 := below_g0 hb22 k40
  have hO38 := hO20.g0 k40
  have hz9 := k22.size
  have hz10 := k40.size
  rintro _ rfl
  intro v_ hv_; subst v_
  rintro _ rfl _ rfl _ rfl
  intro v_ hv_; subst v_
  rintro _ rfl _ rfl _ rfl
  intro v_ hv_; subst v_
  rintro _ rfl _ rfl _ rfl _ rfl _ rfl _ rfl
  refine st (s_assign rfl (r_end (n_then (w_seq (w_region (st (s_bslice0b (K := (Kd.cell 83 n0)) (base := w.heap.size) (F := (fun _ => False)) sl39 (hb40).size (fun _ h => h.elim) ?_)))))))
  intro g1 w43 hB1 hO39 k41
  have hb41 := below_g0 hb40 k41
  have hz11 := hb41.size
  have hO40 := hO38.g0 k41
  refine st (s_move rfl (st (s_move rfl (st (s_sllo sl39 rfl rfl hO40.sl.loc (by first | omega | (simp; omega)) (by first | omega | (simp; omega)) ?_)))))
  intro v1 hS1
  refine st (s_append0 sl39 rfl rfl hO39 (hS1).none (cell_gk 83 n0).ones (by simp; omega) (by simp; omega) (by omega) (fun _ h => h.elim) ?_)
  intro v2 w44 hO41 k42
  have hb42 := below_g0 hb41 k42
  have hz12 := hb42.size
  have hO42 := hO40.g0 k42
  refine st (s_assign rfl (r_end (n_then (w_seq (w_seq (w_region (st (s_move rfl ?_))))))))
  refine r_end (n_then ?_)
  refine w_condP rfl (fun h5 => ?_) (fun h5 => ?_)
  rotate_left
  · refine w_skip' (n_then ?_)
    obtain ⟨b6, o6, _, hat6, ⟨ca6, cb6, rfl, hca6, hcb6, hcs6⟩, hc6, hF6, hlt6⟩ := (hl.at0 hb42).elem i (by omega) (by omega)
    have hl_4 := Loc.lt hF6
    replace hca6 := hca6.ofGF
    replace hcb6 := hcb6.ofGF
    refine w_drawT 11 (fun a b => a.grownBy b none) [(some 58, Is <| vo), (some 59, Is <| .int .i64 k), (some 60, Is <| .int .i64 k), (some 61, fun v W => SlC (Kd.cell 83 n0) W (fun _ => False) v (os.take (k).toNat)), (some 62, Is <| va), (some 63, Is <| .int .i64 i), (some 64, Is <| .pointer (some ⟨b6, o6, none⟩)), (some 65, Is <| .agg [.bool (decide ((ix l i).x < 0)), ca6, .bool (decide ((ix l i).y < 0)), cb6, .int .u8 ((ix l i).st)].toArray), (some 66, fun v W => Sl (Kd.cell 83 n0) W (fun _ => False) v [(ix l i)]), (some 67, fun v W => Gw.Own (Kd.cell 83 n0) 47 w44.heap.size W (fun _ => False) v ((os.take (k).toNat) ++ [(ix l i)])), (some 68, Is <| v2)] [[], [], [], [0, 1, 2], [], [], [4, 5], [6], [7], [3, 8], []] [(0, va), (2, .slice none 0 0), (3, vo), (4, .int .i64 i), (5, .int .i64 k), (7, v2)] (by exact ⟨rfl, rfl, rfl, rfl, rfl, rfl, trivial⟩) (by kernel_rfl) (by kernel_rfl) grown_none_refl (fun _ _ _ => grown_none_trans) ⟨kv, kv, kv, fun _ _ _ h k => h.g0 k, kv, kv, kv, kv, fun _ _ _ h k => h.g0 k, fun _ _ _ h k => h.g0 k, kv, trivial⟩ ?_
    intro w65 k63 hs7
    have hb59 := below_g0 hb42 k63
    have hO83 := hO42.g0 k63
    have hO84 := hO41.g0 k63
    refine ⟨⟨?_, ?_, ?_, ?_, ?_, ?_, ?_, ?_, ?_, ?_, ?_, trivial⟩, ?_⟩
    · intro w66 k64
      refine op1 (s_move rfl ?_)
      exact ⟨rfl, grown_none_refl _⟩
    · intro w67 k65
      refine op1 (s_move rfl ?_)
      exact ⟨rfl, grown_none_refl _⟩
    · intro w68 k66
      refine op1 (s_move rfl ?_)
      exact ⟨rfl, grown_none_refl _⟩
    · intro w69 k67
      have hO91 := hO83.g0 k67
      intro v_ hv_; subst v_
      rintro _ rfl _ rfl
      refine op1 (s_slcap sl39 rfl rfl rfl (hO91.sl.loc).none (by first | omega | (simp; omega)) (by first | omega | (simp; omega)) ?_)
      intro v16 hC6
      exact ⟨hC6, grown_none_refl _⟩
    · intro w70 k68
      refine op1 (s_move rfl ?_)
      exact ⟨rfl, grown_none_refl _⟩
    · intro w71 k69
      refine op1 (s_move rfl ?_)
      exact ⟨rfl, grown_none_refl _⟩
    · intro w72 k70
      intro v_ hv_; subst v_
      rintro _ rfl
      refine op1 (s_idxat sl39 rfl rfl hat6 ?_)
      exact ⟨rfl, grown_none_refl _⟩
    · intro w73 k71
      rintro _ rfl
      refine op1 (s_loadW row47 rfl (range_g0 (range_g0 hc6 k63) k71) rfl ?_)
      exact ⟨rfl, grown_none_refl _⟩
    · intro w74 k72
      have hb68 := below_g0 hb59 k72
      rintro _ rfl
      refine op1 (s_bslice (ps := [(0, .tmp 65)]) (ccs := [#[.bool (decide ((ix l i).x < 0)), ca6, .bool (decide ((ix l i).y < 0)), cb6, .int .u8 ((ix l i).st)]]) (e := 47) (cells := [.bool (decide ((ix l i).x < 0)), ca6, .bool (decide ((ix l i).y < 0)), cb6, .int .u8 ((ix l i).st)]) rfl rfl (by kernel_rfl) (by decide) nz47 ?_)
      intro g5 w75 hg4 hB5 k73 hs8
      have hb69 := below_g0 hb68 k73
      have hz18 := hb69.size
      have hS8 : Sl (Kd.cell 83 n0) w75 (fun _ => False) (.slice (some ⟨g5, 0, none⟩) 1 1) [(ix l i)] := lit_cell (c := (ix l i)) hB5 (((hca6.gg0 k63).gg0 k72).gg0 k73) (((hcb6.gg0 k63).gg0 k72).gg0 k73) hcs6
      exact ⟨hS8, k73⟩
    · intro w76 k74
      have hb70 := below_g0 hb59 k74
      rintro v17 hC7 v18 hS9
      refine op1 (s_appfull (K := (Kd.cell 83 n0)) sl39 rfl rfl hC7 (hS9).none (by simp) (cell_gk 83 n0).ones (by simp; omega) (by simp; omega) (fun _ h => h.elim) ?_)
      intro v19 w77 hO107 k75 hr11
      have hO108 := hO107.rebase (b' := w44.heap.size) (by have h0_ := k40.size; have h1_ := k41.size; have h2_ := k42.size; have h3_ := k63.size; have h4_ := k74.size; have h5_ := k75.size; omega)
      have hb71 := below_g0 hb70 k75
      have hz19 := hb71.size
      exact ⟨hO108, k75⟩
    · intro w78 k76
      refine op1 (s_move rfl ?_)
      exact ⟨rfl, grown_none_refl _⟩
    intro w79 k77
    have hb73 := below_g0 hb59 k77
    have hO114 := hO84.g0 k77
    have hz20 := k63.size
    have hz21 := k77.size
    intro v_ hv_; subst v_
    rintro _ rfl _ rfl v20 hC8
    intro v_ hv_; subst v_
    rintro _ rfl _ rfl _ rfl v21 hS10 v22 hO115
    have hO116 := hO115.rebase (b' := w.heap.size) (by omega)
    intro v_ hv_; subst v_
    refine st (s_append (K := (Kd.cell 83 n0)) sl39 rfl rfl hO116 (Own.srcG (cell_free 83 n0) hO114 hO116 (by decide) (by omega) (fun g_ h_ e_ => by have h8 := (hO115.lt g_ h_).1; have h9 := (hO41.lt g_ e_).2; omega)) (cell_gk 83 n0).ones (by simp; omega) (by simp; omega) (by first | exact Nat.le_refl _ | omega | (have h0_ := k20.size; have h1_ := k22.size; have h2_ := k40.size; have h3_ := k41.size; have h4_ := k42.size; have h5_ := k63.size; have h6_ := k77.size; omega)) (fun _ h => h.elim) ?_)
    intro v23 w80 hO117 k78 hr12
    have hb74 := hb73.grown k78 hb73.size (fun k_ hk_ => by have h9_ := (hO116.lt k_ hk_).1; omega)
    have hz22 := hb74.size
    refine st (s_assign rfl (r_end (n_block (n_then (w_region (st (s_move rfl (st (s_add rfl rfl (by omega) ?_)))))))))
    refine st (s_assign rfl (r_end ?_))
    exact n_round (((i + 1)), (v23), ((insC os (ix l i)))) ⟨hb74, by omega, (by rw [← insC_new (by omega) (by omega) hat (fun hz => ⟨h3, h5⟩)]; exact hO117), lastA_step hi.1 hlt hos⟩ (by dsimp only; omega) (by exact ⟨rfl, rfl, rfl, rfl, trivial⟩)
  refine w_region (st (s_move rfl (st (s_sllo sl39 rfl rfl hO41.sl.loc (by first | omega | (simp; omega)) (by first | omega | (simp; omega)) ?_))))
  intro v3 hS2
  refine st (s_assign rfl (r_end (n_then ?_)))
  obtain ⟨b5, o5, _, hat5, ⟨ca5, cb5, rfl, hca5, hcb5, hcs5⟩, hc5, hF5, hlt5⟩ := (hl.at0 hb42).elem i (by omega) (by omega)
  have hl_3 := Loc.lt hF5
  replace hca5 := hca5.ofGF
  replace hcb5 := hcb5.ofGF
  refine w_drawT 11 (fun a b => a.grownBy b none) [(some 58, Is <| vo), (some 59, Is <| .int .i64 k), (some 60, Is <| .int .i64 k), (some 61, fun v W => SlC (Kd.cell 83 n0) W (fun _ => False) v (os.take (k).toNat)), (some 62, Is <| va), (some 63, Is <| .int .i64 i), (some 64, Is <| .pointer (some ⟨b5, o5, none⟩)), (some 65, Is <| .agg [.bool (decide ((ix l i).x < 0)), ca5, .bool (decide ((ix l i).y < 0)), cb5, .int .u8 ((ix l i).st)].toArray), (some 66, fun v W => Sl (Kd.cell 83 n0) W (fun _ => False) v [(ix l i)]), (some 67, fun v W => Gw.Own (Kd.cell 83 n0) 47 w44.heap.size W (fun _ => False) v ((os.take (k).toNat) ++ [(ix l i)])), (some 68, Is <| v3)] [[], [], [], [0, 1, 2], [], [], [4, 5], [6], [7], [3, 8], []] [(0, va), (2, .slice none 0 0), (3, vo), (4, .int .i64 i), (5, .int .i64 k), (7, v3)] (by exact ⟨rfl, rfl, rfl, rfl, rfl, rfl, trivial⟩) (by kernel_rfl) (by kernel_rfl) grown_none_refl (fun _ _ _ => grown_none_trans) ⟨kv, kv, kv, fun _ _ _ h k => h.g0 k, kv, kv, kv, kv, fun _ _ _ h k => h.g0 k, fun _ _ _ h k => h.g0 k, kv, trivial⟩ ?_
  intro w47 k45 hs4
  have hb43 := below_g0 hb42 k45
  have hO45 := hO42.g0 k45
  refine ⟨⟨?_, ?_, ?_, ?_, ?_, ?_, ?_, ?_, ?_, ?_, ?_, trivial⟩, ?_⟩
  · intro w48 k46
    refine op1 (s_move rfl ?_)
    exact ⟨rfl, grown_none_refl _⟩
  · intro w49 k47
    refine op1 (s_move rfl ?_)
    exact ⟨rfl, grown_none_refl _⟩
  · intro w50 k48
    refine op1 (s_move rfl ?_)
    exact ⟨rfl, grown_none_refl _⟩
  · intro w51 k49
    have hO53 := hO45.g0 k49
    intro v_ hv_; subst v_
    rintro _ rfl _ rfl
    refine op1 (s_slcap sl39 rfl rfl rfl (hO53.sl.loc).none (by first | omega | (simp; omega)) (by first | omega | (simp; omega)) ?_)
    intro v6 hC2
    exact ⟨hC2, grown_none_refl _⟩
  · intro w52 k50
    refine op1 (s_move rfl ?_)
    exact ⟨rfl, grown_none_refl _⟩
  · intro w53 k51
    refine op1 (s_move rfl ?_)
    exact ⟨rfl, grown_none_refl _⟩
  · intro w54 k52
    intro v_ hv_; subst v_
    rintro _ rfl
    refine op1 (s_idxat sl39 rfl rfl hat5 ?_)
    exact ⟨rfl, grown_none_refl _⟩
  · intro w55 k53
    rintro _ rfl
    refine op1 (s_loadW row47 rfl (range_g0 (range_g0 hc5 k45) k53) rfl ?_)
    exact ⟨rfl, grown_none_refl _⟩
  · intro w56 k54
    have hb52 := below_g0 hb43 k54
    rintro _ rfl
    refine op1 (s_bslice (ps := [(0, .tmp 65)]) (ccs := [#[.bool (decide ((ix l i).x < 0)), ca5, .bool (decide ((ix l i).y < 0)), cb5, .int .u8 ((ix l i).st)]]) (e := 47) (cells := [.bool (decide ((ix l i).x < 0)), ca5, .bool (decide ((ix l i).y < 0)), cb5, .int .u8 ((ix l i).st)]) rfl rfl (by kernel_rfl) (by decide) nz47 ?_)
    intro g3 w57 hg2 hB3 k55 hs5
    have hb53 := below_g0 hb52 k55
    have hz13 := hb53.size
    have hS4 : Sl (Kd.cell 83 n0) w57 (fun _ => False) (.slice (some ⟨g3, 0, none⟩) 1 1) [(ix l i)] := lit_cell (c := (ix l i)) hB3 (((hca5.gg0 k45).gg0 k54).gg0 k55) (((hcb5.gg0 k45).gg0 k54).gg0 k55) hcs5
    exact ⟨hS4, k55⟩
  · intro w58 k56
    have hb54 := below_g0 hb43 k56
    rintro v7 hC3 v8 hS5
    refine op1 (s_appfull (K := (Kd.cell 83 n0)) sl39 rfl rfl hC3 (hS5).none (by simp) (cell_gk 83 n0).ones (by simp; omega) (by simp; omega) (fun _ h => h.elim) ?_)
    intro v9 w59 hO69 k57 hr7
    have hO70 := hO69.rebase (b' := w44.heap.size) (by have h0_ := k40.size; have h1_ := k41.size; have h2_ := k42.size; have h3_ := k45.size; have h4_ := k56.size; have h5_ := k57.size; omega)
    have hb55 := below_g0 hb54 k57
    have hz14 := hb55.size
    exact ⟨hO70, k57⟩
  · intro w60 k58
    refine op1 (s_move rfl ?_)
    exact ⟨rfl, grown_none_refl _⟩
  intro w61 k59
  have hb57 := below_g0 hb43 k59
  have hz15 := k45.size
  have hz16 := k59.size
  intro v_ hv_; subst v_
  rintro _ rfl _ rfl v10 hC4
  intro v_ hv_; subst v_
  rintro _ rfl _ rfl _ rfl v11 hS6 v12 hO77
  have hO78 := hO77.rebase (b' := w.heap.size) (by omega)
  intro v_ hv_; subst v_
  refine st (s_append (K := (Kd.cell 83 n0)) sl39 rfl rfl hO78 (Sl.srcG (cell_free 83 n0) ((hS2.g0 k45).g0 k59) hO78 (by decide) (by omega) (fun g_ h_ => by have h9_ := (hO77.lt g_ h_).1; have h0_ := k45.size; have h1_ := k59.size; omega)) (cell_gk 83 n0).ones (by simp; omega) (by simp; omega) (by first | exact Nat.le_refl _ | omega | (have h0_ := k20.size; have h1_ := k22.size; have h2_ := k40.size; have h3_ := k41.size; have h4_ := k42.size; have h5_ := k45.size; have h6_ := k59.size; omega)) (fun _ h => h.elim) ?_)
  intro v13 w62 hO79 k60 hr8
  have hb58 := hb57.grown k60 hb57.size (fun k_ hk_ => by have h9_ := (hO78.lt k_ hk_).1; omega)
  have hz17 := hb58.size
  refine st (s_assign rfl (r_end (n_block (n_then (w_region (st (s_move rfl (st (s_add rfl rfl (by omega) ?_)))))))))
  refine st (s_assign rfl (r_end ?_))
  exact n_round (((i + 1)), (v13), ((insC os (ix l i)))) ⟨hb58, by omega, (by rw [← insC_same (by omega) (by omega) hat h5]; exact hO79), lastA_step hi.1 hlt hos⟩ (by dsimp only; omega) (by exact ⟨rfl, rfl, rfl, rfl, trivial⟩)
end Go.Proofs.Ytfljelnfjbbknaa.Lm

set_option maxRecDepth 20000
set_option linter.unusedSimpArgs false
set_option linter.unusedVariables false
namespace Go.Proofs.Ytfljelnfjbbknaa.Lm
open Go.RowKit Go.Gw
set_option maxHeartbeats 1000000 in
theorem inc_any {w : World} {c : Cl} {lv : Int} {n0 : Nat} (hn0 : n0 ≤ w.heap.size) {px py : Value} (hpx : Sl Kd.u32 w (G 83 n0 w) px (ml c.x)) (hpy : Sl Kd.u32 w (G 83 n0 w) py (ml c.y)) (hcx : Bd 50 c.x) (hcy : Bd 50 c.y) (hlv : 1 ≤ lv ∧ lv ≤ 1329) :
    Calls Try.prog 70 [.agg [.bool (decide (c.x < 0)), px, .bool (decide (c.y < 0)), py, .int .u8 c.st].toArray, .int .i64 lv].toArray w (Pure w fun v _ => v = .bool (inC c lv)) := by
  have hb0 := Below.refl w.heap.size w
  refine enter Try.func70 rfl rfl (w_seq (w_region (st (s_box rfl ?_))))
  intro g1 w1 hg1 hB1 k1 hs1
  change Blk w1 g1 47 [.bool (decide (c.x < 0)), px, .bool (decide (c.y < 0)), py, .int .u8 c.st].toArray at hB1
  have hb1 := below_g0 hb0 k1
  refine st (s_assign rfl (r_end (n_then (w_seq (w_region (st (s_move rfl (st (s_sub rfl rfl (by omega) ?_)))))))))
  refine st (s_call fn47 rfl (rbpow_any (n0 := n0) (below_n0 hn0 hb1)) ?_)
  rintro v2 w2 ⟨hq1, hv1⟩
  rw [show (shlN 1 (lv - 1)) = (hf lv) from (shl_hf hlv)] at hv1
  obtain ⟨v1, rfl, hS1⟩ := hv1
  have k2 := grown_of_below hq1 none
  have hz1 := hq1.size
  have hb2 := below_g0 hb1 k2
  have hz2 := hb2.size
  have hlt_1 := ((hB1.g0 k2)).lt
  refine st (s_alloc zero31 ?_)
  intro g2 w3 hg2 hB2 k3 hs2
  have hz3 := hb2.size
  have hb3 := below_g0 hb2 k3
  refine st0 (s_storeN row31 rfl rfl hB2 (by simp only [List.all_cons, List.all_nil, hS1.one, Bool.and_true, Bool.and_self] <;> rfl) rfl rfl ?_)
  intro w4 hB3 k4 hs3
  have hb4 := below_g hb3 k4 (by first | omega | (have h9 := (hb3).size; omega))
  refine r_end (n_then (w_seq (w_region (st (s_loadW row31 rfl hB3.range rfl (st (s_call fn48 rfl (rminus_any (n0 := n0) (below_n0 hn0 hb4) (big_of rfl ((hS1.gg0 k3).ggB k4 hB2 (by decide) (by omega))) (Bd.le (bd_hf hlv.2) (show 42 ≤ 90000 by decide))) ?_)))))))
  rintro _ w5 ⟨hq2, v3, rfl, hS2⟩
  have k5 := grown_of_below hq2 none
  have hz4 := hq2.size
  have hb5 := below_g0 hb4 k5
  have hz5 := hb5.size
  have hlt_2 := (((((hB1.g0 k2).g0 k3).gne k4 (by omega)).g0 k5)).lt
  have hlt_3 := ((hB3.g0 k5)).lt
  refine st (s_alloc zero31 ?_)
  intro g3 w6 hg3 hB4 k6 hs4
  have hz6 := hb5.size
  have hb6 := below_g0 hb5 k6
  refine st0 (s_storeN row31 rfl rfl hB4 (by simp only [List.all_cons, List.all_nil, hS2.one, Bool.and_true, Bool.and_self] <;> rfl) rfl rfl ?_)
  intro w7 hB5 k7 hs5
  have hb7 := below_g hb6 k7 (by first | omega | (have h9 := (hb6).size; omega))
  refine r_end (n_then (w_seq (w_region (st (s_faddr fld47_0 rfl (st (s_loadN (us := [.bool (decide (c.x < 0)), px]) row31 rfl ((((((hB1.g0 k2).g0 k3).gne k4 (by omega)).g0 k5).g0 k6).gne k7 (by omega)).range (j := 0) rfl rfl (st (s_loadW row31 rfl hB5.range rfl ?_)))))))))
  refine st (s_call fn23 rfl (rbcmp_any (n0 := n0) (below_n0 hn0 hb7) (big_of rfl (((((((hpx.gg0 k1).gg0 k2).gg0 k3).ggB k4 hB2 (by decide) (by omega)).gg0 k5).gg0 k6).ggB k7 hB4 (by decide) (by omega))) (big_of rfl ((hS2.gg0 k6).ggB k7 hB4 (by decide) (by omega))) (Bd.le hcx (show 50 ≤ 90000 by decide)) (Bd.le (bd_neg (bd_hf hlv.2)) (show 42 ≤ 90000 by decide))) ?_)
  rintro _ w8 ⟨hq3, rfl⟩
  have k8 := grown_of_below hq3 none
  have hz7 := hq3.size
  have hb8 := below_g0 hb7 k8
  have hz8 := hb8.size
  refine st (s_ge rfl rfl (st (s_move rfl ?_)))
  refine r_caseP 17 rfl (fun h1 => ?_) (fun h1 => ?_)
  rotate_left
  · refine s_pass rfl rfl (s_pass rfl rfl (s_pass rfl rfl (s_pass rfl rfl (s_pass rfl rfl (st (s_pick rfl rfl (st (s_move rfl ?_))))))))
    refine s_pass rfl rfl (s_pass rfl rfl (s_pass rfl rfl (s_pass rfl rfl (s_pass rfl rfl (st (s_pick rfl rfl (st (s_move rfl ?_))))))))
    refine s_pass rfl rfl (s_pass rfl rfl (s_pass rfl rfl (s_pass rfl rfl (s_pass rfl rfl (st (s_pick rfl rfl (st (s_assign rfl ?_))))))))
    refine r_end (n_then (w_ret1 rfl rfl ?_))
    exact ⟨_, rfl, hb8, by rw [show inC c lv = false from by unfold inC; rw [decide_eq_false_iff_not]; rintro ⟨h1_, h2_, h3_, h4_⟩; have h5_ := cmpI_ge.2 h1_; have h6_ := cmpI_lti.2 h2_; have h7_ := cmpI_ge.2 h3_; have h8_ := cmpI_lti.2 h4_; omega]⟩
  refine stg (s_faddr fld47_0 rfl (stg (s_loadN (us := [.bool (decide (c.x < 0)), px]) row31 rfl (((((((hB1.g0 k2).g0 k3).gne k4 (by omega)).g0 k5).g0 k6).gne k7 (by omega)).g0 k8).range (j := 0) rfl rfl (stg (s_loadW row31 rfl ((((hB3.g0 k5).g0 k6).gne k7 (by omega)).g0 k8).range rfl ?_)))))
  refine stg (s_call fn23 rfl (rbcmp_any (n0 := n0) (below_n0 hn0 hb8) (big_of rfl ((((((((hpx.gg0 k1).gg0 k2).gg0 k3).ggB k4 hB2 (by decide) (by omega)).gg0 k5).gg0 k6).ggB k7 hB4 (by decide) (by omega)).gg0 k8)) (big_of rfl ((((((hS1.gg0 k3).ggB k4 hB2 (by decide) (by omega)).gg0 k5).gg0 k6).ggB k7 hB4 (by decide) (by omega)).gg0 k8)) (Bd.le hcx (show 50 ≤ 90000 by decide)) (Bd.le (bd_hf hlv.2) (show 42 ≤ 90000 by decide))) ?_)
  rintro _ w9 ⟨hq4, rfl⟩
  have k9 := grown_of_below hq4 none
  have hz9 := hq4.size
  have hb9 := below_g0 hb8 k9
  have hz10 := hb9.size
  refine stg (s_lt rfl rfl (st (s_pick rfl rfl (st (s_move rfl ?_)))))
  refine r_caseP 24 rfl (fun h2 => ?_) (fun h2 => ?_)
  rotate_left
  · refine s_pass rfl rfl (s_pass rfl rfl (s_pass rfl rfl (s_pass rfl rfl (s_pass rfl rfl (st (s_pick rfl rfl (st (s_move rfl ?_))))))))
    refine s_pass rfl rfl (s_pass rfl rfl (s_pass rfl rfl (s_pass rfl rfl (s_pass rfl rfl (st (s_pick rfl rfl (st (s_assign rfl ?_))))))))
    refine r_end (n_then (w_ret1 rfl rfl ?_))
    exact ⟨_, rfl, hb9, by rw [show inC c lv = false from by unfold inC; rw [decide_eq_false_iff_not]; rintro ⟨h1_, h2_, h3_, h4_⟩; have h5_ := cmpI_ge.2 h1_; have h6_ := cmpI_lti.2 h2_; have h7_ := cmpI_ge.2 h3_; have h8_ := cmpI_lti.2 h4_; omega]⟩
  refine stg (s_faddr fld47_1 rfl (stg (s_loadN (us := [.bool (decide (c.y < 0)), py]) row31 rfl ((((((((hB1.g0 k2).g0 k3).gne k4 (by omega)).g0 k5).g0 k6).gne k7 (by omega)).g0 k8).g0 k9).range (j := 2) rfl rfl (stg (s_loadW row31 rfl ((hB5.g0 k8).g0 k9).range rfl (stg (s_call fn23 rfl (rbcmp_any (n0 := n0) (below_n0 hn0 hb9) (big_of rfl (((((((((hpy.gg0 k1).gg0 k2).gg0 k3).ggB k4 hB2 (by decide) (by omega)).gg0 k5).gg0 k6).ggB k7 hB4 (by decide) (by omega)).gg0 k8).gg0 k9)) (big_of rfl ((((hS2.gg0 k6).ggB k7 hB4 (by decide) (by omega)).gg0 k8).gg0 k9)) (Bd.le hcy (show 50 ≤ 90000 by decide)) (Bd.le (bd_neg (bd_hf hlv.2)) (show 42 ≤ 90000 by decide))) ?_)))))))
  rintro _ w10 ⟨hq5, rfl⟩
  have k10 := grown_of_below hq5 none
  have hz11 := hq5.size
  have hb10 := below_g0 hb9 k10
  have hz12 := hb10.size
  refine stg (s_ge rfl rfl (st (s_pick rfl rfl (st (s_move rfl ?_)))))
  refine r_caseP 31 rfl (fun h3 => ?_) (fun h3 => ?_)
  rotate_left
  · refine s_pass rfl rfl (s_pass rfl rfl (s_pass rfl rfl (s_pass rfl rfl (s_pass rfl rfl (st (s_pick rfl rfl (st (s_assign rfl ?_))))))))
    refine r_end (n_then (w_ret1 rfl rfl ?_))
    exact ⟨_, rfl, hb10, by rw [show inC c lv = false from by unfold inC; rw [decide_eq_false_iff_not]; rintro ⟨h1_, h2_, h3_, h4_⟩; have h5_ := cmpI_ge.2 h1_; have h6_ := cmpI_lti.2 h2_; have h7_ := cmpI_ge.2 h3_; have h8_ := cmpI_lti.2 h4_; omega]⟩
  refine stg (s_faddr fld47_1 rfl (stg (s_loadN (us := [.bool (decide (c.y < 0)), py]) row31 rfl (((((((((hB1.g0 k2).g0 k3).gne k4 (by omega)).g0 k5).g0 k6).gne k7 (by omega)).g0 k8).g0 k9).g0 k10).range (j := 2) rfl rfl (stg (s_loadW row31 rfl ((((((hB3.g0 k5).g0 k6).gne k7 (by omega)).g0 k8).g0 k9).g0 k10).range rfl ?_)))))
  refine stg (s_call fn23 rfl (rbcmp_any (n0 := n0) (below_n0 hn0 hb10) (big_of rfl ((((((((((hpy.gg0 k1).gg0 k2).gg0 k3).ggB k4 hB2 (by decide) (by omega)).gg0 k5).gg0 k6).ggB k7 hB4 (by decide) (by omega)).gg0 k8).gg0 k9).gg0 k10)) (big_of rfl ((((((((hS1.gg0 k3).ggB k4 hB2 (by decide) (by omega)).gg0 k5).gg0 k6).ggB k7 hB4 (by decide) (by omega)).gg0 k8).gg0 k9).gg0 k10)) (Bd.le hcy (show 50 ≤ 90000 by decide)) (Bd.le (bd_hf hlv.2) (show 42 ≤ 90000 by decide))) ?_)
  rintro _ w11 ⟨hq6, rfl⟩
  have k11 := grown_of_below hq6 none
  have hz13 := hq6.size
  have hb11 := below_g0 hb10 k11
  have hz14 := hb11.size
  refine stg (s_lt rfl rfl (st (s_pick rfl rfl (st (s_assign rfl (r_end (n_then (w_ret1 rfl rfl ?_))))))))
  exact ⟨_, rfl, hb11, congrArg Value.bool (decide_eq_decide.2 ⟨fun h => ⟨cmpI_ge.1 h1, cmpI_lti.1 h2, cmpI_ge.1 h3, cmpI_lti.1 h⟩, fun h => cmpI_lti.2 h.2.2.2⟩)⟩
end Go.Proofs.Ytfljelnfjbbknaa.Lm
