/- Part of the proof that is named in YtdeiiagkbbimhaaNRowCanJust: a library for walks, or a function's walk. -/
import Derived.Test.YtdeiiagkbbimhaaNP
set_option maxRecDepth 20000
set_option linter.unusedSimpArgs false
set_option linter.unusedVariables false
namespace Go.Proofs.Ytdeiiagkbbimhaa
open Go.RowKit Go.Gw
theorem find_any {va : Value} {l : List Nd} {F : Nat → Prop} {w : World} (hl : Sl Kd.node w F va l) {x : Nd} :
    Calls Try.prog 45 [va, .agg x.cells.toArray].toArray w (Pure w fun v _ => v = .int .i64 (findN l x)) := by
  have hb0 := Below.refl w.heap.size w
  have hln1 := hl.lenle
  refine enter Try.func45 rfl rfl ?_
  refine w_seq ?_
  refine w_region ?_
  refine st (s_box rfl ?_)
  intro g1 w1 hg1 hB1 k1 hs1
  have hb1 := below_g0 hb0 k1
  refine st (s_assign rfl ?_)
  refine r_end ?_
  refine n_then ?_
  refine w_seq ?_
  refine w_seq ?_
  refine w_region ?_
  refine st (s_assign rfl ?_)
  refine r_end ?_
  refine n_then ?_
  refine w_block ?_
  refine w_loop (α := Int) (fun (i : Int) => [(0, va), (3, .pointer (some ⟨g1, 0, none⟩)), (5, .int .i64 i)]) (fun (i : Int) W => Below w.heap.size w W ∧ (0 ≤ i ∧ i ≤ l.length) ∧ (∀ j : Int, 0 ≤ j → j < i → ix l j ≠ x) ∧ (Blk W g1 35 [.int .i64 x.lv, .int .i64 x.k0, .int .i64 x.k1, .int .i64 x.k2, .int .i64 x.k3].toArray)) (fun (i : Int) => (l.length - i).toNat) (0) ⟨hb1, by omega, fun j _ _ => by omega, hB1⟩ (by exact ⟨rfl, rfl, rfl, trivial⟩) ?_
  rintro i w2 ⟨hb2, hi, ha, hBl1⟩
  have hz1 := hb2.size
  refine w_seq ?_
  refine w_seq ?_
  refine w_region ?_
  refine st (s_move rfl ?_)
  refine st (s_move rfl ?_)
  refine st (s_len sl22 rfl (hl.at0 hb2) ?_)
  refine st (s_lt rfl rfl ?_)
  refine r_end ?_
  refine n_then ?_
  refine w_condP rfl (fun h1 => ?_) (fun h1 => ?_)
  · refine w_skip' ?_
    refine n_then ?_
    refine w_seq ?_
    refine w_block ?_
    refine w_seq ?_
    obtain ⟨b1, o1, _, hat1, ⟨rfl, _⟩, hc1, hF1, hlt1⟩ := (hl.at0 hb2).elem i (by omega) (by omega)
    have hl_1 := Loc.lt hF1
    refine w_draw 6 (fun a b => a.grownBy b none) [(some 12, fun v _ => v = va), (some 13, fun v _ => v = .int .i64 i), (some 14, fun v _ => v = .pointer (some ⟨b1, o1, none⟩)), (some 15, fun v _ => v = .agg [.int .i64 ((ix l i).lv), .int .i64 ((ix l i).k0), .int .i64 ((ix l i).k1), .int .i64 ((ix l i).k2), .int .i64 ((ix l i).k3)].toArray), (some 16, fun v _ => v = .agg [.int .i64 x.lv, .int .i64 x.k0, .int .i64 x.k1, .int .i64 x.k2, .int .i64 x.k3].toArray), (some 17, fun v _ => v = .bool (decide ((ix l i) = x)))] [[], [], [0, 1], [2], [], [3, 4]] [(0, va), (3, .pointer (some ⟨g1, 0, none⟩)), (5, .int .i64 i)] (by exact ⟨rfl, rfl, rfl, trivial⟩) (by kernel_rfl) (by kernel_rfl) grown_none_refl (fun _ _ _ => grown_none_trans) ⟨fun _ _ _ h _ => h, fun _ _ _ h _ => h, fun _ _ _ h _ => h, fun _ _ _ h _ => h, fun _ _ _ h _ => h, fun _ _ _ h _ => h, trivial⟩ ?_
    intro w3 k2 hs2
    have hb3 := below_g0 hb2 k2
    refine ⟨⟨?_, ?_, ?_, ?_, ?_, ?_, trivial⟩, ?_⟩
    · intro w4 k3
      have hb4 := below_g0 hb3 k3
      refine op1 (s_move rfl ?_)
      exact ⟨rfl, grown_none_refl _⟩
    · intro w5 k4
      have hb5 := below_g0 hb3 k4
      refine op1 (s_move rfl ?_)
      exact ⟨rfl, grown_none_refl _⟩
    · intro w6 k5
      have hb6 := below_g0 hb3 k5
      intro v_ hv_; subst v_
      rintro _ rfl
      refine op1 (s_idxat sl22 rfl rfl hat1 ?_)
      exact ⟨rfl, grown_none_refl _⟩
    · intro w7 k6
      have hb7 := below_g0 hb3 k6
      rintro _ rfl
      refine op1 (s_loadW row35 rfl (range_g0 (range_g0 hc1 k2) k6) rfl ?_)
      exact ⟨rfl, grown_none_refl _⟩
    · intro w8 k7
      have hb8 := below_g0 hb3 k7
      refine op1 (s_loadW row35 rfl ((hBl1.g0 k2).g0 k7).range rfl ?_)
      exact ⟨rfl, grown_none_refl _⟩
    · intro w9 k8
      have hb9 := below_g0 hb3 k8
      rintro _ rfl
      rintro _ rfl
      refine op1 (s_eqnode eqNode rfl rfl ?_)
      exact ⟨rfl, grown_none_refl _⟩
    · intro w10 k9
      have hb10 := below_g0 hb3 k9
      intro v_ hv_; subst v_
      rintro _ rfl
      rintro _ rfl
      rintro _ rfl
      rintro _ rfl
      rintro _ rfl
      refine r_end ?_
      refine n_then ?_
      refine w_condP rfl (fun h2 => ?_) (fun h2 => ?_)
      · refine w_seq ?_
        refine w_region ?_
        refine st (s_move rfl ?_)
        refine st (s_add rfl rfl (by omega) ?_)
        refine st (s_assign rfl ?_)
        refine r_end ?_
        refine n_then ?_
        refine w_ret1 rfl rfl ?_
        exact ⟨_, rfl, hb10, by rw [find_at i (by omega) (by omega) ha h2]⟩
      · refine w_skip' ?_
        refine n_block ?_
        refine n_then ?_
        refine w_region ?_
        refine st (s_move rfl ?_)
        refine st (s_add rfl rfl (by omega) ?_)
        refine st (s_assign rfl ?_)
        refine r_end ?_
        exact n_round ((i + 1)) ⟨hb10, by omega, fun j j0 j1 => if q : j = i then by rw [q]; exact h2 else ha j j0 (by omega), ((hBl1.g0 k2).g0 k9)⟩ (by omega) (by exact ⟨rfl, rfl, rfl, trivial⟩)
  · refine w_exit' ?_
    refine n_then_exit ?_
    refine n_then_exit ?_
    refine n_block_exit ?_
    refine n_then ?_
    refine w_seq ?_
    refine w_region ?_
    refine st (s_assign rfl ?_)
    refine r_end ?_
    refine n_then ?_
    refine w_ret1 rfl rfl ?_
    exact ⟨_, rfl, hb2, by rw [find_no fun j j0 j1 => ha j j0 (by omega)]⟩

theorem visit_any {a0 a1 : World} {va ve vd : Value} {l : List Nd} {F : Nat → Prop} (hl : Sl Kd.node a0 F va l) (hle1 : Sl Kd.bool a1 (fun g => vd.ownBlock = some g) ve (emptL l)) (hl_ok : looseB l = true) (hll : l.length ≤ 1000000) :
    ∀ (f : Nat) {w : World} {vo : Value} {o : List Nd} {dn : List Int} {n : Int}, n < f → 0 ≤ n → n ≤ l.length → Frm (fun g => vd.ownBlock = some g) a1 (.slice none 0 0) w vo → Below a0.heap.size a0 w → Own Kd.node 35 a0.heap.size w (fun _ => False) vo o → Own (Kd.num .i64) 3 a0.heap.size w (fun _ => False) vd dn →
    dn.length = l.length + 1 → DInv l dn o → CanL o → o.length ≤ cntP dn → Calls Try.prog 37 [va, ve, .int .i64 n, vo, vd].toArray w (Ret fun v w' => ∃ vo' dn', v = .tuple #[vo', vd, .int .i64 (vis (tr l n) o).2] ∧ Below a0.heap.size a0 w' ∧
      Own Kd.node 35 a0.heap.size w' (fun _ => False) vo' (vis (tr l n) o).1 ∧ Own (Kd.num .i64) 3 a0.heap.size w' (fun _ => False) vd dn' ∧ dn'.length = l.length + 1 ∧ DInv l dn' (vis (tr l n) o).1 ∧ CanL (vis (tr l n) o).1 ∧ (vis (tr l n) o).1.length ≤ cntP dn' ∧
      (∀ i : Int, n < i → ix dn' i = ix dn i) ∧ (emp (tr l n) = true → dn' = dn) ∧ Frm (fun g => vd.ownBlock = some g) w vo w' vo') := by
  intro f
  induction f with
  | zero =>
    intro w vo o dn n hnf hn0 hn1b hFr hb0 hE hDo hdl0 hdi0 hcan0 hcnt0
    omega
  | succ f ih =>
    intro w vo o dn n hnf hn0 hn1b hFr hb0 hE hDo hdl0 hdi0 hcan0 hcnt0
    have hnf2 : n ≤ (f : Int) := by omega
    have hz0 := hb0.size
    have hF0 := Frm.refl (fun g => vd.ownBlock = some g) w vo
    have hlen := emptL_length l
    have hle := hle1.frm bool_flat hFr
    have hln1 := hl.lenle
    have hln2 := hle.lenle
    refine enter Try.func37 rfl rfl ?_
    refine w_seq ?_
    refine w_region ?_
    refine st (s_assign rfl ?_)
    refine st (s_assign rfl ?_)
    refine st (s_assign rfl ?_)
    refine r_end ?_
    refine n_then ?_
    refine w_seq ?_
    refine w_seq ?_
    refine w_region ?_
    refine st (s_move rfl ?_)
    refine st (s_move rfl ?_)
    refine st (s_idx sl43 rfl rfl hle (by omega) (by omega) ?_)
    rintro b1 o1 _ ⟨rfl, _⟩ hc1 hF1 hlt1
    refine st (s_load one4 rfl hc1 (j := 0) rfl ?_)
    refine r_end ?_
    refine n_then ?_
    refine w_cond rfl (fun h1 => ?_) (fun h1 => ?_)
    · rw [emptL_at l _ (by omega) (by omega)] at h1
      have hz : ix (hasL l) n = false := by simpa using h1
      rw [has_tr hl_ok n (by omega) (by omega)] at hz
      have hemp : emp (tr l n) = true := by simpa using hz
      refine w_seq ?_
      refine w_region ?_
      refine st (s_move rfl ?_)
      refine st (s_move rfl ?_)
      refine st (s_assign rfl ?_)
      refine st (s_assign rfl ?_)
      refine st (s_assign rfl ?_)
      refine r_end ?_
      refine n_then ?_
      refine w_ret3 rfl rfl rfl rfl ?_
      have hv : vis (tr l n) o = (o, 0) := vis_emp _ _ hemp
      refine ⟨_, rfl, vo, dn, ?_, hb0, ?_, hDo, hdl0, ?_, ?_, ?_, fun _ _ => rfl, fun _ => rfl, hF0⟩
      · rw [hv]
      · rw [hv]; exact hE
      · rw [hv]; exact hdi0
      · rw [hv]; exact hcan0
      · rw [hv]; exact hcnt0
    · rw [emptL_at l _ (by omega) (by omega)] at h1
      have hz : ix (hasL l) n = true := by simpa using h1
      have hemp := emp_has hl_ok (by omega) (by omega) hz
      have hn1p := hemp.2
      have hkr := kid_rng hl_ok (i := n - 1) (by omega) (by omega)
      refine w_skip' ?_
      refine n_then ?_
      refine w_seq ?_
      refine w_seq ?_
      refine w_region ?_
      refine st (s_move rfl ?_)
      refine st (s_move rfl ?_)
      refine st (s_idx sl46 rfl rfl hDo.sl (by omega) (by omega) ?_)
      rintro b2 o2 _ ⟨rfl, _⟩ hc2 hF2 hlt2
      refine st (s_load one3 rfl hc2 (j := 0) rfl ?_)
      refine st (s_gt rfl rfl ?_)
      refine r_end ?_
      refine n_then ?_
      refine w_condP rfl (fun h2 => ?_) (fun h2 => ?_)
      · refine w_seq ?_
        obtain ⟨b3, o3, _, hat1, ⟨rfl, _⟩, hc3, hF3, hlt3⟩ := hDo.sl.elem n (by omega) (by omega)
        refine w_draw 8 (fun a b => a.grownBy b none) [(some 27, fun v _ => v = vo), (some 28, fun v _ => v = vd), (some 29, fun v _ => v = vd), (some 30, fun v _ => v = .int .i64 n), (some 31, fun v _ => v = .pointer (some ⟨b3, o3, none⟩)), (some 32, fun v _ => v = .int .i64 (ix dn n)), (some 10, fun v _ => v = vo), (some 11, fun v _ => v = vd)] [[], [], [], [], [2, 3], [4], [0], [1]] [(0, va), (1, ve), (2, .int .i64 n), (3, vo), (4, vd), (12, .int .i64 0)] (by exact ⟨rfl, rfl, rfl, rfl, rfl, rfl, trivial⟩) (by kernel_rfl) (by kernel_rfl) grown_none_refl (fun _ _ _ => grown_none_trans) ⟨fun _ _ _ h _ => h, fun _ _ _ h _ => h, fun _ _ _ h _ => h, fun _ _ _ h _ => h, fun _ _ _ h _ => h, fun _ _ _ h _ => h, fun _ _ _ h _ => h, fun _ _ _ h _ => h, trivial⟩ ?_
        intro w1 k1 hs1
        have hb1 := below_g0 hb0 k1
        have hF4 := hF0.none k1
        have hO1 := hE.g0 k1
        have hO2 := hDo.g0 k1
        refine ⟨⟨?_, ?_, ?_, ?_, ?_, ?_, ?_, ?_, trivial⟩, ?_⟩
        · intro w2 k2
          have hb2 := below_g0 hb1 k2
          have hF5 := hF4.none k2
          have hO3 := hO1.g0 k2
          have hO4 := hO2.g0 k2
          refine op1 (s_move rfl ?_)
          exact ⟨rfl, grown_none_refl _⟩
        · intro w3 k3
          have hb3 := below_g0 hb1 k3
          have hF6 := hF4.none k3
          have hO5 := hO1.g0 k3
          have hO6 := hO2.g0 k3
          refine op1 (s_move rfl ?_)
          exact ⟨rfl, grown_none_refl _⟩
        · intro w4 k4
          have hb4 := below_g0 hb1 k4
          have hF7 := hF4.none k4
          have hO7 := hO1.g0 k4
          have hO8 := hO2.g0 k4
          refine op1 (s_move rfl ?_)
          exact ⟨rfl, grown_none_refl _⟩
        · intro w5 k5
          have hb5 := below_g0 hb1 k5
          have hF8 := hF4.none k5
          have hO9 := hO1.g0 k5
          have hO10 := hO2.g0 k5
          refine op1 (s_move rfl ?_)
          exact ⟨rfl, grown_none_refl _⟩
        · intro w6 k6
          have hb6 := below_g0 hb1 k6
          have hF9 := hF4.none k6
          have hO11 := hO1.g0 k6
          have hO12 := hO2.g0 k6
          intro v_ hv_; subst v_
          rintro _ rfl
          refine op1 (s_idxat sl46 rfl rfl hat1 ?_)
          exact ⟨rfl, grown_none_refl _⟩
        · intro w7 k7
          have hb7 := below_g0 hb1 k7
          have hF10 := hF4.none k7
          have hO13 := hO1.g0 k7
          have hO14 := hO2.g0 k7
          rintro _ rfl
          refine op1 (s_load one3 rfl (range_g0 (range_g0 hc3 k1) k7) (j := 0) rfl ?_)
          exact ⟨rfl, grown_none_refl _⟩
        · intro w8 k8
          have hb8 := below_g0 hb1 k8
          have hF11 := hF4.none k8
          have hO15 := hO1.g0 k8
          have hO16 := hO2.g0 k8
          intro v_ hv_; subst v_
          refine op1 (s_assign rfl ?_)
          exact ⟨rfl, grown_none_refl _⟩
        · intro w9 k9
          have hb9 := below_g0 hb1 k9
          have hF12 := hF4.none k9
          have hO17 := hO1.g0 k9
          have hO18 := hO2.g0 k9
          intro v_ hv_; subst v_
          refine op1 (s_assign rfl ?_)
          exact ⟨rfl, grown_none_refl _⟩
        · intro w10 k10
          have hb10 := below_g0 hb1 k10
          have hF13 := hF4.none k10
          have hO19 := hO1.g0 k10
          have hO20 := hO2.g0 k10
          intro v_ hv_; subst v_
          intro v_ hv_; subst v_
          intro v_ hv_; subst v_
          rintro _ rfl
          rintro _ rfl
          rintro _ rfl
          intro v_ hv_; subst v_
          intro v_ hv_; subst v_
          refine st (s_assign rfl ?_)
          refine r_end ?_
          refine n_then ?_
          refine w_ret3 rfl rfl rfl rfl ?_
          have hv : vis (tr l n) o = (o, ix dn n) := hdi0 n (by omega) (by omega) h2
          refine ⟨_, rfl, vo, dn, ?_, hb10, ?_, hO20, hdl0, ?_, ?_, ?_, fun _ _ => rfl, fun _ => rfl, hF13⟩
          · rw [hv]
          · rw [hv]; exact hO19
          · rw [hv]; exact hdi0
          · rw [hv]; exact hcan0
          · rw [hv]; exact hcnt0
      · refine w_skip' ?_
        refine n_then ?_
        refine w_seq ?_
        refine w_region ?_
        refine st (s_move rfl ?_)
        refine st (s_move rfl ?_)
        refine st (s_sub rfl rfl (by omega) ?_)
        refine st (s_idx sl22 rfl rfl (hl.at0 hb0) (by omega) (by omega) ?_)
        rintro b4 o4 _ ⟨rfl, _⟩ hc4 hF14 hlt4
        have hl_1 := Loc.lt hF14
        refine st (s_loadW row35 rfl hc4 rfl ?_)
        refine st (s_alloc zero35 ?_)
        intro g1 w11 hg1 hB1 k11 hs2
        have hn1 := own_new hE hg1
        have hb11 := below_g0 hb0 k11
        have hF15 := hF0.none k11
        have hO21 := hE.g0 k11
        have hO22 := hDo.g0 k11
        refine st0 (s_storeN row35 rfl rfl hB1 rfl rfl rfl ?_)
        intro w12 hB2 k12 hs3
        have hb12 := below_g hb11 k12 (by omega)
        have hF16 := hF15.put k12 (by first | exact .inr (by omega) | exact .inl (by assumption) | exact .inl (.inl rfl) | exact .inl (.inr rfl) | exact .inl (.inr (.inl rfl)) | exact .inl (.inr (.inr rfl)))
        have hO23 := Own.keptN node_flat hO21 k12 hn1
        have hO24 := Own.keptF (num_flat _) hO22 k12 (hO22.ne_blk hB1 (by decide))
        clear hB1
        refine r_end ?_
        refine n_then ?_
        refine w_seq ?_
        refine w_seq ?_
        refine w_region ?_
        refine st (s_assign rfl ?_)
        refine r_end ?_
        refine n_then ?_
        refine w_block ?_
        have hxd : vd.ownBlock ≠ some g1 := by
          rcases hO24.ne_blk hB2 (by decide) with h_ | h_
          · rw [h_]; simp
          · exact h_
        refine w_loop (α := Int × List Nd × Value × List Int × Int × Int × Int × Int) (fun ((k, ok, vk, dk, a, b, c, e) : Int × List Nd × Value × List Int × Int × Int × Int × Int) => [(0, va), (1, ve), (2, .int .i64 n), (3, vk), (4, vd), (10, .slice none 0 0), (11, .slice none 0 0), (12, .int .i64 0), (13, .pointer (some ⟨g1, 0, none⟩)), (14, .int .i64 k)]) (fun ((k, ok, vk, dk, a, b, c, e) : Int × List Nd × Value × List Int × Int × Int × Int × Int) W => Below a0.heap.size a0 W ∧ (0 ≤ k ∧ k ≤ 4 ∧ (¬ 1 < (ix l (n - 1)).lv → k = 0)) ∧ (St4 l (ix l (n - 1)) o k ok a b c e) ∧ (Blk W g1 35 [.int .i64 ((ix l (n - 1)).lv), .int .i64 a, .int .i64 b, .int .i64 c, .int .i64 e].toArray) ∧ (Own Kd.node 35 a0.heap.size W (fun _ => False) vk ok) ∧ (Own (Kd.num .i64) 3 a0.heap.size W (fun _ => False) vd dk) ∧ (dk.length = l.length + 1) ∧ (DInv l dk ok) ∧ (CanL ok) ∧ (ok.length ≤ cntP dk) ∧ (∀ i : Int, n ≤ i → ix dk i = ix dn i) ∧ (Frm (fun g => vd.ownBlock = some g) w vo W vk) ∧ (vk.ownBlock ≠ some g1)) (fun ((k, ok, vk, dk, a, b, c, e) : Int × List Nd × Value × List Int × Int × Int × Int × Int) => (4 - k).toNat) ((0), (o), (vo), (dn), ((ix l (n - 1)).k0), ((ix l (n - 1)).k1), ((ix l (n - 1)).k2), ((ix l (n - 1)).k3)) ⟨hb12, ⟨by omega, by omega, fun _ => rfl⟩, st4_zero l (ix l (n - 1)) o, hB2, hO23, hO24, hdl0, hdi0, hcan0, hcnt0, fun _ _ => rfl, hF16, hn1⟩ (by exact ⟨rfl, rfl, rfl, rfl, rfl, rfl, rfl, rfl, rfl, rfl, trivial⟩) ?_
        rintro ⟨k, ok, vk, dk, a, b, c, e⟩ w13 ⟨hb13, hk, hst, hBx, hOk, hDk, hdl, hdi, hcan, hcnt, hhi, hFk, hne⟩
        dsimp only at *
        have hz1 := hb13.size
        refine w_seq ?_
        refine w_seq ?_
        refine w_region ?_
        refine st (s_move rfl ?_)
        refine st (s_lt rfl rfl ?_)
        refine st (s_move rfl ?_)
        refine r_caseP 40 rfl (fun h3 => ?_) (fun h3 => ?_)
        · refine stg (s_faddr fld35_0 rfl ?_)
          refine stg (s_load one3 rfl hBx.range (j := 0) rfl ?_)
          refine stg (s_gt rfl rfl ?_)
          refine st (s_pick rfl rfl ?_)
          refine r_end ?_
          refine n_then ?_
          refine w_condP rfl (fun h4 => ?_) (fun h4 => ?_)
          · refine w_skip' ?_
            refine n_then ?_
            refine w_seq ?_
            refine w_block ?_
            refine w_region ?_
            refine st (s_move rfl ?_)
            refine st (s_move rfl ?_)
            refine st (s_move rfl ?_)
            refine st (s_move rfl ?_)
            refine st (s_faddr fld35_1 rfl ?_)
            refine st (s_iaddr arr33 rfl rfl (by omega) (by omega) ?_)
            refine st (s_load4 one3 rfl hBx.range (j := 1) rfl rfl (by omega) (by omega) ?_)
            refine st (s_move rfl ?_)
            refine st (s_move rfl ?_)
            have hcn : (sel4 a b c e k) = (ix l (n - 1)).kid k := st4_kid hst hk.1 (by omega)
            have hkr2 := hkr (by omega) k hk.1 (by omega)
            refine st (s_call fn37 rfl (ih (n := (sel4 a b c e k)) (by omega) (by omega) (by omega) (hFr.trans hFk) hb13 hOk hDk hdl hdi hcan hcnt) ?_)
            rintro _ w14 ⟨vo1, dn1, rfl, hb14, hO25, hO26, hp1, hp2, hp3, hp4, hp5, hp6, hp7⟩
            have hz2 := hb14.size
            have hB3 := Blk.frm hBx hp7 (fun h_ => hxd h_) hne
            have hn2 := (hp7.2 _ hBx.lt (fun h_ => hxd h_) hne).2
            have hF18 := hFk.trans hp7
            refine st (s_move rfl ?_)
            refine st (s_extract rfl rfl ?_)
            refine st (s_extract rfl rfl ?_)
            refine st (s_extract rfl rfl ?_)
            refine st (s_assign rfl ?_)
            refine st (s_assign rfl ?_)
            refine st (s_faddr fld35_1 rfl ?_)
            refine st (s_iaddr arr33 rfl rfl (by omega) (by omega) ?_)
            refine st0 (s_storeK one3 rfl rfl hB3 (by omega) (by omega) ?_)
            intro w15 hB4 k14 hs4
            have hb15 := below_g hb14 k14 (by omega)
            have hF19 := hF18.put k14 (by first | exact .inr (by omega) | exact .inl (by assumption) | exact .inl (.inl rfl) | exact .inl (.inr rfl) | exact .inl (.inr (.inl rfl)) | exact .inl (.inr (.inr rfl)))
            have hO27 := Own.keptF (num_flat _) hO26 k14 (hO26.ne_blk hB3 (by decide))
            have hO28 := Own.keptN node_flat hO25 k14 hn2
            clear hB3
            refine r_end ?_
            refine n_block ?_
            refine n_then ?_
            refine w_region ?_
            refine st (s_move rfl ?_)
            refine st (s_add rfl rfl (by omega) ?_)
            refine st (s_assign rfl ?_)
            refine r_end ?_
            have hcn2 := hcn
            exact n_round (((k + 1)), ((vis (tr l ((sel4 a b c e k))) ok).1), (vo1), (dn1), ((if k = 0 then (vis (tr l ((sel4 a b c e k))) ok).2 else a)), ((if k = 1 then (vis (tr l ((sel4 a b c e k))) ok).2 else b)), ((if k = 2 then (vis (tr l ((sel4 a b c e k))) ok).2 else c)), ((if k = 3 then (vis (tr l ((sel4 a b c e k))) ok).2 else e))) ⟨hb15, by dsimp only; omega, by dsimp only; rw [hcn]; exact st4_step hst hk.1 (by omega) rfl, hB4, hO28, hO27, hp1, hp2, hp3, hp4, fun i_ hi_ => (hp5 i_ (by omega)).trans (hhi i_ hi_), hF19, hn2⟩ (by omega) (by exact ⟨rfl, rfl, rfl, rfl, rfl, rfl, rfl, rfl, rfl, rfl, trivial⟩)
          · refine w_exit' ?_
            refine n_then_exit ?_
            refine n_then_exit ?_
            refine n_block_exit ?_
            refine n_then ?_
            refine w_seq ?_
            refine w_region ?_
            refine st (s_move rfl ?_)
            refine st (s_loadW row35 rfl hBx.range rfl ?_)
            refine st (s_call fn45 rfl (find_any (x := (⟨(ix l (n - 1)).lv, a, b, c, e⟩ : Nd)) hOk.sl) ?_)
            rintro _ w16 ⟨hq1, rfl⟩
            have k15 := grown_of_below hq1 none
            have hb16 := below_g0 hb13 k15
            have hz3 := hb16.size
            have hF20 := hFk.none k15
            have hO29 := hOk.g0 k15
            have hO30 := hDk.g0 k15
            refine st (s_assign rfl ?_)
            refine r_end ?_
            refine n_then ?_
            refine w_seq ?_
            refine w_seq ?_
            refine w_region ?_
            refine st (s_move rfl ?_)
            refine st (s_eq rfl rfl ?_)
            refine r_end ?_
            refine n_then ?_
            refine w_condP rfl (fun h5 => ?_) (fun h5 => ?_)
            · refine w_seq ?_
              refine w_region ?_
              refine st (s_move rfl ?_)
              refine st (s_loadW row35 rfl (hBx.g0 k15).range rfl ?_)
              refine st (s_bslice (ps := [(0, .tmp 69)]) (ccs := [#[.int .i64 ((ix l (n - 1)).lv), .int .i64 a, .int .i64 b, .int .i64 c, .int .i64 e]]) (e := 35) (cells := [.int .i64 ((ix l (n - 1)).lv), .int .i64 a, .int .i64 b, .int .i64 c, .int .i64 e]) rfl rfl (by kernel_rfl) (by decide) nz35 ?_)
              intro g2 w17 hg2 hB5 k16 hs5
              have hb17 := below_g0 hb16 k16
              have hz4 := hb17.size
              have hF21 := hF20.none k16
              have hO31 := hO29.g0 k16
              have hO32 := hO30.g0 k16
              have hS1 := lit_nodes (F := fun _ => False) ([⟨(ix l (n - 1)).lv, a, b, c, e⟩] : List Nd) hB5 (fun h => h) rfl (by first | decide | simp)
              refine st (s_append (K := Kd.node) sl22 rfl rfl hO31 (lit_nodes (F := Out (fun _ => False) vk) ([⟨(ix l (n - 1)).lv, a, b, c, e⟩] : List Nd) hB5 (fun h => h.elim id (fun h => by have h9 := (hO29.lt _ h).2; omega)) rfl (by first | decide | simp)) node_ones (by have := cntP_le dk; simp; omega) (by have := cntP_le dk; simp; omega) (by first | exact Nat.le_refl _ | omega) (fun _ h => h.elim) ?_)
              intro v1 w18 hO33 k17 hr5
              have hn3 := own_app hne hr5 (by have := ((hBx.g0 k15).g0 k16).lt; omega)
              have hb18 := hb17.grown k17 hb17.size (fun k_ hk_ => (hO31.lt k_ hk_).1)
              have hz5 := hb18.size
              have hF22 := hF21.row k17 hr5
              have hO34 := Own.keptF (num_flat _) hO32 k17 (hO32.ne_own hO31 (by decide))
              refine st (s_assign rfl ?_)
              refine r_end ?_
              refine n_then ?_
              refine w_region ?_
              refine st (s_move rfl ?_)
              refine st (s_len sl22 rfl hO33.sl ?_)
              refine st (s_assign rfl ?_)
              refine r_end ?_
              refine n_then ?_
              refine w_seq ?_
              refine w_region ?_
              refine st (s_move rfl ?_)
              refine st (s_move rfl ?_)
              refine st (s_move rfl ?_)
              refine st (s_oidx sl46 rfl rfl hO34 (by omega) (by omega) ?_)
              intro g3 hg3 hl_2 hl_3
              refine st0 (s_ostore one3 rfl rfl rfl rfl hO34 hg3 (by omega) (by omega) ⟨rfl, trivial⟩ ?_)
              intro w19 hO35 k18 hs6
              have hb19 := below_g hb18 k18 (by omega)
              have hF23 := hF22.put k18 (by first | exact .inr (by omega) | exact .inl (by assumption) | exact .inl (.inl rfl) | exact .inl (.inr rfl) | exact .inl (.inr (.inl rfl)) | exact .inl (.inr (.inr rfl)))
              have hO36 := Own.keptF node_flat hO33 k18 (by rw [← hg3]; exact hO33.ne_own hO34 (by decide))
              refine r_end ?_
              refine n_then ?_
              refine w_seq ?_
              refine w_region ?_
              refine st (s_move rfl ?_)
              refine st (s_move rfl ?_)
              refine st (s_move rfl ?_)
              refine st (s_assign rfl ?_)
              refine st (s_assign rfl ?_)
              refine st (s_assign rfl ?_)
              refine r_end ?_
              refine n_then ?_
              refine w_ret3 rfl rfl rfl rfl ?_
              have hv0 : vis (tr l n) o = intr ok (⟨(ix l (n - 1)).lv, a, b, c, e⟩ : Nd) := st4_end hl_ok hn1p hn1b hst (if q : 1 < (ix l (n - 1)).lv then .inl ⟨by omega, q⟩ else .inr ⟨hk.2.2 q, q⟩)
              have hnz : (intr ok (⟨(ix l (n - 1)).lv, a, b, c, e⟩ : Nd)).2 ≠ 0 := by rw [← hv0]; intro e_; have := (vis_zero (tr l n) o).2.2.1 e_; rw [hemp.1] at this; cases this
              have hv : vis (tr l n) o = (ok ++ ([⟨(ix l (n - 1)).lv, a, b, c, e⟩] : List Nd), ((ok ++ ([⟨(ix l (n - 1)).lv, a, b, c, e⟩] : List Nd)).length : Int)) := by rw [hv0, (intr_find hnz).1 h5]; simp
              have hlo : (((ok ++ ([⟨(ix l (n - 1)).lv, a, b, c, e⟩] : List Nd)).length : Nat) : Int) = (ok.length : Int) + 1 := by simp
              have hs9 := vis_self (t := tr l n) o
              rw [hv] at hs9
              have hc9 := (vis_can (tr l n) (wf_tr hl_ok n hn0 hn1b (ix l (n - 1)).lv (fun _ => rfl)) hcan0).1
              rw [hv] at hc9
              have hd9 := cntP_set dk n.toNat (((ok ++ ([⟨(ix l (n - 1)).lv, a, b, c, e⟩] : List Nd)).length : Int)) (by omega) (by have := hhi n (Int.le_refl _); unfold ix at this; rw [this]; exact h2) (by omega)
              refine ⟨_, rfl, v1, _, ?_, hb19, ?_, hO35, ?_, ?_, ?_, ?_, fun i_ hi_ => ?_, fun e_ => ?_, hF23⟩
              · rw [hv]
              · rw [hv]; exact hO36
              · rw [List.length_set]; exact hdl
              · rw [hv]; exact dinv_set (dinv_mono hdi (by first | exact List.prefix_refl _ | exact List.prefix_append _ _)) hn0 (by omega) hs9
              · rw [hv]; exact hc9
              · rw [hv]; rw [hd9]; simp only [List.length_append, List.length_singleton]; omega
              · rw [ix_set _ _ _ _ hn0 (by omega) (by omega), if_neg (by omega)]; exact hhi i_ (by omega)
              · rw [hemp.1] at e_; cases e_
            · refine w_skip' ?_
              refine n_then ?_
              refine w_seq ?_
              refine w_region ?_
              refine st (s_move rfl ?_)
              refine st (s_move rfl ?_)
              refine st (s_move rfl ?_)
              refine st (s_oidx sl46 rfl rfl hO30 (by omega) (by omega) ?_)
              intro g4 hg4 hl_4 hl_5
              refine st0 (s_ostore one3 rfl rfl rfl rfl hO30 hg4 (by omega) (by omega) ⟨rfl, trivial⟩ ?_)
              intro w20 hO37 k19 hs7
              have hb20 := below_g hb16 k19 (by omega)
              have hF24 := hF20.put k19 (by first | exact .inr (by omega) | exact .inl (by assumption) | exact .inl (.inl rfl) | exact .inl (.inr rfl) | exact .inl (.inr (.inl rfl)) | exact .inl (.inr (.inr rfl)))
              have hO38 := Own.keptF node_flat hO29 k19 (by rw [← hg4]; exact hO29.ne_own hO30 (by decide))
              refine r_end ?_
              refine n_then ?_
              refine w_seq ?_
              refine w_region ?_
              refine st (s_move rfl ?_)
              refine st (s_move rfl ?_)
              refine st (s_move rfl ?_)
              refine st (s_assign rfl ?_)
              refine st (s_assign rfl ?_)
              refine st (s_assign rfl ?_)
              refine r_end ?_
              refine n_then ?_
              refine w_ret3 rfl rfl rfl rfl ?_
              have hv0 : vis (tr l n) o = intr ok (⟨(ix l (n - 1)).lv, a, b, c, e⟩ : Nd) := st4_end hl_ok hn1p hn1b hst (if q : 1 < (ix l (n - 1)).lv then .inl ⟨by omega, q⟩ else .inr ⟨hk.2.2 q, q⟩)
              have hnz : (intr ok (⟨(ix l (n - 1)).lv, a, b, c, e⟩ : Nd)).2 ≠ 0 := by rw [← hv0]; intro e_; have := (vis_zero (tr l n) o).2.2.1 e_; rw [hemp.1] at this; cases this
              have hv : vis (tr l n) o = (ok, (findN ok (⟨(ix l (n - 1)).lv, a, b, c, e⟩ : Nd))) := by rw [hv0, (intr_find hnz).2 h5]
              have hlo : 0 ≤ (findN ok (⟨(ix l (n - 1)).lv, a, b, c, e⟩ : Nd)) := find_ge _ _
              have hs9 := vis_self (t := tr l n) o
              rw [hv] at hs9
              have hc9 := (vis_can (tr l n) (wf_tr hl_ok n hn0 hn1b (ix l (n - 1)).lv (fun _ => rfl)) hcan0).1
              rw [hv] at hc9
              have hd9 := cntP_set dk n.toNat ((findN ok (⟨(ix l (n - 1)).lv, a, b, c, e⟩ : Nd))) (by omega) (by have := hhi n (Int.le_refl _); unfold ix at this; rw [this]; exact h2) (by omega)
              refine ⟨_, rfl, vk, _, ?_, hb20, ?_, hO37, ?_, ?_, ?_, ?_, fun i_ hi_ => ?_, fun e_ => ?_, hF24⟩
              · rw [hv]
              · rw [hv]; exact hO38
              · rw [List.length_set]; exact hdl
              · rw [hv]; exact dinv_set (dinv_mono hdi (by first | exact List.prefix_refl _ | exact List.prefix_append _ _)) hn0 (by omega) hs9
              · rw [hv]; exact hc9
              · rw [hv]; rw [hd9]; simp only; omega
              · rw [ix_set _ _ _ _ hn0 (by omega) (by omega), if_neg (by omega)]; exact hhi i_ (by omega)
              · rw [hemp.1] at e_; cases e_
        · refine s_pass rfl rfl ?_
          refine s_pass rfl rfl ?_
          refine s_pass rfl rfl ?_
          refine st (s_pick rfl rfl ?_)
          refine r_end ?_
          refine n_then ?_
          refine w_condF rfl ?_
          refine w_exit' ?_
          refine n_then_exit ?_
          refine n_then_exit ?_
          refine n_block_exit ?_
          refine n_then ?_
          refine w_seq ?_
          refine w_region ?_
          refine st (s_move rfl ?_)
          refine st (s_loadW row35 rfl hBx.range rfl ?_)
          refine st (s_call fn45 rfl (find_any (x := (⟨(ix l (n - 1)).lv, a, b, c, e⟩ : Nd)) hOk.sl) ?_)
          rintro _ w21 ⟨hq2, rfl⟩
          have k20 := grown_of_below hq2 none
          have hb21 := below_g0 hb13 k20
          have hz6 := hb21.size
          have hF25 := hFk.none k20
          have hO39 := hOk.g0 k20
          have hO40 := hDk.g0 k20
          refine st (s_assign rfl ?_)
          refine r_end ?_
          refine n_then ?_
          refine w_seq ?_
          refine w_seq ?_
          refine w_region ?_
          refine st (s_move rfl ?_)
          refine st (s_eq rfl rfl ?_)
          refine r_end ?_
          refine n_then ?_
          refine w_condP rfl (fun h6 => ?_) (fun h6 => ?_)
          · refine w_seq ?_
            refine w_region ?_
            refine st (s_move rfl ?_)
            refine st (s_loadW row35 rfl (hBx.g0 k20).range rfl ?_)
            refine st (s_bslice (ps := [(0, .tmp 69)]) (ccs := [#[.int .i64 ((ix l (n - 1)).lv), .int .i64 a, .int .i64 b, .int .i64 c, .int .i64 e]]) (e := 35) (cells := [.int .i64 ((ix l (n - 1)).lv), .int .i64 a, .int .i64 b, .int .i64 c, .int .i64 e]) rfl rfl (by kernel_rfl) (by decide) nz35 ?_)
            intro g5 w22 hg5 hB6 k21 hs8
            have hb22 := below_g0 hb21 k21
            have hz7 := hb22.size
            have hF26 := hF25.none k21
            have hO41 := hO39.g0 k21
            have hO42 := hO40.g0 k21
            have hS2 := lit_nodes (F := fun _ => False) ([⟨(ix l (n - 1)).lv, a, b, c, e⟩] : List Nd) hB6 (fun h => h) rfl (by first | decide | simp)
            refine st (s_append (K := Kd.node) sl22 rfl rfl hO41 (lit_nodes (F := Out (fun _ => False) vk) ([⟨(ix l (n - 1)).lv, a, b, c, e⟩] : List Nd) hB6 (fun h => h.elim id (fun h => by have h9 := (hO39.lt _ h).2; omega)) rfl (by first | decide | simp)) node_ones (by have := cntP_le dk; simp; omega) (by have := cntP_le dk; simp; omega) (by first | exact Nat.le_refl _ | omega) (fun _ h => h.elim) ?_)
            intro v2 w23 hO43 k22 hr6
            have hn4 := own_app hne hr6 (by have := ((hBx.g0 k20).g0 k21).lt; omega)
            have hb23 := hb22.grown k22 hb22.size (fun k_ hk_ => (hO41.lt k_ hk_).1)
            have hz8 := hb23.size
            have hF27 := hF26.row k22 hr6
            have hO44 := Own.keptF (num_flat _) hO42 k22 (hO42.ne_own hO41 (by decide))
            refine st (s_assign rfl ?_)
            refine r_end ?_
            refine n_then ?_
            refine w_region ?_
            refine st (s_move rfl ?_)
            refine st (s_len sl22 rfl hO43.sl ?_)
            refine st (s_assign rfl ?_)
            refine r_end ?_
            refine n_then ?_
            refine w_seq ?_
            refine w_region ?_
            refine st (s_move rfl ?_)
            refine st (s_move rfl ?_)
            refine st (s_move rfl ?_)
            refine st (s_oidx sl46 rfl rfl hO44 (by omega) (by omega) ?_)
            intro g6 hg6 hl_6 hl_7
            refine st0 (s_ostore one3 rfl rfl rfl rfl hO44 hg6 (by omega) (by omega) ⟨rfl, trivial⟩ ?_)
            intro w24 hO45 k23 hs9
            have hb24 := below_g hb23 k23 (by omega)
            have hF28 := hF27.put k23 (by first | exact .inr (by omega) | exact .inl (by assumption) | exact .inl (.inl rfl) | exact .inl (.inr rfl) | exact .inl (.inr (.inl rfl)) | exact .inl (.inr (.inr rfl)))
            have hO46 := Own.keptF node_flat hO43 k23 (by rw [← hg6]; exact hO43.ne_own hO44 (by decide))
            refine r_end ?_
            refine n_then ?_
            refine w_seq ?_
            refine w_region ?_
            refine st (s_move rfl ?_)
            refine st (s_move rfl ?_)
            refine st (s_move rfl ?_)
            refine st (s_assign rfl ?_)
            refine st (s_assign rfl ?_)
            refine st (s_assign rfl ?_)
            refine r_end ?_
            refine n_then ?_
            refine w_ret3 rfl rfl rfl rfl ?_
            have hv0 : vis (tr l n) o = intr ok (⟨(ix l (n - 1)).lv, a, b, c, e⟩ : Nd) := st4_end hl_ok hn1p hn1b hst (if q : 1 < (ix l (n - 1)).lv then .inl ⟨by omega, q⟩ else .inr ⟨hk.2.2 q, q⟩)
            have hnz : (intr ok (⟨(ix l (n - 1)).lv, a, b, c, e⟩ : Nd)).2 ≠ 0 := by rw [← hv0]; intro e_; have := (vis_zero (tr l n) o).2.2.1 e_; rw [hemp.1] at this; cases this
            have hv : vis (tr l n) o = (ok ++ ([⟨(ix l (n - 1)).lv, a, b, c, e⟩] : List Nd), ((ok ++ ([⟨(ix l (n - 1)).lv, a, b, c, e⟩] : List Nd)).length : Int)) := by rw [hv0, (intr_find hnz).1 h6]; simp
            have hlo : (((ok ++ ([⟨(ix l (n - 1)).lv, a, b, c, e⟩] : List Nd)).length : Nat) : Int) = (ok.length : Int) + 1 := by simp
            have hs9 := vis_self (t := tr l n) o
            rw [hv] at hs9
            have hc9 := (vis_can (tr l n) (wf_tr hl_ok n hn0 hn1b (ix l (n - 1)).lv (fun _ => rfl)) hcan0).1
            rw [hv] at hc9
            have hd9 := cntP_set dk n.toNat (((ok ++ ([⟨(ix l (n - 1)).lv, a, b, c, e⟩] : List Nd)).length : Int)) (by omega) (by have := hhi n (Int.le_refl _); unfold ix at this; rw [this]; exact h2) (by omega)
            refine ⟨_, rfl, v2, _, ?_, hb24, ?_, hO45, ?_, ?_, ?_, ?_, fun i_ hi_ => ?_, fun e_ => ?_, hF28⟩
            · rw [hv]
            · rw [hv]; exact hO46
            · rw [List.length_set]; exact hdl
            · rw [hv]; exact dinv_set (dinv_mono hdi (by first | exact List.prefix_refl _ | exact List.prefix_append _ _)) hn0 (by omega) hs9
            · rw [hv]; exact hc9
            · rw [hv]; rw [hd9]; simp only [List.length_append, List.length_singleton]; omega
            · rw [ix_set _ _ _ _ hn0 (by omega) (by omega), if_neg (by omega)]; exact hhi i_ (by omega)
            · rw [hemp.1] at e_; cases e_
          · refine w_skip' ?_
            refine n_then ?_
            refine w_seq ?_
            refine w_region ?_
            refine st (s_move rfl ?_)
            refine st (s_move rfl ?_)
            refine st (s_move rfl ?_)
            refine st (s_oidx sl46 rfl rfl hO40 (by omega) (by omega) ?_)
            intro g7 hg7 hl_8 hl_9
            refine st0 (s_ostore one3 rfl rfl rfl rfl hO40 hg7 (by omega) (by omega) ⟨rfl, trivial⟩ ?_)
            intro w25 hO47 k24 hs10
            have hb25 := below_g hb21 k24 (by omega)
            have hF29 := hF25.put k24 (by first | exact .inr (by omega) | exact .inl (by assumption) | exact .inl (.inl rfl) | exact .inl (.inr rfl) | exact .inl (.inr (.inl rfl)) | exact .inl (.inr (.inr rfl)))
            have hO48 := Own.keptF node_flat hO39 k24 (by rw [← hg7]; exact hO39.ne_own hO40 (by decide))
            refine r_end ?_
            refine n_then ?_
            refine w_seq ?_
            refine w_region ?_
            refine st (s_move rfl ?_)
            refine st (s_move rfl ?_)
            refine st (s_move rfl ?_)
            refine st (s_assign rfl ?_)
            refine st (s_assign rfl ?_)
            refine st (s_assign rfl ?_)
            refine r_end ?_
            refine n_then ?_
            refine w_ret3 rfl rfl rfl rfl ?_
            have hv0 : vis (tr l n) o = intr ok (⟨(ix l (n - 1)).lv, a, b, c, e⟩ : Nd) := st4_end hl_ok hn1p hn1b hst (if q : 1 < (ix l (n - 1)).lv then .inl ⟨by omega, q⟩ else .inr ⟨hk.2.2 q, q⟩)
            have hnz : (intr ok (⟨(ix l (n - 1)).lv, a, b, c, e⟩ : Nd)).2 ≠ 0 := by rw [← hv0]; intro e_; have := (vis_zero (tr l n) o).2.2.1 e_; rw [hemp.1] at this; cases this
            have hv : vis (tr l n) o = (ok, (findN ok (⟨(ix l (n - 1)).lv, a, b, c, e⟩ : Nd))) := by rw [hv0, (intr_find hnz).2 h6]
            have hlo : 0 ≤ (findN ok (⟨(ix l (n - 1)).lv, a, b, c, e⟩ : Nd)) := find_ge _ _
            have hs9 := vis_self (t := tr l n) o
            rw [hv] at hs9
            have hc9 := (vis_can (tr l n) (wf_tr hl_ok n hn0 hn1b (ix l (n - 1)).lv (fun _ => rfl)) hcan0).1
            rw [hv] at hc9
            have hd9 := cntP_set dk n.toNat ((findN ok (⟨(ix l (n - 1)).lv, a, b, c, e⟩ : Nd))) (by omega) (by have := hhi n (Int.le_refl _); unfold ix at this; rw [this]; exact h2) (by omega)
            refine ⟨_, rfl, vk, _, ?_, hb25, ?_, hO47, ?_, ?_, ?_, ?_, fun i_ hi_ => ?_, fun e_ => ?_, hF29⟩
            · rw [hv]
            · rw [hv]; exact hO48
            · rw [List.length_set]; exact hdl
            · rw [hv]; exact dinv_set (dinv_mono hdi (by first | exact List.prefix_refl _ | exact List.prefix_append _ _)) hn0 (by omega) hs9
            · rw [hv]; exact hc9
            · rw [hv]; rw [hd9]; simp only; omega
            · rw [ix_set _ _ _ _ hn0 (by omega) (by omega), if_neg (by omega)]; exact hhi i_ (by omega)
            · rw [hemp.1] at e_; cases e_
end Go.Proofs.Ytdeiiagkbbimhaa
