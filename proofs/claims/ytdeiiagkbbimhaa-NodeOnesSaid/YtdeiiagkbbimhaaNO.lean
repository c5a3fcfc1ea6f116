/- Part of the proof that is named in YtdeiiagkbbimhaaNRowOnes: a library for walks, or a function's walk. -/
import Derived.Test.YtdeiiagkbbimhaaNM
set_option linter.unusedSimpArgs false
set_option linter.unusedVariables false
namespace Go.Proofs.Ytdeiiagkbbimhaa
open Go.RowKit Go.Gw
theorem twice_any {va : Value} {l : List Nd} {F : Nat → Prop} {w : World} (hl : Sl Kd.node w F va l) (hll : l.length ≤ 1000000) (hf : rightB l = false) :
    Calls Try.prog 11 [.agg [va].toArray].toArray w (Pure w fun v _ => v = .bool false) := by
  have h := right_any hl hll
  rw [hf] at h
  exact h

theorem ones_any {va : Value} {l : List Nd} {F : Nat → Prop} {w : World} (hl : Sl Kd.node w F va l) {c : Int} (hc : 0 ≤ c ∧ c ≤ 255) :
    Calls Try.prog 4 [va, .int .u8 c].toArray w (Pure w fun v _ => v = .bool true) := by
  have hb0 := Below.refl w.heap.size w
  have hln1 := hl.lenle
  refine enter Try.func4 rfl rfl ?_
  refine w_seq ?_
  refine w_region ?_
  refine st (s_assign rfl ?_)
  refine r_end ?_
  refine n_then ?_
  refine w_seq ?_
  refine w_seq ?_
  refine w_region ?_
  refine st (s_call fn8 rfl (alive_any) ?_)
  rintro _ w1 ⟨hq1, rfl⟩
  have k1 := grown_of_below hq1 none
  have hb1 := below_g0 hb0 k1
  have hz1 := hb1.size
  refine st (s_not rfl ?_)
  refine r_end ?_
  refine n_then ?_
  refine w_condF rfl ?_
  refine w_skip' ?_
  refine n_then ?_
  refine w_seq ?_
  refine w_region ?_
  refine st (s_move rfl ?_)
  refine st (s_build (ps := [(0, .tmp 13)]) (ccs := [#[va]]) (cells := [va]) rfl (by simp only [List.map_cons, List.map_nil, hl.cells1] <;> rfl) (by kernel_rfl) ?_)
  refine st (s_alloc zero27 ?_)
  intro g1 w2 hg1 hB1 k2 hs1
  have hb2 := below_g0 hb1 k2
  refine st0 (s_storeN row27 rfl rfl hB1 (by simp only [List.all_cons, List.all_nil, hl.one, Bool.and_true, Bool.and_self] <;> rfl) rfl rfl ?_)
  intro w3 hB2 k3 hs2
  have hb3 := below_g hb2 k3 (by omega)
  clear hB1
  refine r_end ?_
  refine n_then ?_
  refine w_seq ?_
  refine w_seq ?_
  refine w_region ?_
  refine st (s_move rfl ?_)
  refine st (s_len sl22 rfl (hl.at0 hb3) ?_)
  refine st (s_gt rfl rfl ?_)
  refine st (s_move rfl ?_)
  refine r_caseP 18 rfl (fun h1 => ?_) (fun h1 => ?_)
  · refine s_pass rfl rfl ?_
    refine s_pass rfl rfl ?_
    refine s_pass rfl rfl ?_
    refine st (s_pick rfl rfl ?_)
    refine r_end ?_
    refine n_then ?_
    refine w_condT rfl ?_
    refine w_seq ?_
    refine w_region ?_
    refine st (s_assign rfl ?_)
    refine r_end ?_
    refine n_then ?_
    refine w_ret1 rfl rfl ?_
    exact ⟨_, rfl, hb3, rfl⟩
  · refine stg (s_loadW row27 rfl hB2.range rfl ?_)
    refine stg (s_call fn11 rfl (right_any (hl.at0 hb3) (by omega)) ?_)
    rintro _ w4 ⟨hq2, rfl⟩
    have k4 := grown_of_below hq2 none
    have hz2 := hq2.size
    have hb4 := below_g0 hb3 k4
    have hz3 := hb4.size
    refine stg (s_not rfl ?_)
    refine st (s_pick rfl rfl ?_)
    refine r_end ?_
    refine n_then ?_
    refine w_cond rfl (fun h2 => ?_) (fun h2 => ?_)
    · refine w_seq ?_
      refine w_region ?_
      refine st (s_assign rfl ?_)
      refine r_end ?_
      refine n_then ?_
      refine w_ret1 rfl rfl ?_
      exact ⟨_, rfl, hb4, rfl⟩
    · have hr : rightB l = true := by simpa using h2
      have hl_ok := right_loose hr
      refine w_skip' ?_
      refine n_then ?_
      refine w_seq ?_
      refine w_seq ?_
      refine w_region ?_
      refine st (s_move rfl ?_)
      refine st (s_len sl22 rfl (hl.at0 hb4) ?_)
      refine st (s_eq rfl rfl ?_)
      refine r_end ?_
      refine n_then ?_
      refine w_condP rfl (fun h3 => ?_) (fun h3 => ?_)
      · refine w_seq ?_
        refine w_region ?_
        refine st (s_loadW row27 rfl (hB2.g0 k4).range rfl ?_)
        refine st (s_call fn19 rfl (level_any (hl.at0 hb4)) ?_)
        rintro _ w5 ⟨hq3, rfl⟩
        have k5 := grown_of_below hq3 none
        have hz4 := hq3.size
        have hb5 := below_g0 hb4 k5
        have hz5 := hb5.size
        refine st (s_eq rfl rfl ?_)
        refine st (s_assign rfl ?_)
        refine r_end ?_
        refine n_then ?_
        refine w_ret1 rfl rfl ?_
        refine ⟨_, rfl, hb5, ?_⟩
        have e : levelN l = 0 := by unfold levelN; rw [if_pos (by omega)]
        show Value.bool (decide (levelN l = 0)) = .bool true
        rw [decide_eq_true e]
      · have hk0 := Int.tmod_nonneg (l.length : Int) hc.1
        have hk1 := Int.tmod_lt_of_pos c (show (0 : Int) < l.length by omega)
        have hln : levelN l = (ix l ((l.length : Int) - 1)).lv := by unfold levelN; rw [if_neg (by omega)]
        have hll : l.length ≤ 1000000 := by omega
        obtain ⟨_, hh1, hh2, hh3, _⟩ := right_is hr (by omega)
        refine w_skip' ?_
        refine n_then ?_
        refine w_seq ?_
        refine w_region ?_
        refine st (s_move rfl ?_)
        refine st (s_move rfl ?_)
        refine st (s_len sl22 rfl (hl.at0 hb4) ?_)
        refine st (s_sub rfl rfl (by omega) ?_)
        refine st (s_idx sl22 rfl rfl (hl.at0 hb4) (by omega) (by omega) ?_)
        rintro b1 o1 _ ⟨rfl, _⟩ hc1 hF1 hlt1
        have hl_1 := Loc.lt hF1
        refine st (s_loadW row35 rfl hc1 rfl ?_)
        refine st (s_alloc zero35 ?_)
        intro g2 w6 hg2 hB3 k6 hs3
        have hb6 := below_g0 hb4 k6
        refine st0 (s_storeN row35 rfl rfl hB3 rfl rfl rfl ?_)
        intro w7 hB4 k7 hs4
        have hb7 := below_g hb6 k7 (by omega)
        clear hB3
        refine r_end ?_
        refine n_then ?_
        refine w_seq ?_
        refine w_region ?_
        refine st (s_move rfl ?_)
        refine st (s_conv64 intk5 intk3 rfl (by omega) ?_)
        refine st (s_move rfl ?_)
        refine st (s_len sl22 rfl (hl.at0 hb7) ?_)
        refine st (s_rem rfl rfl (by omega) ?_)
        refine st (s_assign rfl ?_)
        refine r_end ?_
        refine n_then ?_
        refine w_seq ?_
        refine w_drawC 15 (fun a b => Below w7.heap.size a b) (Big0 w7.heap.size) (Big w7.heap.size) [(some 40, fun v W => ∃ g, v = .slice (some ⟨g, 0, none⟩) 0 0 ∧ Blk W g 35 #[] ∧ Own Kd.node 35 w7.heap.size W (fun _ => False) v []), (some 41, fun v _ => v = va), (some 42, fun v _ => v = .int .i64 (Int.tmod c (l.length : Int))), (some 43, fun v W => Sl Kd.node W (Gw.Loc F w) v (l.take ((Int.tmod c (l.length : Int))).toNat)), (some 44, fun v W => Own Kd.node 35 w7.heap.size W (fun _ => False) v (l.take ((Int.tmod c (l.length : Int))).toNat)), (some 45, fun v _ => v = va), (some 46, fun v _ => v = .int .i64 (Int.tmod c (l.length : Int))), (some 47, fun v W => ∃ b o, v = .pointer (some ⟨b, o, none⟩) ∧ b < w7.heap.size ∧ W.rangeAt b o (Nd.cells (ix l (Int.tmod c (l.length : Int))))), (some 48, fun v _ => v = .agg (Nd.cells (ix l (Int.tmod c (l.length : Int)))).toArray), (some 49, fun v W => Sl Kd.node W (fun _ => False) v [ix l (Int.tmod c (l.length : Int))]), (some 50, fun v W => Own Kd.node 35 w7.heap.size W (fun _ => False) v (l.take ((Int.tmod c (l.length : Int))).toNat ++ [ix l (Int.tmod c (l.length : Int))])), (some 51, fun v _ => v = va), (some 52, fun v _ => v = .int .i64 (Int.tmod c (l.length : Int))), (some 53, fun v W => Sl Kd.node W (Gw.Loc F w) v (l.drop ((Int.tmod c (l.length : Int))).toNat)), (some 54, fun v W => Own Kd.node 35 w7.heap.size W (fun _ => False) v ((l.take ((Int.tmod c (l.length : Int))).toNat ++ [ix l (Int.tmod c (l.length : Int))]) ++ l.drop ((Int.tmod c (l.length : Int))).toNat))] [[], [], [], [1, 2], [0, 3], [], [], [5, 6], [7], [8], [4, 9], [], [], [11, 12], [10, 13]] [[], [], [], [], [], [], [], [], [], [], [4], [], [], [], [10, 4]] [[4], [], [], [], [10], [], [], [], [], [10], [14], [], [], [], []] [false, false, false, false, false, false, false, false, false, false, true, false, false, false, true] [false, true, true, true, false, true, true, true, true, false, false, true, true, true, false] [(0, va), (4, .bool false), (5, .pointer (some ⟨g1, 0, none⟩)), (6, .pointer (some ⟨g2, 0, none⟩)), (7, .int .i64 (Int.tmod c (l.length : Int)))] (by exact ⟨rfl, rfl, rfl, rfl, rfl, trivial⟩) (by kernel_rfl) (by kernel_rfl) (by kernel_rfl) rfl (Below.refl _) (fun _ _ _ h k => h.trans k) (fun _ _ h => h.below) (fun _ _ h => h.below) ⟨fun _ _ _ h k => by obtain ⟨g, e, hb, ho⟩ := h; exact ⟨g, e, hb.g0 k.2, ho.g0 k.2⟩, fun _ _ _ h _ => h, fun _ _ _ h _ => h, fun _ _ _ h _ => h, fun _ _ _ h _ => h, fun _ _ _ h k => h.g0 k.2, fun _ _ _ h k => Sl.big h (Big.mono k (by omega)), fun _ _ _ h k => h.g0 k.2, fun _ _ _ h _ => h, fun _ _ _ h _ => h, fun _ _ _ h _ => h, fun _ _ _ h _ => h, fun _ _ _ h k => by obtain ⟨b, o, e, hb, hr⟩ := h; exact ⟨b, o, e, hb, range_keep hr (k.below.block b hb)⟩, fun _ _ _ h k => by obtain ⟨b, o, e, hb, hr⟩ := h; exact ⟨b, o, e, hb, range_keep hr (k.below.block b hb)⟩, fun _ _ _ h _ => h, fun _ _ _ h _ => h, fun _ _ _ h k => h.g0 k.2, fun _ _ _ h k => h.g0 k.2, fun _ _ _ h _ => h, fun _ _ _ h _ => h, fun _ _ _ h _ => h, fun _ _ _ h _ => h, fun _ _ _ h k => h.g0 k.2, fun _ _ _ h k => Sl.big h (Big.mono k (by omega)), fun _ _ _ h k => h.g0 k.2, trivial⟩ ?_
        intro w8 k8 hs5
        have hb8 := below_g0 hb7 k8
        refine ⟨⟨?_, ?_, ?_, ?_, ?_, ?_, ?_, ?_, ?_, ?_, ?_, ?_, ?_, ?_, ?_, trivial⟩, ?_⟩
        · intro w8z_ kb
          have kgz_ := grown_of_below (show Below w8.heap.size w8 w8z_ by rw [hs5]; exact kb) none
          have hbz_ := below_g0 hb8 kgz_
          have hzz_ := hbz_.size
          have hez_ := kb.size
          refine op1 (s_bslice0b (K := Kd.node) (base := w7.heap.size) (F := fun _ => False) sl22 (by omega) (fun _ h => h.elim) ?_)
          intro gz_ wz_ hBz_ hOz_ kz_
          exact ⟨⟨gz_, rfl, hBz_, hOz_⟩, ⟨by omega, kz_⟩⟩
        · intro w8z_ kb
          have kgz_ := grown_of_below (show Below w8.heap.size w8 w8z_ by rw [hs5]; exact kb) none
          have hbz_ := below_g0 hb8 kgz_
          have hzz_ := hbz_.size
          have hez_ := kb.size
          exact op1 (s_move rfl ⟨rfl, ⟨by omega, World.grownBy.refl _ _⟩⟩)
        · intro w8z_ kb
          have kgz_ := grown_of_below (show Below w8.heap.size w8 w8z_ by rw [hs5]; exact kb) none
          have hbz_ := below_g0 hb8 kgz_
          have hzz_ := hbz_.size
          have hez_ := kb.size
          exact op1 (s_move rfl ⟨rfl, ⟨by omega, World.grownBy.refl _ _⟩⟩)
        · intro w8z_ kb
          have kgz_ := grown_of_below (show Below w8.heap.size w8 w8z_ by rw [hs5]; exact kb) none
          have hbz_ := below_g0 hb8 kgz_
          have hzz_ := hbz_.size
          have hez_ := kb.size
          intro v_ hv_; subst v_
          intro v_ hv_; subst v_
          refine op1 (s_slhi sl22 rfl rfl (hl.at0 hbz_) (by omega) (by omega) ?_)
          intro vz_ hz_
          exact ⟨hz_, ⟨by omega, World.grownBy.refl _ _⟩⟩
        · intro w8z_ kb
          have kgz_ := grown_of_below (show Below w8.heap.size w8 w8z_ by rw [hs5]; exact kb) none
          have hbz_ := below_g0 hb8 kgz_
          have hzz_ := hbz_.size
          have hez_ := kb.size
          rintro _ ⟨gz_, rfl, hBz_, hOz_⟩
          intro v3z_ h3z_
          refine op1 (s_appendF (K := Kd.node) sl22 rfl rfl hOz_ node_flat h3z_ node_ones (by simp; omega) (by simp; omega) (by omega) (fun _ h => h.elim) ?_)
          intro vz_ wz_ hPz_ kz_ horz_ hzz_
          rw [List.nil_append] at hPz_
          exact ⟨hPz_, ⟨by omega, hzz_ gz_ rfl hBz_⟩⟩
        · intro w8z_ kb
          have kgz_ := grown_of_below (show Below w8.heap.size w8 w8z_ by rw [hs5]; exact kb) none
          have hbz_ := below_g0 hb8 kgz_
          have hzz_ := hbz_.size
          have hez_ := kb.size
          exact op1 (s_move rfl ⟨rfl, ⟨by omega, World.grownBy.refl _ _⟩⟩)
        · intro w8z_ kb
          have kgz_ := grown_of_below (show Below w8.heap.size w8 w8z_ by rw [hs5]; exact kb) none
          have hbz_ := below_g0 hb8 kgz_
          have hzz_ := hbz_.size
          have hez_ := kb.size
          exact op1 (s_move rfl ⟨rfl, ⟨by omega, World.grownBy.refl _ _⟩⟩)
        · intro w8z_ kb
          have kgz_ := grown_of_below (show Below w8.heap.size w8 w8z_ by rw [hs5]; exact kb) none
          have hbz_ := below_g0 hb8 kgz_
          have hzz_ := hbz_.size
          have hez_ := kb.size
          intro v_ hv_; subst v_
          intro v_ hv_; subst v_
          refine op1 (s_idx sl22 rfl rfl (hl.at0 hbz_) (by omega) (by omega) ?_)
          rintro bz_ oz_ _ ⟨rfl, _⟩ hcz_ hFz_ hltz_
          exact ⟨⟨bz_, oz_, rfl, by have := Loc.lt hFz_; omega, hcz_⟩, ⟨by omega, World.grownBy.refl _ _⟩⟩
        · intro w8z_ kb
          have kgz_ := grown_of_below (show Below w8.heap.size w8 w8z_ by rw [hs5]; exact kb) none
          have hbz_ := below_g0 hb8 kgz_
          have hzz_ := hbz_.size
          have hez_ := kb.size
          rintro _ ⟨bz_, oz_, rfl, hltz_, hcz_⟩
          refine op1 (s_loadW row35 rfl hcz_ rfl ?_)
          exact ⟨rfl, ⟨by omega, World.grownBy.refl _ _⟩⟩
        · intro w8z_ kb
          have kgz_ := grown_of_below (show Below w8.heap.size w8 w8z_ by rw [hs5]; exact kb) none
          have hbz_ := below_g0 hb8 kgz_
          have hzz_ := hbz_.size
          have hez_ := kb.size
          intro v_ hv_; subst v_
          refine op1 (s_bslice (ps := [(0, .tmp 48)]) (ccs := [(Nd.cells (ix l (Int.tmod c (l.length : Int)))).toArray]) (e := 35) (cells := Nd.cells (ix l (Int.tmod c (l.length : Int)))) rfl rfl (by kernel_rfl) (by decide) nz35 ?_)
          intro gz_ wz_ hgz_ hBz_ kz_ hsz_
          exact ⟨lit_nodes [ix l (Int.tmod c (l.length : Int))] hBz_ (fun h => h) rfl (by decide), ⟨by omega, kz_⟩⟩
        · intro w8z_ kb
          have kgz_ := grown_of_below (show Below w8.heap.size w8 w8z_ by rw [hs5]; exact kb) none
          have hbz_ := below_g0 hb8 kgz_
          have hzz_ := hbz_.size
          have hez_ := kb.size
          intro v4z_ h4z_ vz_ hz_
          refine op1 (s_appendF (K := Kd.node) sl22 rfl rfl h4z_ node_flat hz_ node_ones (by simp; omega) (by simp; omega) (by omega) (fun _ h => h.elim) ?_)
          intro v8z_ wz_ hPz_ kz_ horz_ hzz_
          exact ⟨hPz_, ⟨by omega, _, kz_, fun g hg => (h4z_.lt g hg).1⟩⟩
        · intro w8z_ kb
          have kgz_ := grown_of_below (show Below w8.heap.size w8 w8z_ by rw [hs5]; exact kb) none
          have hbz_ := below_g0 hb8 kgz_
          have hzz_ := hbz_.size
          have hez_ := kb.size
          exact op1 (s_move rfl ⟨rfl, ⟨by omega, World.grownBy.refl _ _⟩⟩)
        · intro w8z_ kb
          have kgz_ := grown_of_below (show Below w8.heap.size w8 w8z_ by rw [hs5]; exact kb) none
          have hbz_ := below_g0 hb8 kgz_
          have hzz_ := hbz_.size
          have hez_ := kb.size
          exact op1 (s_move rfl ⟨rfl, ⟨by omega, World.grownBy.refl _ _⟩⟩)
        · intro w8z_ kb
          have kgz_ := grown_of_below (show Below w8.heap.size w8 w8z_ by rw [hs5]; exact kb) none
          have hbz_ := below_g0 hb8 kgz_
          have hzz_ := hbz_.size
          have hez_ := kb.size
          intro v_ hv_; subst v_
          intro v_ hv_; subst v_
          refine op1 (s_sllo sl22 rfl rfl (hl.at0 hbz_) (by omega) (by omega) ?_)
          intro vz_ hz_
          exact ⟨hz_, ⟨by omega, World.grownBy.refl _ _⟩⟩
        · intro w8z_ kb
          have kgz_ := grown_of_below (show Below w8.heap.size w8 w8z_ by rw [hs5]; exact kb) none
          have hbz_ := below_g0 hb8 kgz_
          have hzz_ := hbz_.size
          have hez_ := kb.size
          intro v4z_ h4z_ vz_ hz_
          refine op1 (s_appendF (K := Kd.node) sl22 rfl rfl h4z_ node_flat hz_ node_ones (by simp; omega) (by simp; omega) (by omega) (fun _ h => h.elim) ?_)
          intro v8z_ wz_ hPz_ kz_ horz_ hzz_
          exact ⟨hPz_, ⟨by omega, _, kz_, fun g hg => (h4z_.lt g hg).1⟩⟩
        intro w9 kb
        have k9 := grown_of_below (show Below w8.heap.size w8 w9 by rw [hs5]; exact kb) none
        have hb9 := below_g0 hb8 k9
        have hz6 := hb9.size
        intro v40 _
        intro v_ hv_; subst v_
        intro v_ hv_; subst v_
        intro v43 h43
        intro v44 _
        intro v_ hv_; subst v_
        intro v_ hv_; subst v_
        intro v47 h47
        intro v_ hv_; subst v_
        intro v49 _
        intro v50 _
        intro v_ hv_; subst v_
        intro v_ hv_; subst v_
        intro v53 h53
        intro v54 h54
        have htw : rightB ((l.take ((Int.tmod c (l.length : Int))).toNat ++ [ix l (Int.tmod c (l.length : Int))]) ++ l.drop ((Int.tmod c (l.length : Int))).toNat) = false := right_twice (a := l.take ((Int.tmod c (l.length : Int))).toNat) (x := ix l (Int.tmod c (l.length : Int))) (b := l.drop (((Int.tmod c (l.length : Int))).toNat + 1)) (by rw [drop_ix l (Int.tmod c (l.length : Int)) hk0 hk1])
        have hll2 : ((l.take ((Int.tmod c (l.length : Int))).toNat ++ [ix l (Int.tmod c (l.length : Int))]) ++ l.drop ((Int.tmod c (l.length : Int))).toNat).length ≤ 1000000 := by simp; omega
        refine st (s_assign rfl ?_)
        refine r_end ?_
        refine n_then ?_
        refine w_seq ?_
        refine w_seq ?_
        by_cases h4 : levelN l ≠ (ix l ((l.length : Int) - 1)).lv
        · refine w_draw 22 (fun a b => a.grownBy b none) [(some 55, fun v _ => v = .agg [va].toArray), (some 56, fun v _ => v = .int .i64 (levelN l)), (some 57, fun v _ => v = .pointer (some ⟨g2, 0 + 0, none⟩)), (some 58, fun v _ => v = .int .i64 ((ix l ((l.length : Int) - 1)).lv)), (some 59, fun v _ => v = .bool (decide (levelN l ≠ (ix l ((l.length : Int) - 1)).lv))), (some 60, fun v _ => v = .bool true), (some 61, fun v _ => v = undef), (some 62, fun v _ => v = undef), (some 63, fun v _ => v = undef), (some 64, fun v _ => v = .bool true), (some 65, fun v _ => v = .bool true), (some 66, fun v _ => v = undef), (some 67, fun v _ => v = undef), (some 68, fun v _ => v = undef), (some 69, fun v _ => v = undef), (some 70, fun v _ => v = .bool true), (some 71, fun v _ => v = .bool true), (some 72, fun v _ => v = undef), (some 73, fun v _ => v = undef), (some 74, fun v _ => v = undef), (some 75, fun v _ => v = undef), (some 76, fun v _ => v = .bool true)] [[], [0], [], [2], [1, 3], [4], [5], [5, 6], [5, 7], [5, 8], [9], [10], [10], [10, 12], [10, 11, 13], [10, 14], [15], [16], [16], [16, 18], [16, 17, 19], [16, 20]] [(0, va), (4, .bool false), (5, .pointer (some ⟨g1, 0, none⟩)), (6, .pointer (some ⟨g2, 0, none⟩)), (7, .int .i64 (Int.tmod c (l.length : Int))), (8, v54)] (by exact ⟨rfl, rfl, rfl, rfl, rfl, rfl, trivial⟩) (by kernel_rfl) (by kernel_rfl) grown_none_refl (fun _ _ _ => grown_none_trans) ⟨fun _ _ _ h _ => h, fun _ _ _ h _ => h, fun _ _ _ h _ => h, fun _ _ _ h _ => h, fun _ _ _ h _ => h, fun _ _ _ h _ => h, fun _ _ _ h _ => h, fun _ _ _ h _ => h, fun _ _ _ h _ => h, fun _ _ _ h _ => h, fun _ _ _ h _ => h, fun _ _ _ h _ => h, fun _ _ _ h _ => h, fun _ _ _ h _ => h, fun _ _ _ h _ => h, fun _ _ _ h _ => h, fun _ _ _ h _ => h, fun _ _ _ h _ => h, fun _ _ _ h _ => h, fun _ _ _ h _ => h, fun _ _ _ h _ => h, fun _ _ _ h _ => h, trivial⟩ ?_
          intro w11 k11 hs6
          have hb10 := below_g0 hb9 k11
          have hO1 := h54.g0 k11
          refine ⟨⟨?_, ?_, ?_, ?_, ?_, ?_, ?_, ?_, ?_, ?_, ?_, ?_, ?_, ?_, ?_, ?_, ?_, ?_, ?_, ?_, ?_, ?_, trivial⟩, ?_⟩
          · intro w12 k12
            have hb11 := below_g0 hb10 k12
            have hO2 := hO1.g0 k12
            refine op1 (s_loadW row27 rfl (((((((hB2.g0 k4).g0 k6).gne k7 (by omega)).g0 k8).g0 k9).g0 k11).g0 k12).range rfl ?_)
            exact ⟨rfl, grown_none_refl _⟩
          · intro w13 k13
            have hb12 := below_g0 hb10 k13
            have hO3 := hO1.g0 k13
            rintro _ rfl
            refine op1 (s_call fn19 rfl (level_any (hl.at0 hb12)) ?_)
            rintro _ w14 ⟨hq5, rfl⟩
            have k14 := grown_of_below hq5 none
            have hz7 := hq5.size
            have hb13 := below_g0 hb12 k14
            have hz8 := hb13.size
            have hO4 := hO3.g0 k14
            exact ⟨rfl, k14⟩
          · intro w15 k15
            have hb14 := below_g0 hb10 k15
            have hO5 := hO1.g0 k15
            refine op1 (s_faddr fld35_0 rfl ?_)
            exact ⟨rfl, grown_none_refl _⟩
          · intro w16 k16
            have hb15 := below_g0 hb10 k16
            have hO6 := hO1.g0 k16
            rintro _ rfl
            refine op1 (s_load one3 rfl ((((hB4.g0 k8).g0 k9).g0 k11).g0 k16).range (j := 0) rfl ?_)
            exact ⟨rfl, grown_none_refl _⟩
          · intro w17 k17
            have hb16 := below_g0 hb10 k17
            have hO7 := hO1.g0 k17
            rintro _ rfl
            rintro _ rfl
            refine op1 (s_ne rfl rfl ?_)
            exact ⟨rfl, grown_none_refl _⟩
          · intro w18 k18
            have hb17 := below_g0 hb10 k18
            have hO8 := hO1.g0 k18
            rintro _ rfl
            refine op1 (s_move rfl ?_)
            exact ⟨(by rw [decide_eq_true h4]), grown_none_refl _⟩
          · intro w19 k19
            have hb18 := below_g0 hb10 k19
            have hO9 := hO1.g0 k19
            rintro _ rfl
            refine op1p ⟨rfl, grown_none_refl _⟩
          · intro w20 k20
            have hb19 := below_g0 hb10 k20
            have hO10 := hO1.g0 k20
            rintro _ rfl
            intro v_ hv_; subst v_
            refine op1p ⟨rfl, grown_none_refl _⟩
          · intro w21 k21
            have hb20 := below_g0 hb10 k21
            have hO11 := hO1.g0 k21
            rintro _ rfl
            intro v_ hv_; subst v_
            refine op1p ⟨rfl, grown_none_refl _⟩
          · intro w22 k22
            have hb21 := below_g0 hb10 k22
            have hO12 := hO1.g0 k22
            rintro _ rfl
            intro v_ hv_; subst v_
            refine op1 (s_pick rfl rfl ?_)
            exact ⟨rfl, grown_none_refl _⟩
          · intro w23 k23
            have hb22 := below_g0 hb10 k23
            have hO13 := hO1.g0 k23
            rintro _ rfl
            refine op1 (s_move rfl ?_)
            exact ⟨rfl, grown_none_refl _⟩
          · intro w24 k24
            have hb23 := below_g0 hb10 k24
            have hO14 := hO1.g0 k24
            rintro _ rfl
            refine op1p ⟨rfl, grown_none_refl _⟩
          · intro w25 k25
            have hb24 := below_g0 hb10 k25
            have hO15 := hO1.g0 k25
            rintro _ rfl
            refine op1p ⟨rfl, grown_none_refl _⟩
          · intro w26 k26
            have hb25 := below_g0 hb10 k26
            have hO16 := hO1.g0 k26
            rintro _ rfl
            intro v_ hv_; subst v_
            refine op1p ⟨rfl, grown_none_refl _⟩
          · intro w27 k27
            have hb26 := below_g0 hb10 k27
            have hO17 := hO1.g0 k27
            rintro _ rfl
            intro v_ hv_; subst v_
            intro v_ hv_; subst v_
            refine op1p ⟨rfl, grown_none_refl _⟩
          · intro w28 k28
            have hb27 := below_g0 hb10 k28
            have hO18 := hO1.g0 k28
            rintro _ rfl
            intro v_ hv_; subst v_
            refine op1 (s_pick rfl rfl ?_)
            exact ⟨rfl, grown_none_refl _⟩
          · intro w29 k29
            have hb28 := below_g0 hb10 k29
            have hO19 := hO1.g0 k29
            rintro _ rfl
            refine op1 (s_move rfl ?_)
            exact ⟨rfl, grown_none_refl _⟩
          · intro w30 k30
            have hb29 := below_g0 hb10 k30
            have hO20 := hO1.g0 k30
            rintro _ rfl
            refine op1p ⟨rfl, grown_none_refl _⟩
          · intro w31 k31
            have hb30 := below_g0 hb10 k31
            have hO21 := hO1.g0 k31
            rintro _ rfl
            refine op1p ⟨rfl, grown_none_refl _⟩
          · intro w32 k32
            have hb31 := below_g0 hb10 k32
            have hO22 := hO1.g0 k32
            rintro _ rfl
            intro v_ hv_; subst v_
            refine op1p ⟨rfl, grown_none_refl _⟩
          · intro w33 k33
            have hb32 := below_g0 hb10 k33
            have hO23 := hO1.g0 k33
            rintro _ rfl
            intro v_ hv_; subst v_
            intro v_ hv_; subst v_
            refine op1p ⟨rfl, grown_none_refl _⟩
          · intro w34 k34
            have hb33 := below_g0 hb10 k34
            have hO24 := hO1.g0 k34
            rintro _ rfl
            intro v_ hv_; subst v_
            refine op1 (s_pick rfl rfl ?_)
            exact ⟨rfl, grown_none_refl _⟩
          · intro w35 k35
            have hb34 := below_g0 hb10 k35
            have hO25 := hO1.g0 k35
            rintro _ rfl
            rintro _ rfl
            rintro _ rfl
            rintro _ rfl
            rintro _ rfl
            rintro _ rfl
            intro v_ hv_; subst v_
            intro v_ hv_; subst v_
            intro v_ hv_; subst v_
            rintro _ rfl
            rintro _ rfl
            intro v_ hv_; subst v_
            intro v_ hv_; subst v_
            intro v_ hv_; subst v_
            intro v_ hv_; subst v_
            rintro _ rfl
            rintro _ rfl
            intro v_ hv_; subst v_
            intro v_ hv_; subst v_
            intro v_ hv_; subst v_
            intro v_ hv_; subst v_
            rintro _ rfl
            refine r_end ?_
            refine n_then ?_
            refine w_condT rfl ?_
            refine w_seq ?_
            refine w_region ?_
            refine st (s_assign rfl ?_)
            refine r_end ?_
            refine n_then ?_
            refine w_ret1 rfl rfl ?_
            refine ⟨_, rfl, hb34, ?_⟩
            exact absurd hln h4
        · rcases Bool.eq_false_or_eq_true (hollowB l (l.length : Int)) with h5 | h5
          · refine w_draw 22 (fun a b => a.grownBy b none) [(some 55, fun v _ => v = .agg [va].toArray), (some 56, fun v _ => v = .int .i64 (levelN l)), (some 57, fun v _ => v = .pointer (some ⟨g2, 0 + 0, none⟩)), (some 58, fun v _ => v = .int .i64 ((ix l ((l.length : Int) - 1)).lv)), (some 59, fun v _ => v = .bool (decide (levelN l ≠ (ix l ((l.length : Int) - 1)).lv))), (some 60, fun v _ => v = .bool false), (some 61, fun v _ => v = v54), (some 62, fun v _ => v = .agg [v54].toArray), (some 63, fun v _ => v = .bool false), (some 64, fun v _ => v = .bool false), (some 65, fun v _ => v = .bool false), (some 66, fun v _ => v = va), (some 67, fun v _ => v = va), (some 68, fun v _ => v = .int .i64 (l.length : Int)), (some 69, fun v _ => v = .bool (hollowB l (l.length : Int))), (some 70, fun v _ => v = .bool (hollowB l (l.length : Int))), (some 71, fun v _ => v = .bool true), (some 72, fun v _ => v = undef), (some 73, fun v _ => v = undef), (some 74, fun v _ => v = undef), (some 75, fun v _ => v = undef), (some 76, fun v _ => v = .bool true)] [[], [0], [], [2], [1, 3], [4], [5], [5, 6], [5, 7], [5, 8], [9], [10], [10], [10, 12], [10, 11, 13], [10, 14], [15], [16], [16], [16, 18], [16, 17, 19], [16, 20]] [(0, va), (4, .bool false), (5, .pointer (some ⟨g1, 0, none⟩)), (6, .pointer (some ⟨g2, 0, none⟩)), (7, .int .i64 (Int.tmod c (l.length : Int))), (8, v54)] (by exact ⟨rfl, rfl, rfl, rfl, rfl, rfl, trivial⟩) (by kernel_rfl) (by kernel_rfl) grown_none_refl (fun _ _ _ => grown_none_trans) ⟨fun _ _ _ h _ => h, fun _ _ _ h _ => h, fun _ _ _ h _ => h, fun _ _ _ h _ => h, fun _ _ _ h _ => h, fun _ _ _ h _ => h, fun _ _ _ h _ => h, fun _ _ _ h _ => h, fun _ _ _ h _ => h, fun _ _ _ h _ => h, fun _ _ _ h _ => h, fun _ _ _ h _ => h, fun _ _ _ h _ => h, fun _ _ _ h _ => h, fun _ _ _ h _ => h, fun _ _ _ h _ => h, fun _ _ _ h _ => h, fun _ _ _ h _ => h, fun _ _ _ h _ => h, fun _ _ _ h _ => h, fun _ _ _ h _ => h, fun _ _ _ h _ => h, trivial⟩ ?_
            intro w39 k39 hs7
            have hb35 := below_g0 hb9 k39
            have hO26 := h54.g0 k39
            refine ⟨⟨?_, ?_, ?_, ?_, ?_, ?_, ?_, ?_, ?_, ?_, ?_, ?_, ?_, ?_, ?_, ?_, ?_, ?_, ?_, ?_, ?_, ?_, trivial⟩, ?_⟩
            · intro w40 k40
              have hb36 := below_g0 hb35 k40
              have hO27 := hO26.g0 k40
              refine op1 (s_loadW row27 rfl (((((((hB2.g0 k4).g0 k6).gne k7 (by omega)).g0 k8).g0 k9).g0 k39).g0 k40).range rfl ?_)
              exact ⟨rfl, grown_none_refl _⟩
            · intro w41 k41
              have hb37 := below_g0 hb35 k41
              have hO28 := hO26.g0 k41
              rintro _ rfl
              refine op1 (s_call fn19 rfl (level_any (hl.at0 hb37)) ?_)
              rintro _ w42 ⟨hq9, rfl⟩
              have k42 := grown_of_below hq9 none
              have hz9 := hq9.size
              have hb38 := below_g0 hb37 k42
              have hz10 := hb38.size
              have hO29 := hO28.g0 k42
              exact ⟨rfl, k42⟩
            · intro w43 k43
              have hb39 := below_g0 hb35 k43
              have hO30 := hO26.g0 k43
              refine op1 (s_faddr fld35_0 rfl ?_)
              exact ⟨rfl, grown_none_refl _⟩
            · intro w44 k44
              have hb40 := below_g0 hb35 k44
              have hO31 := hO26.g0 k44
              rintro _ rfl
              refine op1 (s_load one3 rfl ((((hB4.g0 k8).g0 k9).g0 k39).g0 k44).range (j := 0) rfl ?_)
              exact ⟨rfl, grown_none_refl _⟩
            · intro w45 k45
              have hb41 := below_g0 hb35 k45
              have hO32 := hO26.g0 k45
              rintro _ rfl
              rintro _ rfl
              refine op1 (s_ne rfl rfl ?_)
              exact ⟨rfl, grown_none_refl _⟩
            · intro w46 k46
              have hb42 := below_g0 hb35 k46
              have hO33 := hO26.g0 k46
              rintro _ rfl
              refine op1 (s_move rfl ?_)
              exact ⟨(by rw [decide_eq_false h4]), grown_none_refl _⟩
            · intro w47 k47
              have hb43 := below_g0 hb35 k47
              have hO34 := hO26.g0 k47
              rintro _ rfl
              refine op1g (s_move rfl ?_)
              exact ⟨rfl, grown_none_refl _⟩
            · intro w48 k48
              have hb44 := below_g0 hb35 k48
              have hO35 := hO26.g0 k48
              rintro _ rfl
              intro v_ hv_; subst v_
              refine op1g (s_build (ps := [(0, .tmp 61)]) (ccs := [#[v54]]) (cells := [v54]) rfl (by simp only [List.map_cons, List.map_nil, hO35.cells1] <;> rfl) (by kernel_rfl) ?_)
              exact ⟨rfl, grown_none_refl _⟩
            · intro w49 k49
              have hb45 := below_g0 hb35 k49
              have hO36 := hO26.g0 k49
              rintro _ rfl
              rintro _ rfl
              refine op1g (s_call fn11 rfl (twice_any hO36.sl hll2 htw) ?_)
              rintro _ w50 ⟨hq10, rfl⟩
              have k50 := grown_of_below hq10 none
              have hz11 := hq10.size
              have hb46 := below_g0 hb45 k50
              have hz12 := hb46.size
              have hO37 := hO36.g0 k50
              exact ⟨rfl, k50⟩
            · intro w51 k51
              have hb47 := below_g0 hb35 k51
              have hO38 := hO26.g0 k51
              rintro _ rfl
              rintro _ rfl
              refine op1 (s_pick rfl rfl ?_)
              exact ⟨rfl, grown_none_refl _⟩
            · intro w52 k52
              have hb48 := below_g0 hb35 k52
              have hO39 := hO26.g0 k52
              rintro _ rfl
              refine op1 (s_move rfl ?_)
              exact ⟨rfl, grown_none_refl _⟩
            · intro w53 k53
              have hb49 := below_g0 hb35 k53
              have hO40 := hO26.g0 k53
              rintro _ rfl
              refine op1g (s_move rfl ?_)
              exact ⟨rfl, grown_none_refl _⟩
            · intro w54 k54
              have hb50 := below_g0 hb35 k54
              have hO41 := hO26.g0 k54
              rintro _ rfl
              refine op1g (s_move rfl ?_)
              exact ⟨rfl, grown_none_refl _⟩
            · intro w55 k55
              have hb51 := below_g0 hb35 k55
              have hO42 := hO26.g0 k55
              rintro _ rfl
              intro v_ hv_; subst v_
              refine op1g (s_len sl22 rfl (hl.at0 hb51) ?_)
              exact ⟨rfl, grown_none_refl _⟩
            · intro w56 k56
              have hb52 := below_g0 hb35 k56
              have hO43 := hO26.g0 k56
              rintro _ rfl
              intro v_ hv_; subst v_
              rintro _ rfl
              refine op1g (s_call fn17 rfl (hollow_any (hl.at0 hb52) hl_ok hll (by omega) (by omega)) ?_)
              rintro _ w57 ⟨hq11, rfl⟩
              have k57 := grown_of_below hq11 none
              have hz13 := hq11.size
              have hb53 := below_g0 hb52 k57
              have hz14 := hb53.size
              have hO44 := hO43.g0 k57
              exact ⟨rfl, k57⟩
            · intro w58 k58
              have hb54 := below_g0 hb35 k58
              have hO45 := hO26.g0 k58
              rintro _ rfl
              rintro _ rfl
              refine op1 (s_pick rfl rfl ?_)
              exact ⟨rfl, grown_none_refl _⟩
            · intro w59 k59
              have hb55 := below_g0 hb35 k59
              have hO46 := hO26.g0 k59
              rintro _ rfl
              refine op1 (s_move rfl ?_)
              exact ⟨(by rw [h5]), grown_none_refl _⟩
            · intro w60 k60
              have hb56 := below_g0 hb35 k60
              have hO47 := hO26.g0 k60
              rintro _ rfl
              refine op1p ⟨rfl, grown_none_refl _⟩
            · intro w61 k61
              have hb57 := below_g0 hb35 k61
              have hO48 := hO26.g0 k61
              rintro _ rfl
              refine op1p ⟨rfl, grown_none_refl _⟩
            · intro w62 k62
              have hb58 := below_g0 hb35 k62
              have hO49 := hO26.g0 k62
              rintro _ rfl
              intro v_ hv_; subst v_
              refine op1p ⟨rfl, grown_none_refl _⟩
            · intro w63 k63
              have hb59 := below_g0 hb35 k63
              have hO50 := hO26.g0 k63
              rintro _ rfl
              intro v_ hv_; subst v_
              intro v_ hv_; subst v_
              refine op1p ⟨rfl, grown_none_refl _⟩
            · intro w64 k64
              have hb60 := below_g0 hb35 k64
              have hO51 := hO26.g0 k64
              rintro _ rfl
              intro v_ hv_; subst v_
              refine op1 (s_pick rfl rfl ?_)
              exact ⟨rfl, grown_none_refl _⟩
            · intro w65 k65
              have hb61 := below_g0 hb35 k65
              have hO52 := hO26.g0 k65
              rintro _ rfl
              rintro _ rfl
              rintro _ rfl
              rintro _ rfl
              rintro _ rfl
              rintro _ rfl
              intro v_ hv_; subst v_
              rintro _ rfl
              rintro _ rfl
              rintro _ rfl
              rintro _ rfl
              intro v_ hv_; subst v_
              intro v_ hv_; subst v_
              rintro _ rfl
              rintro _ rfl
              rintro _ rfl
              rintro _ rfl
              intro v_ hv_; subst v_
              intro v_ hv_; subst v_
              intro v_ hv_; subst v_
              intro v_ hv_; subst v_
              rintro _ rfl
              refine r_end ?_
              refine n_then ?_
              refine w_condT rfl ?_
              refine w_seq ?_
              refine w_region ?_
              refine st (s_assign rfl ?_)
              refine r_end ?_
              refine n_then ?_
              refine w_ret1 rfl rfl ?_
              refine ⟨_, rfl, hb61, ?_⟩
              rw [hh1] at h5
              exact absurd h5 (by decide)
          · refine w_draw 22 (fun a b => a.grownBy b none) [(some 55, fun v _ => v = .agg [va].toArray), (some 56, fun v _ => v = .int .i64 (levelN l)), (some 57, fun v _ => v = .pointer (some ⟨g2, 0 + 0, none⟩)), (some 58, fun v _ => v = .int .i64 ((ix l ((l.length : Int) - 1)).lv)), (some 59, fun v _ => v = .bool (decide (levelN l ≠ (ix l ((l.length : Int) - 1)).lv))), (some 60, fun v _ => v = .bool false), (some 61, fun v _ => v = v54), (some 62, fun v _ => v = .agg [v54].toArray), (some 63, fun v _ => v = .bool false), (some 64, fun v _ => v = .bool false), (some 65, fun v _ => v = .bool false), (some 66, fun v _ => v = va), (some 67, fun v _ => v = va), (some 68, fun v _ => v = .int .i64 (l.length : Int)), (some 69, fun v _ => v = .bool (hollowB l (l.length : Int))), (some 70, fun v _ => v = .bool (hollowB l (l.length : Int))), (some 71, fun v _ => v = .bool false), (some 72, fun v _ => v = va), (some 73, fun v _ => v = .int .i64 (Int.tmod c (l.length : Int))), (some 74, fun v _ => v = .int .i64 ((Int.tmod c (l.length : Int)) + 1)), (some 75, fun v _ => v = .bool (!(ix (hasL l) ((Int.tmod c (l.length : Int)) + 1)))), (some 76, fun v _ => v = .bool (!(ix (hasL l) ((Int.tmod c (l.length : Int)) + 1))))] [[], [0], [], [2], [1, 3], [4], [5], [5, 6], [5, 7], [5, 8], [9], [10], [10], [10, 12], [10, 11, 13], [10, 14], [15], [16], [16], [16, 18], [16, 17, 19], [16, 20]] [(0, va), (4, .bool false), (5, .pointer (some ⟨g1, 0, none⟩)), (6, .pointer (some ⟨g2, 0, none⟩)), (7, .int .i64 (Int.tmod c (l.length : Int))), (8, v54)] (by exact ⟨rfl, rfl, rfl, rfl, rfl, rfl, trivial⟩) (by kernel_rfl) (by kernel_rfl) grown_none_refl (fun _ _ _ => grown_none_trans) ⟨fun _ _ _ h _ => h, fun _ _ _ h _ => h, fun _ _ _ h _ => h, fun _ _ _ h _ => h, fun _ _ _ h _ => h, fun _ _ _ h _ => h, fun _ _ _ h _ => h, fun _ _ _ h _ => h, fun _ _ _ h _ => h, fun _ _ _ h _ => h, fun _ _ _ h _ => h, fun _ _ _ h _ => h, fun _ _ _ h _ => h, fun _ _ _ h _ => h, fun _ _ _ h _ => h, fun _ _ _ h _ => h, fun _ _ _ h _ => h, fun _ _ _ h _ => h, fun _ _ _ h _ => h, fun _ _ _ h _ => h, fun _ _ _ h _ => h, fun _ _ _ h _ => h, trivial⟩ ?_
            intro w70 k70 hs8
            have hb62 := below_g0 hb9 k70
            have hO53 := h54.g0 k70
            refine ⟨⟨?_, ?_, ?_, ?_, ?_, ?_, ?_, ?_, ?_, ?_, ?_, ?_, ?_, ?_, ?_, ?_, ?_, ?_, ?_, ?_, ?_, ?_, trivial⟩, ?_⟩
            · intro w71 k71
              have hb63 := below_g0 hb62 k71
              have hO54 := hO53.g0 k71
              refine op1 (s_loadW row27 rfl (((((((hB2.g0 k4).g0 k6).gne k7 (by omega)).g0 k8).g0 k9).g0 k70).g0 k71).range rfl ?_)
              exact ⟨rfl, grown_none_refl _⟩
            · intro w72 k72
              have hb64 := below_g0 hb62 k72
              have hO55 := hO53.g0 k72
              rintro _ rfl
              refine op1 (s_call fn19 rfl (level_any (hl.at0 hb64)) ?_)
              rintro _ w73 ⟨hq16, rfl⟩
              have k73 := grown_of_below hq16 none
              have hz15 := hq16.size
              have hb65 := below_g0 hb64 k73
              have hz16 := hb65.size
              have hO56 := hO55.g0 k73
              exact ⟨rfl, k73⟩
            · intro w74 k74
              have hb66 := below_g0 hb62 k74
              have hO57 := hO53.g0 k74
              refine op1 (s_faddr fld35_0 rfl ?_)
              exact ⟨rfl, grown_none_refl _⟩
            · intro w75 k75
              have hb67 := below_g0 hb62 k75
              have hO58 := hO53.g0 k75
              rintro _ rfl
              refine op1 (s_load one3 rfl ((((hB4.g0 k8).g0 k9).g0 k70).g0 k75).range (j := 0) rfl ?_)
              exact ⟨rfl, grown_none_refl _⟩
            · intro w76 k76
              have hb68 := below_g0 hb62 k76
              have hO59 := hO53.g0 k76
              rintro _ rfl
              rintro _ rfl
              refine op1 (s_ne rfl rfl ?_)
              exact ⟨rfl, grown_none_refl _⟩
            · intro w77 k77
              have hb69 := below_g0 hb62 k77
              have hO60 := hO53.g0 k77
              rintro _ rfl
              refine op1 (s_move rfl ?_)
              exact ⟨(by rw [decide_eq_false h4]), grown_none_refl _⟩
            · intro w78 k78
              have hb70 := below_g0 hb62 k78
              have hO61 := hO53.g0 k78
              rintro _ rfl
              refine op1g (s_move rfl ?_)
              exact ⟨rfl, grown_none_refl _⟩
            · intro w79 k79
              have hb71 := below_g0 hb62 k79
              have hO62 := hO53.g0 k79
              rintro _ rfl
              intro v_ hv_; subst v_
              refine op1g (s_build (ps := [(0, .tmp 61)]) (ccs := [#[v54]]) (cells := [v54]) rfl (by simp only [List.map_cons, List.map_nil, hO62.cells1] <;> rfl) (by kernel_rfl) ?_)
              exact ⟨rfl, grown_none_refl _⟩
            · intro w80 k80
              have hb72 := below_g0 hb62 k80
              have hO63 := hO53.g0 k80
              rintro _ rfl
              rintro _ rfl
              refine op1g (s_call fn11 rfl (twice_any hO63.sl hll2 htw) ?_)
              rintro _ w81 ⟨hq17, rfl⟩
              have k81 := grown_of_below hq17 none
              have hz17 := hq17.size
              have hb73 := below_g0 hb72 k81
              have hz18 := hb73.size
              have hO64 := hO63.g0 k81
              exact ⟨rfl, k81⟩
            · intro w82 k82
              have hb74 := below_g0 hb62 k82
              have hO65 := hO53.g0 k82
              rintro _ rfl
              rintro _ rfl
              refine op1 (s_pick rfl rfl ?_)
              exact ⟨rfl, grown_none_refl _⟩
            · intro w83 k83
              have hb75 := below_g0 hb62 k83
              have hO66 := hO53.g0 k83
              rintro _ rfl
              refine op1 (s_move rfl ?_)
              exact ⟨rfl, grown_none_refl _⟩
            · intro w84 k84
              have hb76 := below_g0 hb62 k84
              have hO67 := hO53.g0 k84
              rintro _ rfl
              refine op1g (s_move rfl ?_)
              exact ⟨rfl, grown_none_refl _⟩
            · intro w85 k85
              have hb77 := below_g0 hb62 k85
              have hO68 := hO53.g0 k85
              rintro _ rfl
              refine op1g (s_move rfl ?_)
              exact ⟨rfl, grown_none_refl _⟩
            · intro w86 k86
              have hb78 := below_g0 hb62 k86
              have hO69 := hO53.g0 k86
              rintro _ rfl
              intro v_ hv_; subst v_
              refine op1g (s_len sl22 rfl (hl.at0 hb78) ?_)
              exact ⟨rfl, grown_none_refl _⟩
            · intro w87 k87
              have hb79 := below_g0 hb62 k87
              have hO70 := hO53.g0 k87
              rintro _ rfl
              intro v_ hv_; subst v_
              rintro _ rfl
              refine op1g (s_call fn17 rfl (hollow_any (hl.at0 hb79) hl_ok hll (by omega) (by omega)) ?_)
              rintro _ w88 ⟨hq18, rfl⟩
              have k88 := grown_of_below hq18 none
              have hz19 := hq18.size
              have hb80 := below_g0 hb79 k88
              have hz20 := hb80.size
              have hO71 := hO70.g0 k88
              exact ⟨rfl, k88⟩
            · intro w89 k89
              have hb81 := below_g0 hb62 k89
              have hO72 := hO53.g0 k89
              rintro _ rfl
              rintro _ rfl
              refine op1 (s_pick rfl rfl ?_)
              exact ⟨rfl, grown_none_refl _⟩
            · intro w90 k90
              have hb82 := below_g0 hb62 k90
              have hO73 := hO53.g0 k90
              rintro _ rfl
              refine op1 (s_move rfl ?_)
              exact ⟨(by rw [h5]), grown_none_refl _⟩
            · intro w91 k91
              have hb83 := below_g0 hb62 k91
              have hO74 := hO53.g0 k91
              rintro _ rfl
              refine op1g (s_move rfl ?_)
              exact ⟨rfl, grown_none_refl _⟩
            · intro w92 k92
              have hb84 := below_g0 hb62 k92
              have hO75 := hO53.g0 k92
              rintro _ rfl
              refine op1g (s_move rfl ?_)
              exact ⟨rfl, grown_none_refl _⟩
            · intro w93 k93
              have hb85 := below_g0 hb62 k93
              have hO76 := hO53.g0 k93
              rintro _ rfl
              rintro _ rfl
              refine op1g (s_add rfl rfl (by omega) ?_)
              exact ⟨rfl, grown_none_refl _⟩
            · intro w94 k94
              have hb86 := below_g0 hb62 k94
              have hO77 := hO53.g0 k94
              rintro _ rfl
              intro v_ hv_; subst v_
              rintro _ rfl
              refine op1g (s_call fn15 rfl (empty_any (hl.at0 hb86) hl_ok hll (by omega) (by omega)) ?_)
              rintro _ w95 ⟨hq19, rfl⟩
              have k95 := grown_of_below hq19 none
              have hz21 := hq19.size
              have hb87 := below_g0 hb86 k95
              have hz22 := hb87.size
              have hO78 := hO77.g0 k95
              exact ⟨rfl, k95⟩
            · intro w96 k96
              have hb88 := below_g0 hb62 k96
              have hO79 := hO53.g0 k96
              rintro _ rfl
              rintro _ rfl
              refine op1 (s_pick rfl rfl ?_)
              exact ⟨rfl, grown_none_refl _⟩
            · intro w97 k97
              have hb89 := below_g0 hb62 k97
              have hO80 := hO53.g0 k97
              rintro _ rfl
              rintro _ rfl
              rintro _ rfl
              rintro _ rfl
              rintro _ rfl
              rintro _ rfl
              intro v_ hv_; subst v_
              rintro _ rfl
              rintro _ rfl
              rintro _ rfl
              rintro _ rfl
              intro v_ hv_; subst v_
              intro v_ hv_; subst v_
              rintro _ rfl
              rintro _ rfl
              rintro _ rfl
              rintro _ rfl
              intro v_ hv_; subst v_
              rintro _ rfl
              rintro _ rfl
              rintro _ rfl
              rintro _ rfl
              refine r_end ?_
              refine n_then ?_
              refine w_cond rfl (fun h6 => ?_) (fun h6 => ?_)
              · refine w_seq ?_
                refine w_region ?_
                refine st (s_assign rfl ?_)
                refine r_end ?_
                refine n_then ?_
                refine w_ret1 rfl rfl ?_
                refine ⟨_, rfl, hb89, ?_⟩
                rw [(full_iff l).1 hh2 _ hk0 hk1] at h6
                exact absurd h6 (by decide)
              · refine w_skip' ?_
                refine n_then ?_
                refine w_seq ?_
                refine w_seq ?_
                refine w_region ?_
                refine st (s_move rfl ?_)
                refine st (s_add rfl rfl (by omega) ?_)
                refine st (s_assign rfl ?_)
                refine r_end ?_
                refine n_then ?_
                refine w_block ?_
                refine w_loop (α := Int) (fun (i : Int) => [(0, va), (7, .int .i64 (Int.tmod c (l.length : Int))), (9, .int .i64 i)]) (fun (i : Int) W => Below w.heap.size w W ∧ ((Int.tmod c (l.length : Int)) + 1 ≤ i ∧ i ≤ l.length) ∧ (∀ j e : Int, (Int.tmod c (l.length : Int)) + 1 ≤ j → j < i → 0 ≤ e → e < 4 → ¬ (1 < (ix l j).lv ∧ (ix l j).kid e = (Int.tmod c (l.length : Int)) + 1))) (fun (i : Int) => (l.length - i).toNat) ((Int.tmod c (l.length : Int)) + 1) ⟨hb89, by omega, fun j e _ _ _ _ => by omega⟩ (by exact ⟨rfl, rfl, rfl, trivial⟩) ?_
                rintro i w98 ⟨hb90, hi, ha⟩
                have hz23 := hb90.size
                refine w_seq ?_
                refine w_seq ?_
                refine w_region ?_
                refine st (s_move rfl ?_)
                refine st (s_move rfl ?_)
                refine st (s_len sl22 rfl (hl.at0 hb90) ?_)
                refine st (s_lt rfl rfl ?_)
                refine r_end ?_
                refine n_then ?_
                refine w_condP rfl (fun h7 => ?_) (fun h7 => ?_)
                · have hlt := h7
                  have hlv := right_lv hr i (by omega) hlt
                  have hlv2 := lv_in hl_ok (by omega) hlt
                  have hle := right_le hr i (by omega) hlt
                  have hln : levelN l = (ix l ((l.length : Int) - 1)).lv := by unfold levelN; rw [if_neg (by omega)]
                  refine w_skip' ?_
                  refine n_then ?_
                  refine w_seq ?_
                  refine w_block ?_
                  refine w_seq ?_
                  refine w_region ?_
                  refine st (s_assign rfl ?_)
                  refine r_end ?_
                  refine n_then ?_
                  refine w_block ?_
                  refine w_loop (α := Int) (fun (m : Int) => [(0, va), (7, .int .i64 (Int.tmod c (l.length : Int))), (9, .int .i64 i), (10, .int .i64 m)]) (fun (m : Int) W => Below w.heap.size w W ∧ (0 ≤ m ∧ m ≤ 4) ∧ (∀ e : Int, 0 ≤ e → e < m → ¬ (1 < (ix l i).lv ∧ (ix l i).kid e = (Int.tmod c (l.length : Int)) + 1))) (fun (m : Int) => (4 - m).toNat) (0) ⟨hb90, by omega, fun e _ _ => by omega⟩ (by exact ⟨rfl, rfl, rfl, rfl, trivial⟩) ?_
                  rintro m w99 ⟨hb91, hm, hb⟩
                  have hz24 := hb91.size
                  refine w_seq ?_
                  refine w_seq ?_
                  refine w_region ?_
                  refine st (s_move rfl ?_)
                  refine st (s_lt rfl rfl ?_)
                  refine r_end ?_
                  refine n_then ?_
                  refine w_condP rfl (fun h8 => ?_) (fun h8 => ?_)
                  · refine w_skip' ?_
                    refine n_then ?_
                    refine w_seq ?_
                    refine w_block ?_
                    refine w_seq ?_
                    refine w_region ?_
                    refine st (s_move rfl ?_)
                    refine st (s_move rfl ?_)
                    refine st (s_idx sl22 rfl rfl (hl.at0 hb91) (by omega) (by omega) ?_)
                    rintro b2 o2 _ ⟨rfl, _⟩ hc2 hF2 hlt2
                    have hl_2 := Loc.lt hF2
                    refine st (s_faddr fld35_0 rfl ?_)
                    refine st (s_load one3 rfl hc2 (j := 0) rfl ?_)
                    refine st (s_gt rfl rfl ?_)
                    refine st (s_move rfl ?_)
                    refine r_caseP 95 rfl (fun h9 => ?_) (fun h9 => ?_)
                    · refine stg (s_move rfl ?_)
                      refine stg (s_move rfl ?_)
                      refine stg (s_move rfl ?_)
                      refine stg (s_idx sl22 rfl rfl (hl.at0 hb91) (by omega) (by omega) ?_)
                      rintro b3 o3 _ ⟨rfl, _⟩ hc3 hF3 hlt3
                      have hl_3 := Loc.lt hF3
                      refine stg (s_faddr fld35_1 rfl ?_)
                      refine stg (s_iaddr arr33 rfl rfl (by omega) (by omega) ?_)
                      refine stg (s_load4 one3 rfl hc3 (j := 1) rfl rfl (by omega) (by omega) ?_)
                      refine stg (s_move rfl ?_)
                      refine stg (s_add rfl rfl (by omega) ?_)
                      refine stg (s_eq rfl rfl ?_)
                      refine st (s_pick rfl rfl ?_)
                      refine r_end ?_
                      refine n_then ?_
                      refine w_condP rfl (fun h10 => ?_) (fun h10 => ?_)
                      · refine w_seq ?_
                        refine w_region ?_
                        refine st (s_assign rfl ?_)
                        refine r_end ?_
                        refine n_then ?_
                        refine w_ret1 rfl rfl ?_
                        exact ⟨_, rfl, hb91, rfl⟩
                      · refine w_skip' ?_
                        refine n_block ?_
                        refine n_then ?_
                        refine w_region ?_
                        refine st (s_move rfl ?_)
                        refine st (s_add rfl rfl (by omega) ?_)
                        refine st (s_assign rfl ?_)
                        refine r_end ?_
                        exact n_round ((m + 1)) ⟨hb91, by omega, fun e e0 e1 => if q : e = m then by rw [q]; intro q2; first | exact absurd q2.1 (by assumption) | exact absurd q2.2 (by assumption) else hb e e0 (by omega)⟩ (by omega) (by exact ⟨rfl, rfl, rfl, rfl, trivial⟩)
                    · refine s_pass rfl rfl ?_
                      refine s_pass rfl rfl ?_
                      refine s_pass rfl rfl ?_
                      refine s_pass rfl rfl ?_
                      refine s_pass rfl rfl ?_
                      refine s_pass rfl rfl ?_
                      refine s_pass rfl rfl ?_
                      refine s_pass rfl rfl ?_
                      refine s_pass rfl rfl ?_
                      refine s_pass rfl rfl ?_
                      refine st (s_pick rfl rfl ?_)
                      refine r_end ?_
                      refine n_then ?_
                      refine w_condF rfl ?_
                      refine w_skip' ?_
                      refine n_block ?_
                      refine n_then ?_
                      refine w_region ?_
                      refine st (s_move rfl ?_)
                      refine st (s_add rfl rfl (by omega) ?_)
                      refine st (s_assign rfl ?_)
                      refine r_end ?_
                      exact n_round ((m + 1)) ⟨hb91, by omega, fun e e0 e1 => if q : e = m then by rw [q]; intro q2; first | exact absurd q2.1 (by assumption) | exact absurd q2.2 (by assumption) else hb e e0 (by omega)⟩ (by omega) (by exact ⟨rfl, rfl, rfl, rfl, trivial⟩)
                  · refine w_exit' ?_
                    refine n_then_exit ?_
                    refine n_then_exit ?_
                    refine n_block_exit ?_
                    refine n_block ?_
                    refine n_then ?_
                    refine w_region ?_
                    refine st (s_move rfl ?_)
                    refine st (s_add rfl rfl (by omega) ?_)
                    refine st (s_assign rfl ?_)
                    refine r_end ?_
                    exact n_round ((i + 1)) ⟨hb91, by omega, fun j e j0 j1 e0 e1 => if q : j = i then by rw [q]; exact hb e e0 (by omega) else ha j e j0 (by omega) e0 e1⟩ (by omega) (by exact ⟨rfl, rfl, rfl, trivial⟩)
                · refine w_exit' ?_
                  refine n_then_exit ?_
                  refine n_then_exit ?_
                  refine n_block_exit ?_
                  refine n_then ?_
                  refine w_seq ?_
                  refine w_region ?_
                  refine st (s_move rfl ?_)
                  refine st (s_move rfl ?_)
                  refine st (s_len sl22 rfl (hl.at0 hb90) ?_)
                  refine st (s_sub rfl rfl (by omega) ?_)
                  refine st (s_eq rfl rfl ?_)
                  refine st (s_assign rfl ?_)
                  refine r_end ?_
                  refine n_then ?_
                  refine w_ret1 rfl rfl ?_
                  refine ⟨_, rfl, hb90, ?_⟩
                  have e : (Int.tmod c (l.length : Int)) = (l.length : Int) - 1 := by
                    rcases right_par hr (Int.tmod c (l.length : Int)) hk0 hk1 with e | ⟨j, e, j0, j1, e0, e1, e2, e3⟩
                    · exact e
                    · exact absurd ⟨e2, e3⟩ (ha j e j0 (by omega) e0 e1)
                  show Value.bool (decide ((Int.tmod c (l.length : Int)) = (l.length : Int) - 1)) = .bool true
                  rw [decide_eq_true e]
end Go.Proofs.Ytdeiiagkbbimhaa
