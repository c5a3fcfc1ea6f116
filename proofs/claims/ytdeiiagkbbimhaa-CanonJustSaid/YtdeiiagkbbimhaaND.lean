/- Part of the proof that is named in YtdeiiagkbbimhaaNRowCanJust: a library for walks, or a function's walk. -/
import Derived.Test.YtdeiiagkbbimhaaNC
set_option maxRecDepth 20000
set_option linter.unusedSimpArgs false
set_option linter.unusedVariables false
namespace Go.Proofs.Ytdeiiagkbbimhaa
open Go.RowKit Go.Gw
theorem equal_any {va vb : Value} {l m : List Nd} {F : Nat → Prop} {w : World} (hl : Sl Kd.node w F va l) (hm : Sl Kd.node w F vb m) :
    Calls Try.prog 31 [va, vb].toArray w (Pure w fun v _ => v = .bool (Nd.eqv l m)) := by
  have hb0 := Below.refl w.heap.size w
  have hln1 := hl.lenle
  have hln2 := hm.lenle
  refine enter Try.func31 rfl rfl ?_
  refine w_seq ?_
  refine w_region ?_
  refine st (s_assign rfl ?_)
  refine r_end ?_
  refine n_then ?_
  refine w_seq ?_
  refine w_seq ?_
  refine w_region ?_
  refine st (s_move rfl ?_)
  refine st (s_len sl22 rfl (hl.at0 hb0) ?_)
  refine st (s_move rfl ?_)
  refine st (s_len sl22 rfl (hm.at0 hb0) ?_)
  refine st (s_ne rfl rfl ?_)
  refine r_end ?_
  refine n_then ?_
  refine w_condP rfl (fun h1 => ?_) (fun h1 => ?_)
  · refine w_seq ?_
    refine w_region ?_
    refine st (s_assign rfl ?_)
    refine r_end ?_
    refine n_then ?_
    refine w_ret1 rfl rfl ?_
    exact ⟨_, rfl, hb0, by rw [same_len (by omega)]⟩
  · refine w_skip' ?_
    refine n_then ?_
    refine w_seq ?_
    refine w_seq ?_
    refine w_region ?_
    refine st (s_move rfl ?_)
    refine st (s_len sl22 rfl (hl.at0 hb0) ?_)
    refine st (s_move rfl ?_)
    refine r_end ?_
    refine n_then ?_
    refine w_block ?_
    refine w_loop (α := Int) (fun (i : Int) => [(0, va), (1, vb), (12, .int .i64 (l.length : Int)), (13, .int .i64 i)]) (fun (i : Int) W => Below w.heap.size w W ∧ (0 ≤ i ∧ i ≤ l.length) ∧ (∀ j : Int, 0 ≤ j → j < i → ix l j = ix m j)) (fun (i : Int) => (l.length - i).toNat) (0) ⟨hb0, by omega, fun j _ _ => by omega⟩ (by exact ⟨rfl, rfl, rfl, rfl, trivial⟩) ?_
    rintro i w1 ⟨hb1, hi, ha⟩
    have hz1 := hb1.size
    refine w_seq ?_
    refine w_region ?_
    refine st (s_lt rfl rfl ?_)
    refine r_end ?_
    refine n_then ?_
    refine w_seq ?_
    refine w_condP rfl (fun h2 => ?_) (fun h2 => ?_)
    · refine w_skip' ?_
      refine n_then ?_
      refine w_seq ?_
      refine w_block ?_
      refine w_seq ?_
      refine w_region ?_
      refine st (s_move rfl ?_)
      refine st (s_assign rfl ?_)
      refine r_end ?_
      refine n_then ?_
      refine w_seq ?_
      obtain ⟨b1, o1, _, hat1, ⟨rfl, _⟩, hc1, hF1, hlt1⟩ := (hl.at0 hb1).elem i (by omega) (by omega)
      have hl_1 := Loc.lt hF1
      obtain ⟨b2, o2, _, hat2, ⟨rfl, _⟩, hc2, hF2, hlt2⟩ := (hm.at0 hb1).elem i (by omega) (by omega)
      have hl_2 := Loc.lt hF2
      refine w_draw 9 (fun a b => a.grownBy b none) [(some 16, fun v _ => v = va), (some 17, fun v _ => v = .int .i64 i), (some 18, fun v _ => v = .pointer (some ⟨b1, o1, none⟩)), (some 19, fun v _ => v = .agg [.int .i64 ((ix l i).lv), .int .i64 ((ix l i).k0), .int .i64 ((ix l i).k1), .int .i64 ((ix l i).k2), .int .i64 ((ix l i).k3)].toArray), (some 20, fun v _ => v = vb), (some 21, fun v _ => v = .int .i64 i), (some 22, fun v _ => v = .pointer (some ⟨b2, o2, none⟩)), (some 23, fun v _ => v = .agg [.int .i64 ((ix m i).lv), .int .i64 ((ix m i).k0), .int .i64 ((ix m i).k1), .int .i64 ((ix m i).k2), .int .i64 ((ix m i).k3)].toArray), (some 24, fun v _ => v = .bool (decide ((ix l i) ≠ (ix m i))))] [[], [], [0, 1], [2], [], [], [4, 5], [6], [3, 7]] [(0, va), (1, vb), (5, .int .i64 i), (12, .int .i64 (l.length : Int)), (13, .int .i64 i)] (by exact ⟨rfl, rfl, rfl, rfl, rfl, trivial⟩) (by kernel_rfl) (by kernel_rfl) grown_none_refl (fun _ _ _ => grown_none_trans) ⟨fun _ _ _ h _ => h, fun _ _ _ h _ => h, fun _ _ _ h _ => h, fun _ _ _ h _ => h, fun _ _ _ h _ => h, fun _ _ _ h _ => h, fun _ _ _ h _ => h, fun _ _ _ h _ => h, fun _ _ _ h _ => h, trivial⟩ ?_
      intro w2 k1 hs1
      have hb2 := below_g0 hb1 k1
      refine ⟨⟨?_, ?_, ?_, ?_, ?_, ?_, ?_, ?_, ?_, trivial⟩, ?_⟩
      · intro w3 k2
        have hb3 := below_g0 hb2 k2
        refine op1 (s_move rfl ?_)
        exact ⟨rfl, grown_none_refl _⟩
      · intro w4 k3
        have hb4 := below_g0 hb2 k3
        refine op1 (s_move rfl ?_)
        exact ⟨rfl, grown_none_refl _⟩
      · intro w5 k4
        have hb5 := below_g0 hb2 k4
        intro v_ hv_; subst v_
        rintro _ rfl
        refine op1 (s_idxat sl22 rfl rfl hat1 ?_)
        exact ⟨rfl, grown_none_refl _⟩
      · intro w6 k5
        have hb6 := below_g0 hb2 k5
        rintro _ rfl
        refine op1 (s_loadW row35 rfl (range_g0 (range_g0 hc1 k1) k5) rfl ?_)
        exact ⟨rfl, grown_none_refl _⟩
      · intro w7 k6
        have hb7 := below_g0 hb2 k6
        refine op1 (s_move rfl ?_)
        exact ⟨rfl, grown_none_refl _⟩
      · intro w8 k7
        have hb8 := below_g0 hb2 k7
        refine op1 (s_move rfl ?_)
        exact ⟨rfl, grown_none_refl _⟩
      · intro w9 k8
        have hb9 := below_g0 hb2 k8
        intro v_ hv_; subst v_
        rintro _ rfl
        refine op1 (s_idxat sl22 rfl rfl hat2 ?_)
        exact ⟨rfl, grown_none_refl _⟩
      · intro w10 k9
        have hb10 := below_g0 hb2 k9
        rintro _ rfl
        refine op1 (s_loadW row35 rfl (range_g0 (range_g0 hc2 k1) k9) rfl ?_)
        exact ⟨rfl, grown_none_refl _⟩
      · intro w11 k10
        have hb11 := below_g0 hb2 k10
        rintro _ rfl
        rintro _ rfl
        refine op1 (s_nenode eqNode rfl rfl ?_)
        exact ⟨rfl, grown_none_refl _⟩
      · intro w12 k11
        have hb12 := below_g0 hb2 k11
        intro v_ hv_; subst v_
        rintro _ rfl
        rintro _ rfl
        rintro _ rfl
        intro v_ hv_; subst v_
        rintro _ rfl
        rintro _ rfl
        rintro _ rfl
        rintro _ rfl
        refine r_end ?_
        refine n_then ?_
        refine w_condP rfl (fun h3 => ?_) (fun h3 => ?_)
        · refine w_seq ?_
          refine w_region ?_
          refine st (s_assign rfl ?_)
          refine r_end ?_
          refine n_then ?_
          refine w_ret1 rfl rfl ?_
          exact ⟨_, rfl, hb12, by rw [same_at i (by assumption)]⟩
        · refine w_skip' ?_
          refine n_block ?_
          refine n_then ?_
          refine w_region ?_
          refine st (s_add rfl rfl (by omega) ?_)
          refine st (s_move rfl ?_)
          refine r_end ?_
          exact n_round ((i + 1)) ⟨hb12, by omega, fun j j0 j1 => if e : j = i then by rw [e]; exact Decidable.not_not.1 h3 else ha j j0 (by omega)⟩ (by omega) (by exact ⟨rfl, rfl, rfl, rfl, trivial⟩)
    · refine w_exit' ?_
      refine n_then_exit ?_
      refine n_then_exit ?_
      refine n_block_exit ?_
      refine n_then ?_
      refine w_seq ?_
      refine w_region ?_
      refine st (s_assign rfl ?_)
      refine r_end ?_
      refine n_then ?_
      refine w_ret1 rfl rfl ?_
      exact ⟨_, rfl, hb1, by rw [same_all (by omega)]; intro j j0 j1; exact ha j j0 (by omega)⟩

theorem rnodes_any {va vb : Value} {l m : List Nd} {F : Nat → Prop} {w : World} (hl : Sl Kd.node w F va l) (hm : Sl Kd.node w F vb m) :
    Calls Try.prog 14 [va, vb].toArray w (Pure w fun v _ => v = .bool (Nd.eqv l m)) := by
  have hb0 := Below.refl w.heap.size w
  have hln1 := hl.lenle
  have hln2 := hm.lenle
  refine enter Try.func14 rfl rfl ?_
  refine w_seq ?_
  refine w_region ?_
  refine st (s_assign rfl ?_)
  refine r_end ?_
  refine n_then ?_
  refine w_seq ?_
  refine w_seq ?_
  refine w_region ?_
  refine st (s_move rfl ?_)
  refine st (s_len sl22 rfl (hl.at0 hb0) ?_)
  refine st (s_move rfl ?_)
  refine st (s_len sl22 rfl (hm.at0 hb0) ?_)
  refine st (s_ne rfl rfl ?_)
  refine r_end ?_
  refine n_then ?_
  refine w_condP rfl (fun h1 => ?_) (fun h1 => ?_)
  · refine w_seq ?_
    refine w_region ?_
    refine st (s_assign rfl ?_)
    refine r_end ?_
    refine n_then ?_
    refine w_ret1 rfl rfl ?_
    exact ⟨_, rfl, hb0, by rw [same_len (by omega)]⟩
  · refine w_skip' ?_
    refine n_then ?_
    refine w_seq ?_
    refine w_seq ?_
    refine w_region ?_
    refine st (s_assign rfl ?_)
    refine r_end ?_
    refine n_then ?_
    refine w_block ?_
    refine w_loop (α := Int) (fun (i : Int) => [(0, va), (1, vb), (5, .int .i64 i)]) (fun (i : Int) W => Below w.heap.size w W ∧ (0 ≤ i ∧ i ≤ l.length) ∧ (∀ j : Int, 0 ≤ j → j < i → ix l j = ix m j)) (fun (i : Int) => (l.length - i).toNat) (0) ⟨hb0, by omega, fun j _ _ => by omega⟩ (by exact ⟨rfl, rfl, rfl, trivial⟩) ?_
    rintro i w1 ⟨hb1, hi, ha⟩
    have hz1 := hb1.size
    refine w_seq ?_
    refine w_seq ?_
    refine w_region ?_
    refine st (s_move rfl ?_)
    refine st (s_move rfl ?_)
    refine st (s_len sl22 rfl (hl.at0 hb1) ?_)
    refine st (s_lt rfl rfl ?_)
    refine r_end ?_
    refine n_then ?_
    refine w_condP rfl (fun h2 => ?_) (fun h2 => ?_)
    · refine w_skip' ?_
      refine n_then ?_
      refine w_seq ?_
      refine w_block ?_
      refine w_seq ?_
      obtain ⟨b1, o1, _, hat1, ⟨rfl, _⟩, hc1, hF1, hlt1⟩ := (hl.at0 hb1).elem i (by omega) (by omega)
      have hl_1 := Loc.lt hF1
      obtain ⟨b2, o2, _, hat2, ⟨rfl, _⟩, hc2, hF2, hlt2⟩ := (hm.at0 hb1).elem i (by omega) (by omega)
      have hl_2 := Loc.lt hF2
      refine w_draw 9 (fun a b => a.grownBy b none) [(some 17, fun v _ => v = va), (some 18, fun v _ => v = .int .i64 i), (some 19, fun v _ => v = .pointer (some ⟨b1, o1, none⟩)), (some 20, fun v _ => v = .agg [.int .i64 ((ix l i).lv), .int .i64 ((ix l i).k0), .int .i64 ((ix l i).k1), .int .i64 ((ix l i).k2), .int .i64 ((ix l i).k3)].toArray), (some 21, fun v _ => v = vb), (some 22, fun v _ => v = .int .i64 i), (some 23, fun v _ => v = .pointer (some ⟨b2, o2, none⟩)), (some 24, fun v _ => v = .agg [.int .i64 ((ix m i).lv), .int .i64 ((ix m i).k0), .int .i64 ((ix m i).k1), .int .i64 ((ix m i).k2), .int .i64 ((ix m i).k3)].toArray), (some 25, fun v _ => v = .bool (decide ((ix l i) ≠ (ix m i))))] [[], [], [0, 1], [2], [], [], [4, 5], [6], [3, 7]] [(0, va), (1, vb), (5, .int .i64 i)] (by exact ⟨rfl, rfl, rfl, trivial⟩) (by kernel_rfl) (by kernel_rfl) grown_none_refl (fun _ _ _ => grown_none_trans) ⟨fun _ _ _ h _ => h, fun _ _ _ h _ => h, fun _ _ _ h _ => h, fun _ _ _ h _ => h, fun _ _ _ h _ => h, fun _ _ _ h _ => h, fun _ _ _ h _ => h, fun _ _ _ h _ => h, fun _ _ _ h _ => h, trivial⟩ ?_
      intro w2 k1 hs1
      have hb2 := below_g0 hb1 k1
      refine ⟨⟨?_, ?_, ?_, ?_, ?_, ?_, ?_, ?_, ?_, trivial⟩, ?_⟩
      · intro w3 k2
        have hb3 := below_g0 hb2 k2
        refine op1 (s_move rfl ?_)
        exact ⟨rfl, grown_none_refl _⟩
      · intro w4 k3
        have hb4 := below_g0 hb2 k3
        refine op1 (s_move rfl ?_)
        exact ⟨rfl, grown_none_refl _⟩
      · intro w5 k4
        have hb5 := below_g0 hb2 k4
        intro v_ hv_; subst v_
        rintro _ rfl
        refine op1 (s_idxat sl22 rfl rfl hat1 ?_)
        exact ⟨rfl, grown_none_refl _⟩
      · intro w6 k5
        have hb6 := below_g0 hb2 k5
        rintro _ rfl
        refine op1 (s_loadW row35 rfl (range_g0 (range_g0 hc1 k1) k5) rfl ?_)
        exact ⟨rfl, grown_none_refl _⟩
      · intro w7 k6
        have hb7 := below_g0 hb2 k6
        refine op1 (s_move rfl ?_)
        exact ⟨rfl, grown_none_refl _⟩
      · intro w8 k7
        have hb8 := below_g0 hb2 k7
        refine op1 (s_move rfl ?_)
        exact ⟨rfl, grown_none_refl _⟩
      · intro w9 k8
        have hb9 := below_g0 hb2 k8
        intro v_ hv_; subst v_
        rintro _ rfl
        refine op1 (s_idxat sl22 rfl rfl hat2 ?_)
        exact ⟨rfl, grown_none_refl _⟩
      · intro w10 k9
        have hb10 := below_g0 hb2 k9
        rintro _ rfl
        refine op1 (s_loadW row35 rfl (range_g0 (range_g0 hc2 k1) k9) rfl ?_)
        exact ⟨rfl, grown_none_refl _⟩
      · intro w11 k10
        have hb11 := below_g0 hb2 k10
        rintro _ rfl
        rintro _ rfl
        refine op1 (s_nenode eqNode rfl rfl ?_)
        exact ⟨rfl, grown_none_refl _⟩
      · intro w12 k11
        have hb12 := below_g0 hb2 k11
        intro v_ hv_; subst v_
        rintro _ rfl
        rintro _ rfl
        rintro _ rfl
        intro v_ hv_; subst v_
        rintro _ rfl
        rintro _ rfl
        rintro _ rfl
        rintro _ rfl
        refine r_end ?_
        refine n_then ?_
        refine w_condP rfl (fun h3 => ?_) (fun h3 => ?_)
        · refine w_seq ?_
          refine w_region ?_
          refine st (s_assign rfl ?_)
          refine r_end ?_
          refine n_then ?_
          refine w_ret1 rfl rfl ?_
          exact ⟨_, rfl, hb12, by rw [same_at i (by assumption)]⟩
        · refine w_skip' ?_
          refine n_block ?_
          refine n_then ?_
          refine w_region ?_
          refine st (s_move rfl ?_)
          refine st (s_add rfl rfl (by omega) ?_)
          refine st (s_assign rfl ?_)
          refine r_end ?_
          exact n_round ((i + 1)) ⟨hb12, by omega, fun j j0 j1 => if e : j = i then by rw [e]; exact Decidable.not_not.1 h3 else ha j j0 (by omega)⟩ (by omega) (by exact ⟨rfl, rfl, rfl, trivial⟩)
    · refine w_exit' ?_
      refine n_then_exit ?_
      refine n_then_exit ?_
      refine n_block_exit ?_
      refine n_then ?_
      refine w_seq ?_
      refine w_region ?_
      refine st (s_assign rfl ?_)
      refine r_end ?_
      refine n_then ?_
      refine w_ret1 rfl rfl ?_
      exact ⟨_, rfl, hb1, by rw [same_all (by omega)]; intro j j0 j1; exact ha j j0 (by omega)⟩

theorem same_any {va vb : Value} {l m : List Nd} {F : Nat → Prop} {w : World} (hl : Sl Kd.node w F va l) (hm : Sl Kd.node w F vb m) :
    Calls Try.prog 13 [.agg [va].toArray, .agg [vb].toArray].toArray w (Pure w fun v _ => v = .bool (Nd.eqv l m)) := by
  have hb0 := Below.refl w.heap.size w
  refine enter Try.func13 rfl rfl ?_
  refine w_seq ?_
  refine w_region ?_
  refine st (s_box rfl ?_)
  intro g1 w1 hg1 hB1 k1 hs1
  have hb1 := below_g0 hb0 k1
  refine st (s_box rfl ?_)
  intro g2 w2 hg2 hB2 k2 hs2
  have hb2 := below_g0 hb1 k2
  refine st (s_assign rfl ?_)
  refine r_end ?_
  refine n_then ?_
  refine w_seq ?_
  refine w_region ?_
  refine st (s_faddr fld27_0 rfl ?_)
  refine st (s_load one22 rfl (hB1.g0 k2).range (j := 0) rfl ?_)
  refine st (s_faddr fld27_0 rfl ?_)
  refine st (s_load one22 rfl hB2.range (j := 0) rfl ?_)
  refine st (s_call fn31 rfl (equal_any (hl.at0 hb2).none (hm.at0 hb2).none) ?_)
  rintro _ w3 ⟨hq1, rfl⟩
  have k3 := grown_of_below hq1 none
  have hz1 := hq1.size
  have hb3 := below_g0 hb2 k3
  have hz2 := hb3.size
  refine st (s_assign rfl ?_)
  refine r_end ?_
  refine n_then ?_
  refine w_ret1 rfl rfl ?_
  exact ⟨_, rfl, hb3, rfl⟩

theorem rsame_any {va vb : Value} {l m : List Nd} {F : Nat → Prop} {w : World} (hl : Sl Kd.node w F va l) (hm : Sl Kd.node w F vb m) :
    Calls Try.prog 23 [.agg [va].toArray, .agg [vb].toArray].toArray w (Pure w fun v _ => v = .bool (Nd.eqv l m)) := by
  have hb0 := Below.refl w.heap.size w
  refine enter Try.func23 rfl rfl ?_
  refine w_seq ?_
  refine w_region ?_
  refine st (s_box rfl ?_)
  intro g1 w1 hg1 hB1 k1 hs1
  have hb1 := below_g0 hb0 k1
  refine st (s_box rfl ?_)
  intro g2 w2 hg2 hB2 k2 hs2
  have hb2 := below_g0 hb1 k2
  refine st (s_assign rfl ?_)
  refine r_end ?_
  refine n_then ?_
  refine w_seq ?_
  refine w_region ?_
  refine st (s_faddr fld27_0 rfl ?_)
  refine st (s_load one22 rfl (hB1.g0 k2).range (j := 0) rfl ?_)
  refine st (s_faddr fld27_0 rfl ?_)
  refine st (s_load one22 rfl hB2.range (j := 0) rfl ?_)
  refine st (s_call fn14 rfl (rnodes_any (hl.at0 hb2).none (hm.at0 hb2).none) ?_)
  rintro _ w3 ⟨hq1, rfl⟩
  have k3 := grown_of_below hq1 none
  have hz1 := hq1.size
  have hb3 := below_g0 hb2 k3
  have hz2 := hb3.size
  refine st (s_assign rfl ?_)
  refine r_end ?_
  refine n_then ?_
  refine w_ret1 rfl rfl ?_
  exact ⟨_, rfl, hb3, rfl⟩

theorem idxb_any {va : Value} {l : List Bool} {b : Bool} {F : Nat → Prop} {w : World} (hl : Sl Kd.bool w F va l) :
    Calls Try.prog 38 [va, .bool b].toArray w (Pure w fun v _ => ∃ i : Int, v = .int .i64 i ∧ decide (0 ≤ i) = decide (b ∈ l)) := by
  have hb0 := Below.refl w.heap.size w
  have hln1 := hl.lenle
  refine enter Try.func38 rfl rfl ?_
  refine w_seq ?_
  refine w_region ?_
  refine st (s_assign rfl ?_)
  refine r_end ?_
  refine n_then ?_
  refine w_seq ?_
  refine w_seq ?_
  refine w_region ?_
  refine st (s_move rfl ?_)
  refine st (s_len sl43 rfl (hl.at0 hb0) ?_)
  refine st (s_move rfl ?_)
  refine r_end ?_
  refine n_then ?_
  refine w_block ?_
  refine w_loop (α := Int) (fun (i : Int) => [(0, va), (1, .bool b), (7, .int .i64 (l.length : Int)), (8, .int .i64 i)]) (fun (i : Int) W => Below w.heap.size w W ∧ (0 ≤ i ∧ i ≤ l.length) ∧ (∀ j : Int, 0 ≤ j → j < i → (b == ix l j) = false)) (fun (i : Int) => (l.length - i).toNat) (0) ⟨hb0, by omega, fun j _ _ => by omega⟩ (by exact ⟨rfl, rfl, rfl, rfl, trivial⟩) ?_
  rintro i w1 ⟨hb1, hi, ha⟩
  have hz1 := hb1.size
  refine w_seq ?_
  refine w_region ?_
  refine st (s_lt rfl rfl ?_)
  refine r_end ?_
  refine n_then ?_
  refine w_seq ?_
  refine w_condP rfl (fun h1 => ?_) (fun h1 => ?_)
  · refine w_skip' ?_
    refine n_then ?_
    refine w_seq ?_
    refine w_block ?_
    refine w_seq ?_
    refine w_region ?_
    refine st (s_move rfl ?_)
    refine st (s_assign rfl ?_)
    refine r_end ?_
    refine n_then ?_
    refine w_seq ?_
    refine w_region ?_
    refine st (s_move rfl ?_)
    refine st (s_move rfl ?_)
    refine st (s_move rfl ?_)
    refine st (s_idx sl43 rfl rfl (hl.at0 hb1) (by omega) (by omega) ?_)
    rintro b1 o1 _ ⟨rfl, _⟩ hc1 hF1 hlt1
    have hl_1 := Loc.lt hF1
    refine st (s_load one4 rfl hc1 (j := 0) rfl ?_)
    refine st (s_eqbool bool4 rfl rfl ?_)
    refine r_end ?_
    refine n_then ?_
    refine w_cond rfl (fun h2 => ?_) (fun h2 => ?_)
    · refine w_seq ?_
      refine w_region ?_
      refine st (s_move rfl ?_)
      refine st (s_assign rfl ?_)
      refine r_end ?_
      refine n_then ?_
      refine w_ret1 rfl rfl ?_
      refine ⟨_, rfl, hb1, _, rfl, ?_⟩
      have h := idxB_at i (by omega) (by omega) h2
      simp [h]; omega
    · refine w_skip' ?_
      refine n_block ?_
      refine n_then ?_
      refine w_region ?_
      refine st (s_add rfl rfl (by omega) ?_)
      refine st (s_move rfl ?_)
      refine r_end ?_
      exact n_round ((i + 1)) ⟨hb1, by omega, fun j j0 j1 => if e : j = i then by rw [e]; exact h2 else ha j j0 (by omega)⟩ (by omega) (by exact ⟨rfl, rfl, rfl, rfl, trivial⟩)
  · refine w_exit' ?_
    refine n_then_exit ?_
    refine n_then_exit ?_
    refine n_block_exit ?_
    refine n_then ?_
    refine w_seq ?_
    refine w_region ?_
    refine st (s_assign rfl ?_)
    refine r_end ?_
    refine n_then ?_
    refine w_ret1 rfl rfl ?_
    refine ⟨_, rfl, hb1, _, rfl, ?_⟩
    have h := notin_of (fun j j0 j1 => ha j j0 (by omega))
    simp [h]
end Go.Proofs.Ytdeiiagkbbimhaa
