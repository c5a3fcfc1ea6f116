/- Part of the proof: a library for walks, plain laws, and functions' walks. -/
import Derived.Test.YtfljelnfjbbknaaM6
import Derived.Test.YtfljelnfjbbknaaM4
import Derived.Test.YtfljelnfjbbknaaM5
import Derived.Test.YtfljelnfjbbknaaM2
set_option maxRecDepth 20000
set_option linter.unusedSimpArgs false
set_option linter.unusedVariables false
namespace Go.Proofs.Ytfljelnfjbbknaa.Lm
open Go.RowKit Go.Gw
set_option maxHeartbeats 1000000 in
theorem rshl_any {w : World} {n0 : Nat} (hn0 : n0 ≤ w.heap.size) {a : Value} {n : Int} {xs : List Int} (ha : Sl Kd.u32 w (G 83 n0 w) a xs) (hla : xs.length ≤ 100000) :
    Calls Try.prog 102 [a, .int .i64 n].toArray w (Pure w fun v W => Sl Kd.u32 W (G 83 n0 W) v (shlL xs n)) := by
  have hb0 := Below.refl w.heap.size w
  have hln1 := ha.lenle
  have hla2 := tb_nv_len (lim_sl ha)
  refine enter Try.func102 rfl rfl (w_seq (w_region (st (s_assign rfl (r_end (n_then (w_seq ?_)))))))
  refine w_seq (w_region (st (s_move rfl (st (s_lt rfl rfl (st (s_move rfl ?_)))))))
  refine r_caseP 7 rfl (fun h1 => ?_) (fun h1 => ?_)
  · refine s_pass rfl rfl (s_pass rfl rfl (st (s_pick rfl rfl (r_end (n_then (w_condT rfl (w_seq ?_)))))))
    refine w_region (st (s_assign rfl (r_end (n_then (w_ret1 rfl rfl ?_)))))
    exact ⟨_, rfl, hb0, by unfold shlL; rw [if_neg (by rw [fit_no (by omega)]; decide)]; exact nilG⟩
  refine stg (s_move rfl (stg (s_gt rfl rfl (st (s_pick rfl rfl (r_end (n_then ?_)))))))
  refine w_condP rfl (fun h2 => ?_) (fun h2 => ?_)
  · refine w_seq (w_region (st (s_assign rfl (r_end (n_then (w_ret1 rfl rfl ?_))))))
    exact ⟨_, rfl, hb0, by unfold shlL; rw [if_neg (by rw [fit_no (by omega)]; decide)]; exact nilG⟩
  refine w_skip' (n_then (w_seq ?_))
  refine w_drawC 6 (fun a b => Below (w.heap.size) a b) (Big0 (w.heap.size)) (Big (w.heap.size)) [(some 11, fun v _ => v = .int .i64 n), (some 12, fun v W => Gw.Own Kd.bool 4 w.heap.size W (fun _ => False) v (List.replicate (n).toNat false)), (some 13, fun v _ => v = a), (some 14, fun v W => Sl Kd.bool W (fun _ => False) v (tb (nv xs))), (some 15, fun v W => Gw.Own Kd.bool 4 w.heap.size W (fun _ => False) v (List.replicate (n).toNat false ++ tb (nv xs))), (some 16, fun v W => Sl Kd.u32 W (G 83 n0 W) v (tl (bv (List.replicate (n).toNat false ++ tb (nv xs)))))] [[], [0], [], [2], [1, 3], [4]] [[], [0], [], [2], [1, 3, 0, 2], [4, 1, 3, 0, 2]] [[], [4], [], [4], [], []] [false, false, false, false, true, false] [true, false, true, false, false, false] [(0, a), (1, .int .i64 n), (4, .slice none 0 0)] (by exact ⟨rfl, rfl, rfl, trivial⟩) (by kernel_rfl) (by kernel_rfl) (by kernel_rfl) rfl (Below.refl _) (fun _ _ _ h k => h.trans k) (fun _ _ h => h.below) (fun _ _ h => h.below) ⟨fun _ _ _ h _ => by exact h, fun _ _ _ h _ => by exact h, fun _ _ _ h k => h.g0 k.2, fun _ _ _ h _ => by exact h, fun _ _ _ h _ => by exact h, fun _ _ _ h k => h.g0 k.2, fun _ _ _ h k => h.g0 k.2, fun _ _ _ h k => h.gg0 k.2, trivial⟩ ?_
  intro w1 k1 hs1
  have hb1 := below_g0 hb0 k1
  refine ⟨⟨?_, ?_, ?_, ?_, ?_, ?_, trivial⟩, ?_⟩
  · intro w8z_ kb
    have kgz_ := grown_of_below (show Below w1.heap.size w1 w8z_ by rw [hs1]; exact kb) none
    have hbz_ := below_g0 hb1 kgz_
    have hzz_ := hbz_.size
    have hez_ := kb.size
    exact op1 (s_move rfl ⟨rfl, ⟨by omega, World.grownBy.refl _ _⟩⟩)
  · intro w8z_ kb
    have kgz_ := grown_of_below (show Below w1.heap.size w1 w8z_ by rw [hs1]; exact kb) none
    have hbz_ := below_g0 hb1 kgz_
    have hzz_ := hbz_.size
    have hez_ := kb.size
    rintro _ rfl
    refine op1 (s_make (K := Kd.bool) (base := w.heap.size) (F := fun _ => False) sl68 rfl (by omega) (by omega) (by omega) (fun _ _ => ⟨rfl, trivial⟩) (by omega) (fun _ h => h.elim) ?_)
    intro vz_ wz_ hOz_ kz_
    exact ⟨hOz_, ⟨by omega, kz_⟩⟩
  · intro w8z_ kb
    have kgz_ := grown_of_below (show Below w1.heap.size w1 w8z_ by rw [hs1]; exact kb) none
    have hbz_ := below_g0 hb1 kgz_
    have hzz_ := hbz_.size
    have hez_ := kb.size
    exact op1 (s_move rfl ⟨rfl, ⟨by omega, World.grownBy.refl _ _⟩⟩)
  · intro w8z_ kb
    have kgz_ := grown_of_below (show Below w1.heap.size w1 w8z_ by rw [hs1]; exact kb) none
    have hbz_ := below_g0 hb1 kgz_
    have hzz_ := hbz_.size
    have hez_ := kb.size
    intro v_ hv_; subst v_
    refine op1 (s_call fn85 rfl (rbits_any ((ha.at0 hbz_)).none (by omega)) ?_)
    rintro vz_ wz_ ⟨hqz_, hSz_⟩
    exact ⟨hSz_, ⟨by omega, grown_of_below hqz_ none⟩⟩
  · intro w8z_ kb
    have kgz_ := grown_of_below (show Below w1.heap.size w1 w8z_ by rw [hs1]; exact kb) none
    have hbz_ := below_g0 hb1 kgz_
    have hzz_ := hbz_.size
    have hez_ := kb.size
    intro v12z_ h12z_ v14z_ h14z_
    refine op1 (s_appendF (K := Kd.bool) sl68 rfl rfl h12z_ bool_flat h14z_ bool_ones (by simp; omega) (by simp; omega) (by omega) (fun _ h => h.elim) ?_)
    intro vz_ wz_ hPz_ kz_ horz_ hzz2_
    exact ⟨hPz_, ⟨by omega, _, kz_, fun g hg => (h12z_.lt g hg).1⟩⟩
  · intro w8z_ kb
    have kgz_ := grown_of_below (show Below w1.heap.size w1 w8z_ by rw [hs1]; exact kb) none
    have hbz_ := below_g0 hb1 kgz_
    have hzz_ := hbz_.size
    have hez_ := kb.size
    intro v15z_ h15z_
    refine op1 (s_call fn87 rfl (rof_any (n0 := n0) (below_n0 hn0 hbz_) h15z_.sl (by simp; omega)) ?_)
    rintro vz_ wz_ ⟨hqz_, hSz_⟩
    exact ⟨hSz_, ⟨by omega, grown_of_below hqz_ none⟩⟩
  intro w2 kb
  have k2 := grown_of_below (show Below w1.heap.size w1 w2 by rw [hs1]; exact kb) none
  have hb2 := below_g0 hb1 k2
  have hz1 := hb2.size
  rintro _ rfl v12 _
  intro v_ hv_; subst v_
  rintro v14 _ v15 h15 v16 h16
  refine st (s_assign rfl (r_end (n_then (w_ret1 rfl rfl ?_))))
  exact ⟨_, rfl, hb2, by unfold shlL; rw [if_pos (fit_yes (by omega) (by omega)), ← shl_bits (nv_nonneg (lim_sl ha))]; exact h16⟩

end Go.Proofs.Ytfljelnfjbbknaa.Lm

set_option maxRecDepth 20000
set_option linter.unusedSimpArgs false
set_option linter.unusedVariables false
namespace Go.Proofs.Ytfljelnfjbbknaa.Lm
open Go.RowKit Go.Gw
set_option maxHeartbeats 1000000 in
theorem rbright_any {w : World} {ng : Bool} {a : Value} {xs : List Int} (ha : Sl Kd.u32 w (fun _ => False) a xs) :
    Calls Try.prog 27 [.agg [.bool ng, a].toArray].toArray w (Pure w fun v _ => v = .bool (bigR ng xs)) := by
  have hb0 := Below.refl w.heap.size w
  refine enter Try.func27 rfl rfl (w_seq (w_region (st (s_box rfl ?_))))
  intro g1 w1 hg1 hB1 k1 hs1
  change Blk w1 g1 31 [.bool ng, a].toArray at hB1
  have hb1 := below_g0 hb0 k1
  refine st (s_assign rfl (r_end (n_then (w_seq (w_region (st (s_faddr fld31_1 rfl (st (s_load one29 rfl hB1.range (j := 1) rfl ?_)))))))))
  refine st (s_call fn57 rfl (rright_any ((ha.at0 hb1)).none) ?_)
  rintro _ w2 ⟨hq1, rfl⟩
  have k2 := grown_of_below hq1 none
  have hz1 := hq1.size
  have hb2 := below_g0 hb1 k2
  have hz2 := hb2.size
  refine st (s_move rfl ?_)
  refine r_case 6 rfl (fun h1 => ?_) (fun h1 => ?_)
  rotate_left
  · refine s_pass rfl rfl (s_pass rfl rfl (s_pass rfl rfl (s_passU rfl rfl (s_passU rfl rfl (s_passU rfl rfl (s_passU rfl rfl ?_))))))
    refine s_pass rfl rfl (s_pass rfl rfl (st (s_pick rfl rfl (st (s_assign rfl (r_end (n_then (w_ret1 rfl rfl ?_))))))))
    exact ⟨_, rfl, hb2, by unfold bigR; rw [h1]; first | rfl | (rw [Bool.true_and, Bool.not_true, Bool.false_or]; exact congrArg Value.bool (decide_eq_decide.2 (by omega)))⟩
  refine stg (s_faddr fld31_0 rfl (stg (s_load one4 rfl (hB1.g0 k2).range (j := 0) rfl (stg (s_move rfl ?_)))))
  refine r_case 9 rfl (fun h2 => ?_) (fun h2 => ?_)
  rotate_left
  · refine s_pass rfl rfl (s_pass rfl rfl (s_pass rfl rfl (s_pass rfl rfl (stg (s_pick rfl rfl (stg (s_not rfl (st (s_pick rfl rfl ?_)))))))))
    refine st (s_assign rfl (r_end (n_then (w_ret1 rfl rfl ?_))))
    exact ⟨_, rfl, hb2, by unfold bigR; rw [h1, h2]; first | rfl | (rw [Bool.true_and, Bool.not_true, Bool.false_or]; exact congrArg Value.bool (decide_eq_decide.2 (by omega)))⟩
  refine stg (s_faddr fld31_1 rfl (stg (s_load one29 rfl (hB1.g0 k2).range (j := 1) rfl (stg (s_len sl29 rfl (ha.at0 hb2) (stg (s_eq rfl rfl (stg (s_pick rfl rfl (stg (s_notP rfl (st (s_pick rfl rfl ?_)))))))))))))
  refine st (s_assign rfl (r_end (n_then (w_ret1 rfl rfl ?_))))
  exact ⟨_, rfl, hb2, by unfold bigR; rw [h1, h2]; first | rfl | (rw [Bool.true_and, Bool.not_true, Bool.false_or]; exact congrArg Value.bool (decide_eq_decide.2 (by omega)))⟩

set_option maxHeartbeats 1000000 in
theorem signed_any {w : World} {n0 : Nat} (hn0 : n0 ≤ w.heap.size) {ng : Bool} {a : Value} {m : Int} (ha : Sl Kd.u32 w (G 83 n0 w) a (tl m)) (hm : 0 ≤ m) :
    Calls Try.prog 76 [.bool ng, a].toArray w (Pure w fun v W => IsBig 83 n0 W v (sg ng m)) := by
  have hb0 := Below.refl w.heap.size w
  have hln1 := ha.lenle
  refine enter Try.func76 rfl rfl (w_seq (w_region (st (s_alloc zero31 ?_))))
  intro g1 w1 hg1 hB1 k1 hs1
  have hz1 := hb0.size
  have hb1 := below_g0 hb0 k1
  refine r_end (n_then (w_seq (w_region (st (s_move rfl (st (s_move rfl ?_)))))))
  refine r_case 6 rfl (fun h1 => ?_) (fun h1 => ?_)
  rotate_left
  · refine s_pass rfl rfl (s_pass rfl rfl (s_pass rfl rfl (st (s_pick rfl rfl (st (s_move rfl (st (s_build (ps := [(0, .tmp 10), (1, .tmp 11)]) (ccs := [#[.bool false], #[a]]) (cells := [.bool false, a]) rfl (by simp only [List.map_cons, List.map_nil, ha.cells1] <;> rfl) (by kernel_rfl) (st0 (s_storeN row31 rfl rfl hB1 (by simp only [List.all_cons, List.all_nil, ha.one, Bool.and_true, Bool.and_self] <;> rfl) rfl rfl ?_))))))))))
    intro w3 hB3 k3 hs3
    have hb3 := below_g hb1 k3 (by first | omega | (have h9 := (hb1).size; omega))
    refine r_end (n_then (w_retc1 rfl row31 rfl hB3.range rfl ?_))
    exact ⟨_, rfl, hb3, _, by rw [sg_pos hm h1], by rw [← sg_ml ng hm]; exact (((ha.at0 hb3)).unlocG hb3)⟩
  refine stg (s_move rfl (stg (s_len sl29 rfl (ha.at0 hb1) (stg (s_gt rfl rfl (st (s_pick rfl rfl (st (s_move rfl (st (s_build (ps := [(0, .tmp 10), (1, .tmp 11)]) (ccs := [#[.bool (decide (0 < ((tl m).length : Int)))], #[a]]) (cells := [.bool (decide (0 < ((tl m).length : Int))), a]) rfl (by simp only [List.map_cons, List.map_nil, ha.cells1] <;> rfl) (by kernel_rfl) (st0 (s_storeN row31 rfl rfl hB1 (by simp only [List.all_cons, List.all_nil, ha.one, Bool.and_true, Bool.and_self] <;> rfl) rfl rfl ?_)))))))))))))
  intro w2 hB2 k2 hs2
  have hb2 := below_g hb1 k2 (by first | omega | (have h9 := (hb1).size; omega))
  refine r_end (n_then (w_retc1 rfl row31 rfl hB2.range rfl ?_))
  exact ⟨_, rfl, hb2, _, by rw [sg_neg hm h1], by rw [← sg_ml ng hm]; exact (((ha.at0 hb2)).unlocG hb2)⟩

set_option maxHeartbeats 1000000 in
theorem of_any {w : World} {n0 : Nat} (hn0 : n0 ≤ w.heap.size) {n : Int} (hn : -9223372036854775808 ≤ n ∧ n ≤ 9223372036854775807) :
    Calls Try.prog 49 [.int .i64 n].toArray w (Pure w fun v W => IsBig 83 n0 W v (n)) := by
  have hb0 := Below.refl w.heap.size w
  refine enter Try.func49 rfl rfl (w_seq (w_region (st (s_alloc zero31 ?_))))
  intro g1 w1 hg1 hB1 k1 hs1
  have hz1 := hb0.size
  have hb1 := below_g0 hb0 k1
  refine r_end (n_then (w_seq (w_region (st (s_move rfl (st (s_convm (M := 18446744073709551616) rfl rfl intk3 intk81 rfl (st (s_assign rfl ?_)))))))))
  refine r_end (n_then (w_seq (w_seq (w_region (st (s_move rfl (st (s_lt rfl rfl ?_))))))))
  refine r_end (n_then ?_)
  refine w_condP rfl (fun h1 => ?_) (fun h1 => ?_)
  rotate_left
  · refine w_skip' (n_then (w_seq (w_region (st (s_move rfl (st (s_lt rfl rfl (st (s_move rfl ?_)))))))))
    refine st (s_convm (M := 4294967296) rfl rfl intk81 intk83 rfl (st (s_move rfl (st (s_shrk (p := 4294967296) rfl rfl (by decide) (by decide) (st (s_convm (M := 4294967296) rfl rfl intk81 intk83 rfl (st (s_bslice (ps := [(0, .tmp 13), (1, .tmp 16)]) (ccs := [#[.int .u32 ((n % 18446744073709551616) % 4294967296)], #[.int .u32 (((n % 18446744073709551616) / 4294967296) % 4294967296)]]) (e := 83) (cells := [.int .u32 ((n % 18446744073709551616) % 4294967296), .int .u32 (((n % 18446744073709551616) / 4294967296) % 4294967296)]) rfl rfl (by kernel_rfl) (by decide) nz83 ?_)))))))))
    intro g3 w6 hg3 hB4 k6 hs4
    have hb6 := below_g0 hb1 k6
    have hz7 := hb6.size
    have hS4 := lit_u32s (F := fun _ => False) ([((n % 18446744073709551616) % 4294967296), (((n % 18446744073709551616) / 4294967296) % 4294967296)] : List Int) hB4 (fun h => h) rfl (by first | decide | simp) (by intro x hx; simp at hx; omega)
    refine st (s_call fn81 rfl (norm_any (n0 := n0) (below_n0 hn0 hb6) (Sl.litG hB4 hS4) (by first | omega | (simp; done) | (simp; omega))) ?_)
    rintro v3 w7 ⟨hq3, hS5⟩
    have k7 := grown_of_below hq3 none
    have hz8 := hq3.size
    have hb7 := below_g0 hb6 k7
    have hz9 := hb7.size
    refine st (s_call fn76 rfl (signed_any (m := nv ([((n % 18446744073709551616) % 4294967296), (((n % 18446744073709551616) / 4294967296) % 4294967296)] : List Int)) (n0 := n0) (below_n0 hn0 hb7) hS5 (nv_nonneg (by intro x hx; simp at hx; omega))) ?_)
    rintro _ w8 ⟨hq4, v4, rfl, hS6⟩
    have k8 := grown_of_below hq4 none
    have hz10 := hq4.size
    have hb8 := below_g0 hb7 k8
    have hz11 := hb8.size
    refine st0 (s_storeN row31 rfl rfl (((hB1.g0 k6).g0 k7).g0 k8) (by simp only [List.all_cons, List.all_nil, hS6.one, Bool.and_true, Bool.and_self] <;> rfl) rfl rfl ?_)
    intro w9 hB5 k9 hs5
    have hb9 := below_g hb8 k9 (by first | omega | (have h9 := (hb8).size; omega))
    refine r_end (n_then (w_retc1 rfl row31 rfl hB5.range rfl ?_))
    exact ⟨_, rfl, hb9, big_of (of_pos hn h1) (hS6.ggB k9 (((hB1.g0 k6).g0 k7).g0 k8) (by decide) (by omega))⟩
  refine w_region (st (s_move rfl (st (s_negk (M := 18446744073709551616) rfl rfl rfl (st (s_assign rfl (r_end (n_then (w_seq ?_)))))))))
  refine w_region (st (s_move rfl (st (s_lt rfl rfl (st (s_move rfl (st (s_convm (M := 4294967296) rfl rfl intk81 intk83 rfl (st (s_move rfl (st (s_shrk (p := 4294967296) rfl rfl (by decide) (by decide) ?_))))))))))))
  refine st (s_convm (M := 4294967296) rfl rfl intk81 intk83 rfl (st (s_bslice (ps := [(0, .tmp 13), (1, .tmp 16)]) (ccs := [#[.int .u32 (((-(n % 18446744073709551616)) % 18446744073709551616) % 4294967296)], #[.int .u32 ((((-(n % 18446744073709551616)) % 18446744073709551616) / 4294967296) % 4294967296)]]) (e := 83) (cells := [.int .u32 (((-(n % 18446744073709551616)) % 18446744073709551616) % 4294967296), .int .u32 ((((-(n % 18446744073709551616)) % 18446744073709551616) / 4294967296) % 4294967296)]) rfl rfl (by kernel_rfl) (by decide) nz83 ?_)))
  intro g2 w2 hg2 hB2 k2 hs2
  have hb2 := below_g0 hb1 k2
  have hz2 := hb2.size
  have hS1 := lit_u32s (F := fun _ => False) ([(((-(n % 18446744073709551616)) % 18446744073709551616) % 4294967296), ((((-(n % 18446744073709551616)) % 18446744073709551616) / 4294967296) % 4294967296)] : List Int) hB2 (fun h => h) rfl (by first | decide | simp) (by intro x hx; simp at hx; omega)
  refine st (s_call fn81 rfl (norm_any (n0 := n0) (below_n0 hn0 hb2) (Sl.litG hB2 hS1) (by first | omega | (simp; done) | (simp; omega))) ?_)
  rintro v1 w3 ⟨hq1, hS2⟩
  have k3 := grown_of_below hq1 none
  have hz3 := hq1.size
  have hb3 := below_g0 hb2 k3
  have hz4 := hb3.size
  refine st (s_call fn76 rfl (signed_any (m := nv ([(((-(n % 18446744073709551616)) % 18446744073709551616) % 4294967296), ((((-(n % 18446744073709551616)) % 18446744073709551616) / 4294967296) % 4294967296)] : List Int)) (n0 := n0) (below_n0 hn0 hb3) hS2 (nv_nonneg (by intro x hx; simp at hx; omega))) ?_)
  rintro _ w4 ⟨hq2, v2, rfl, hS3⟩
  have k4 := grown_of_below hq2 none
  have hz5 := hq2.size
  have hb4 := below_g0 hb3 k4
  have hz6 := hb4.size
  refine st0 (s_storeN row31 rfl rfl (((hB1.g0 k2).g0 k3).g0 k4) (by simp only [List.all_cons, List.all_nil, hS3.one, Bool.and_true, Bool.and_self] <;> rfl) rfl rfl ?_)
  intro w5 hB3 k5 hs3
  have hb5 := below_g hb4 k5 (by first | omega | (have h9 := (hb4).size; omega))
  refine r_end (n_then (w_retc1 rfl row31 rfl hB3.range rfl ?_))
  exact ⟨_, rfl, hb5, big_of (of_neg hn h1) (hS3.ggB k5 (((hB1.g0 k2).g0 k3).g0 k4) (by decide) (by omega))⟩

set_option maxHeartbeats 1000000 in
theorem badd_any0 {w : World} {n0 : Nat} (hn0 : n0 ≤ w.heap.size)  {a : Value} {n : Int} {b : Value} {m : Int} (ha : Sl Kd.u32 w (G 83 n0 w) a (ml n)) (hb : Sl Kd.u32 w (G 83 n0 w) b (ml m)) (hbn : Bd 90000 n) (hbm : Bd 90000 m)  :
    Calls Try.prog 78 [.agg [.bool (decide (n < 0)), a].toArray, .agg [.bool (decide (m < 0)), b].toArray].toArray w (Pure w fun v W => IsBig 83 n0 W v (n + m)) := by
  have hb0 := Below.refl w.heap.size w
  have hln := bd_len hbn
  have hlm := bd_len hbm
  have hnn := nv_ml n
  have hnm := nv_ml m
  refine enter Try.func78 rfl rfl (w_seq (w_region (st (s_box rfl ?_))))
  intro g1 w1 hg1 hB1 k1 hs1
  change Blk w1 g1 31 [.bool (decide (n < 0)), a].toArray at hB1
  have hb1 := below_g0 hb0 k1
  refine st (s_box rfl ?_)
  intro g2 w2 hg2 hB2 k2 hs2
  change Blk w2 g2 31 [.bool (decide (m < 0)), b].toArray at hB2
  have hb2 := below_g0 hb1 k2
  have hlt_1 := ((hB1.g0 k2)).lt
  have hlt_2 := (hB2).lt
  refine st (s_alloc zero31 ?_)
  intro g3 w3 hg3 hB3 k3 hs3
  have hz1 := hb2.size
  have hb3 := below_g0 hb2 k3
  refine r_end (n_then (w_seq (w_seq (w_region (st (s_faddr fld31_0 rfl (st (s_load one4 rfl ((hB1.g0 k2).g0 k3).range (j := 0) rfl ?_))))))))
  refine st (s_faddr fld31_0 rfl (st (s_load one4 rfl (hB2.g0 k3).range (j := 0) rfl (st (s_eqbool bool4 rfl rfl (r_end (n_then ?_)))))))
  refine w_cond rfl (fun h1 => ?_) (fun h1 => ?_)
  · refine w_seq ?_
    refine w_draw 8 (fun a b => a.grownBy b none) [(some 12, Is <| .pointer (some ⟨g1, 0 + 0, none⟩)), (some 13, Is <| .bool (decide (n < 0))), (some 14, Is <| .pointer (some ⟨g1, 0 + 1, none⟩)), (some 15, fun v _ => Sl Kd.u32 w (G 83 n0 w) v (ml n)), (some 16, Is <| .pointer (some ⟨g2, 0 + 1, none⟩)), (some 17, fun v _ => Sl Kd.u32 w (G 83 n0 w) v (ml m)), (some 18, fun v W => Sl Kd.u32 W (G 83 n0 W) v (tl (nv (ml n) + nv (ml m)))), (some 19, fun v W => IsBig 83 n0 W v (sg (decide (n < 0)) (nv (ml n) + nv (ml m))))] [[], [0], [], [2], [], [4], [3, 5], [1, 6]] [(2, .pointer (some ⟨g1, 0, none⟩)), (3, .pointer (some ⟨g2, 0, none⟩)), (4, .pointer (some ⟨g3, 0, none⟩))] (by exact ⟨rfl, rfl, rfl, trivial⟩) (by kernel_rfl) (by kernel_rfl) grown_none_refl (fun _ _ _ => grown_none_trans) ⟨kv, kv, kv, fun _ _ _ h _ => h, kv, fun _ _ _ h _ => h, fun _ _ _ h k => h.gg0 k, fun _ _ _ h k => h.g0 k, trivial⟩ ?_
    intro w6 k6 hs4
    have hb4 := below_g0 hb3 k6
    refine ⟨⟨?_, ?_, ?_, ?_, ?_, ?_, ?_, ?_, trivial⟩, ?_⟩
    · intro w7 k7
      refine op1 (s_faddr fld31_0 rfl ?_)
      exact ⟨rfl, grown_none_refl _⟩
    · intro w8 k8
      rintro _ rfl
      refine op1 (s_load one4 rfl ((((hB1.g0 k2).g0 k3).g0 k6).g0 k8).range (j := 0) rfl ?_)
      exact ⟨rfl, grown_none_refl _⟩
    · intro w9 k9
      refine op1 (s_faddr fld31_1 rfl ?_)
      exact ⟨rfl, grown_none_refl _⟩
    · intro w10 k10
      rintro _ rfl
      refine op1 (s_load one29 rfl ((((hB1.g0 k2).g0 k3).g0 k6).g0 k10).range (j := 1) rfl ?_)
      exact ⟨ha, grown_none_refl _⟩
    · intro w11 k11
      refine op1 (s_faddr fld31_1 rfl ?_)
      exact ⟨rfl, grown_none_refl _⟩
    · intro w12 k12
      rintro _ rfl
      refine op1 (s_load one29 rfl (((hB2.g0 k3).g0 k6).g0 k12).range (j := 1) rfl ?_)
      exact ⟨hb, grown_none_refl _⟩
    · intro w13 k13
      have hb11 := below_g0 hb4 k13
      rintro v3 hS3 v4 hS4
      refine op1 (s_call fn100 rfl (add_any (n0 := n0) (below_n0 hn0 hb11) (((hS3.at0 hb11)).unlocG hb11) (((hS4.at0 hb11)).unlocG hb11) (by first | omega | (simp; done) | (simp; omega)) (by first | omega | (simp; done) | (simp; omega))) ?_)
      rintro v5 w14 ⟨hq3, hS5⟩
      have k14 := grown_of_below hq3 none
      have hz2 := hq3.size
      have hb12 := below_g0 hb11 k14
      have hz3 := hb12.size
      exact ⟨hS5, k14⟩
    · intro w15 k15
      have hb13 := below_g0 hb4 k15
      rintro _ rfl v6 hS6
      refine op1 (s_call fn76 rfl (signed_any (m := nv (ml n) + nv (ml m)) (n0 := n0) (below_n0 hn0 hb13) hS6 (by first | omega | exact shlN_nn (by omega) | exact shrN_nn (by first | omega | exact nv_nonneg (lim_tl _)) | exact nv_nonneg (lim_tl _))) ?_)
      rintro _ w16 ⟨hq4, v7, rfl, hS7⟩
      have k16 := grown_of_below hq4 none
      have hz4 := hq4.size
      have hb14 := below_g0 hb13 k16
      have hz5 := hb14.size
      exact ⟨⟨_, rfl, hS7⟩, k16⟩
    intro w17 k17
    have hb15 := below_g0 hb4 k17
    rintro _ rfl _ rfl _ rfl v8 hS8 _ rfl v9 hS9 v10 hS10 _ ⟨v11, rfl, hS11⟩
    refine st0 (s_storeN row31 rfl rfl ((hB3.g0 k6).g0 k17) (by simp only [List.all_cons, List.all_nil, hS11.one, Bool.and_true, Bool.and_self] <;> rfl) rfl rfl ?_)
    intro w18 hB4 k18 hs5
    have hb16 := below_g hb15 k18 (by first | omega | (have h9 := (hb15).size; omega))
    refine r_end (n_then (w_retc1 rfl row31 rfl hB4.range rfl ?_))
    exact ⟨_, rfl, hb16, big_of (sg_add (eq_of_beq h1)) (hS11.ggB k18 ((hB3.g0 k6).g0 k17) (by decide) (by omega))⟩
  refine w_skip' (n_then (w_seq (w_seq (w_region (st (s_faddr fld31_1 rfl (st (s_load one29 rfl ((hB1.g0 k2).g0 k3).range (j := 1) rfl ?_))))))))
  refine st (s_faddr fld31_1 rfl (st (s_load one29 rfl (hB2.g0 k3).range (j := 1) rfl (st (s_call fn82 rfl (cmp_any ((ha.at0 hb3)).none ((hb.at0 hb3)).none) ?_)))))
  rintro _ w19 ⟨hq5, rfl⟩
  have k19 := grown_of_below hq5 none
  have hz6 := hq5.size
  have hb17 := below_g0 hb3 k19
  have hz7 := hb17.size
  refine st (s_lt rfl rfl (r_end (n_then ?_)))
  refine w_condP rfl (fun h2 => ?_) (fun h2 => ?_)
  rotate_left
  · have hc2 := cmpI_nneg h2
    refine w_skip' (n_then (w_seq (w_region (st (s_faddr fld31_1 rfl (st (s_load one29 rfl (((hB1.g0 k2).g0 k3).g0 k19).range (j := 1) rfl (st (s_faddr fld31_1 rfl ?_)))))))))
    refine st (s_load one29 rfl ((hB2.g0 k3).g0 k19).range (j := 1) rfl (st (s_call fn101 rfl (sub_any (n0 := n0) (below_n0 hn0 hb17) (((ha.at0 hb17)).unlocG hb17) (((hb.at0 hb17)).unlocG hb17) (by first | omega | (simp; done) | (simp; omega)) (by first | omega | (simp; done) | (simp; omega))) ?_)))
    rintro _ w25 ⟨hq8, v14, rfl, hS14⟩
    have k25 := grown_of_below hq8 none
    have hz12 := hq8.size
    have hb23 := below_g0 hb17 k25
    have hz13 := hb23.size
    refine st (s_move rfl (st (s_extract rfl rfl (st (s_extract rfl rfl (st (s_assign rfl (st (s_assign rfl (r_end (n_then ?_)))))))))))
    refine w_seq (w_region (st (s_faddr fld31_0 rfl (st (s_load one4 rfl ((((hB1.g0 k2).g0 k3).g0 k19).g0 k25).range (j := 0) rfl (st (s_move rfl (st (s_call fn76 rfl (signed_any (m := nv (ml n) - nv (ml m)) (n0 := n0) (below_n0 hn0 hb23) hS14 (by first | omega | exact shlN_nn (by omega) | exact shrN_nn (by first | omega | exact nv_nonneg (lim_tl _)) | exact nv_nonneg (lim_tl _))) ?_)))))))))
    rintro _ w26 ⟨hq9, v15, rfl, hS15⟩
    have k26 := grown_of_below hq9 none
    have hz14 := hq9.size
    have hb24 := below_g0 hb23 k26
    have hz15 := hb24.size
    refine st0 (s_storeN row31 rfl rfl (((hB3.g0 k19).g0 k25).g0 k26) (by simp only [List.all_cons, List.all_nil, hS15.one, Bool.and_true, Bool.and_self] <;> rfl) rfl rfl ?_)
    intro w27 hB8 k27 hs9
    have hb25 := below_g hb24 k27 (by first | omega | (have h9 := (hb24).size; omega))
    refine r_end (n_then (w_retc1 rfl row31 rfl hB8.range rfl ?_))
    exact ⟨_, rfl, hb25, big_of (sg_sub (fun e => by rw [e, beq_self_eq_true] at h1; cases h1) hc2) (hS15.ggB k27 (((hB3.g0 k19).g0 k25).g0 k26) (by decide) (by omega))⟩
  have hc2 := cmpI_neg h2
  refine w_region (st (s_loadW row31 rfl ((hB2.g0 k3).g0 k19).range rfl (st (s_loadW row31 rfl (((hB1.g0 k2).g0 k3).g0 k19).range rfl (st0 (s_storeN row31 rfl rfl (((hB1.g0 k2).g0 k3).g0 k19) (by simp only [List.all_cons, List.all_nil, hb.one, Bool.and_true, Bool.and_self] <;> rfl) rfl rfl ?_))))))
  intro w20 hB5 k20 hs6
  have hb18 := below_g hb17 k20 (by first | omega | (have h9 := (hb17).size; omega))
  refine st0 (s_storeN row31 rfl rfl (((hB2.g0 k3).g0 k19).gne k20 (by omega)) (by simp only [List.all_cons, List.all_nil, ha.one, Bool.and_true, Bool.and_self] <;> rfl) rfl rfl ?_)
  intro w21 hB6 k21 hs7
  have hb19 := below_g hb18 k21 (by first | omega | (have h9 := (hb18).size; omega))
  refine r_end (n_then (w_seq (w_region (st (s_faddr fld31_1 rfl (st (s_load one29 rfl (hB5.gne k21 (by omega)).range (j := 1) rfl (st (s_faddr fld31_1 rfl ?_)))))))))
  refine st (s_load one29 rfl hB6.range (j := 1) rfl (st (s_call fn101 rfl (sub_any (n0 := n0) (below_n0 hn0 hb19) (((hb.at0 hb19)).unlocG hb19) (((ha.at0 hb19)).unlocG hb19) (by first | omega | (simp; done) | (simp; omega)) (by first | omega | (simp; done) | (simp; omega))) ?_)))
  rintro _ w22 ⟨hq6, v12, rfl, hS12⟩
  have k22 := grown_of_below hq6 none
  have hz8 := hq6.size
  have hb20 := below_g0 hb19 k22
  have hz9 := hb20.size
  refine st (s_move rfl (st (s_extract rfl rfl (st (s_extract rfl rfl (st (s_assign rfl (st (s_assign rfl (r_end (n_then ?_)))))))))))
  refine w_seq (w_region (st (s_faddr fld31_0 rfl (st (s_load one4 rfl ((hB5.gne k21 (by omega)).g0 k22).range (j := 0) rfl (st (s_move rfl (st (s_call fn76 rfl (signed_any (m := nv (ml m) - nv (ml n)) (n0 := n0) (below_n0 hn0 hb20) hS12 (by first | omega | exact shlN_nn (by omega) | exact shrN_nn (by first | omega | exact nv_nonneg (lim_tl _)) | exact nv_nonneg (lim_tl _))) ?_)))))))))
  rintro _ w23 ⟨hq7, v13, rfl, hS13⟩
  have k23 := grown_of_below hq7 none
  have hz10 := hq7.size
  have hb21 := below_g0 hb20 k23
  have hz11 := hb21.size
  refine st0 (s_storeN row31 rfl rfl (((((hB3.g0 k19).gne k20 (by omega)).gne k21 (by omega)).g0 k22).g0 k23) (by simp only [List.all_cons, List.all_nil, hS13.one, Bool.and_true, Bool.and_self] <;> rfl) rfl rfl ?_)
  intro w24 hB7 k24 hs8
  have hb22 := below_g hb21 k24 (by first | omega | (have h9 := (hb21).size; omega))
  refine r_end (n_then (w_retc1 rfl row31 rfl hB7.range rfl ?_))
  exact ⟨_, rfl, hb22, big_of ((sg_sub (fun e => by rw [e, beq_self_eq_true] at h1; cases h1) (Int.le_of_lt hc2)).trans (Int.add_comm m n)) (hS13.ggB k24 (((((hB3.g0 k19).gne k20 (by omega)).gne k21 (by omega)).g0 k22).g0 k23) (by decide) (by omega))⟩

theorem badd_any {w : World} {n0 : Nat} (hn0 : n0 ≤ w.heap.size)  {vn : Value} {n : Int} {vm : Value} {m : Int} (hn : IsBig 83 n0 w vn n) (hm : IsBig 83 n0 w vm m) (hbn : Bd 90000 n) (hbm : Bd 90000 m)  :
    Calls Try.prog 78 [vn, vm].toArray w (Pure w fun v W => IsBig 83 n0 W v (n + m)) := by
  obtain ⟨sn, rfl, kn⟩ := hn
  obtain ⟨sm, rfl, km⟩ := hm
  exact badd_any0 hn0 kn km hbn hbm

set_option maxHeartbeats 1000000 in
theorem bpow_any {w : World} {n0 : Nat} (hn0 : n0 ≤ w.heap.size) {k : Int} :
    Calls Try.prog 42 [.int .i64 k].toArray w (Pure w fun v W => IsBig 83 n0 W v (shlN 1 k)) := by
  have hb0 := Below.refl w.heap.size w
  refine enter Try.func42 rfl rfl (w_seq (w_region (st (s_alloc zero31 ?_))))
  intro g1 w1 hg1 hB1 k1 hs1
  have hz1 := hb0.size
  have hb1 := below_g0 hb0 k1
  refine r_end (n_then (w_seq (w_region (st (s_bslice (ps := [(0, .const (.int .u32 1))]) (ccs := [#[.int .u32 1]]) (e := 83) (cells := [.int .u32 1]) rfl rfl (by kernel_rfl) (by decide) nz83 ?_)))))
  intro g2 w2 hg2 hB2 k2 hs2
  have hb2 := below_g0 hb1 k2
  have hz2 := hb2.size
  have hS1 := lit_u32s (F := fun _ => False) ([1] : List Int) hB2 (fun h => h) rfl (by first | decide | simp)
  refine st (s_move rfl (st (s_call fn77 rfl (shl_any (n0 := n0) (below_n0 hn0 hb2) (Sl.litG hB2 hS1) (by first | omega | (simp; done) | (simp; omega))) ?_)))
  rintro v1 w3 ⟨hq1, hS2⟩
  have k3 := grown_of_below hq1 none
  have hz3 := hq1.size
  have hb3 := below_g0 hb2 k3
  have hz4 := hb3.size
  refine st (s_call fn76 rfl (signed_any (m := shlN (nv ([1] : List Int)) k) (n0 := n0) (below_n0 hn0 hb3) (by have h9 := hS2; rw [shlL_tl] at h9; exact h9) (shlN_nn (by decide))) ?_)
  rintro _ w4 ⟨hq2, v2, rfl, hS3⟩
  have k4 := grown_of_below hq2 none
  have hz5 := hq2.size
  have hb4 := below_g0 hb3 k4
  have hz6 := hb4.size
  refine st0 (s_storeN row31 rfl rfl (((hB1.g0 k2).g0 k3).g0 k4) (by simp only [List.all_cons, List.all_nil, hS3.one, Bool.and_true, Bool.and_self] <;> rfl) rfl rfl ?_)
  intro w5 hB3 k5 hs3
  have hb5 := below_g hb4 k5 (by first | omega | (have h9 := (hb4).size; omega))
  refine r_end (n_then (w_retc1 rfl row31 rfl hB3.range rfl ?_))
  exact ⟨_, rfl, hb5, big_of (pow_val k) (hS3.ggB k5 (((hB1.g0 k2).g0 k3).g0 k4) (by decide) (by omega))⟩

end Go.Proofs.Ytfljelnfjbbknaa.Lm

set_option maxRecDepth 20000
set_option linter.unusedSimpArgs false
set_option linter.unusedVariables false
namespace Go.Proofs.Ytfljelnfjbbknaa.Lm
open Go.RowKit Go.Gw
set_option maxHeartbeats 1000000 in
theorem sign_any {w : World} {n0 : Nat} (hn0 : n0 ≤ w.heap.size) {ng : Bool} {a : Value} {xs : List Int} (ha : Sl Kd.u32 w (G 83 n0 w) a xs) (hla : xs.length ≤ 100000) :
    Calls Try.prog 53 [.bool ng, a].toArray w (Pure w fun v W => IsBig 83 n0 W v (sg ng (nv xs))) := by
  have hb0 := Below.refl w.heap.size w
  have hln1 := ha.lenle
  refine enter Try.func53 rfl rfl (w_seq (w_region (st (s_alloc zero31 ?_))))
  intro g1 w1 hg1 hB1 k1 hs1
  have hz1 := hb0.size
  have hb1 := below_g0 hb0 k1
  refine r_end (n_then (w_seq (w_region (st (s_move rfl (st (s_call fn84 rfl (rnorm_any (n0 := n0) (below_n0 hn0 hb1) (((ha.at0 hb1)).unlocG hb1) (by first | omega | (simp; done) | (simp; omega))) ?_)))))))
  rintro v1 w2 ⟨hq1, hS1⟩
  have k2 := grown_of_below hq1 none
  have hz2 := hq1.size
  have hb2 := below_g0 hb1 k2
  have hz3 := hb2.size
  refine st (s_assign rfl (r_end (n_then (w_seq (w_region (st (s_move rfl (st (s_move rfl ?_)))))))))
  refine r_case 8 rfl (fun h1 => ?_) (fun h1 => ?_)
  rotate_left
  · refine s_pass rfl rfl (s_pass rfl rfl (s_pass rfl rfl (st (s_pick rfl rfl (st (s_move rfl (st (s_build (ps := [(0, .tmp 12), (1, .tmp 13)]) (ccs := [#[.bool false], #[v1]]) (cells := [.bool false, v1]) rfl (by simp only [List.map_cons, List.map_nil, hS1.cells1] <;> rfl) (by kernel_rfl) (st0 (s_storeN row31 rfl rfl (hB1.g0 k2) (by simp only [List.all_cons, List.all_nil, hS1.one, Bool.and_true, Bool.and_self] <;> rfl) rfl rfl ?_))))))))))
    intro w4 hB3 k4 hs3
    have hb4 := below_g hb2 k4 (by first | omega | (have h9 := (hb2).size; omega))
    refine r_end (n_then (w_retc1 rfl row31 rfl hB3.range rfl ?_))
    have hm := nv_nonneg (lim_sl ha)
    exact ⟨_, rfl, hb4, _, by rw [sg_pos hm h1], by rw [← sg_ml ng hm]; exact (hS1.ggB k4 (hB1.g0 k2) (by decide) (by omega))⟩
  refine stg (s_move rfl (stg (s_len sl29 rfl hS1 (stg (s_gt rfl rfl (st (s_pick rfl rfl (st (s_move rfl (st (s_build (ps := [(0, .tmp 12), (1, .tmp 13)]) (ccs := [#[.bool (decide (0 < ((tl (nv xs)).length : Int)))], #[v1]]) (cells := [.bool (decide (0 < ((tl (nv xs)).length : Int))), v1]) rfl (by simp only [List.map_cons, List.map_nil, hS1.cells1] <;> rfl) (by kernel_rfl) (st0 (s_storeN row31 rfl rfl (hB1.g0 k2) (by simp only [List.all_cons, List.all_nil, hS1.one, Bool.and_true, Bool.and_self] <;> rfl) rfl rfl ?_)))))))))))))
  intro w3 hB2 k3 hs2
  have hb3 := below_g hb2 k3 (by first | omega | (have h9 := (hb2).size; omega))
  refine r_end (n_then (w_retc1 rfl row31 rfl hB2.range rfl ?_))
  have hm := nv_nonneg (lim_sl ha)
  exact ⟨_, rfl, hb3, _, by rw [sg_neg hm h1], by rw [← sg_ml ng hm]; exact (hS1.ggB k3 (hB1.g0 k2) (by decide) (by omega))⟩

set_option maxHeartbeats 1000000 in
theorem rof2_any {w : World} {n0 : Nat} (hn0 : n0 ≤ w.heap.size) {n : Int} (hn : -9223372036854775808 ≤ n ∧ n ≤ 9223372036854775807) :
    Calls Try.prog 20 [.int .i64 n].toArray w (Pure w fun v W => IsBig 83 n0 W v (n)) := by
  have hb0 := Below.refl w.heap.size w
  refine enter Try.func20 rfl rfl (w_seq (w_region (st (s_alloc zero31 ?_))))
  intro g1 w1 hg1 hB1 k1 hs1
  have hz1 := hb0.size
  have hb1 := below_g0 hb0 k1
  refine r_end (n_then (w_seq (w_region (st (s_move rfl (st (s_convm (M := 18446744073709551616) rfl rfl intk3 intk81 rfl (st (s_assign rfl ?_)))))))))
  refine r_end (n_then (w_seq (w_seq (w_region (st (s_move rfl (st (s_lt rfl rfl ?_))))))))
  refine r_end (n_then ?_)
  refine w_condP rfl (fun h1 => ?_) (fun h1 => ?_)
  rotate_left
  · refine w_skip' (n_then (w_seq (w_region (st (s_move rfl (st (s_lt rfl rfl (st (s_move rfl ?_)))))))))
    refine st (s_remk rfl rfl (by omega) (by omega) (st (s_convm (M := 4294967296) rfl rfl intk81 intk83 rfl (st (s_move rfl (st (s_quok (M := 18446744073709551616) rfl rfl rfl rfl (by omega) (by omega) (st (s_convm (M := 4294967296) rfl rfl intk81 intk83 rfl (st (s_bslice (ps := [(0, .tmp 14), (1, .tmp 17)]) (ccs := [#[.int .u32 (((n % 18446744073709551616) % 4294967296) % 4294967296)], #[.int .u32 (((n % 18446744073709551616) / 4294967296) % 4294967296)]]) (e := 83) (cells := [.int .u32 (((n % 18446744073709551616) % 4294967296) % 4294967296), .int .u32 (((n % 18446744073709551616) / 4294967296) % 4294967296)]) rfl rfl (by kernel_rfl) (by decide) nz83 ?_)))))))))))
    intro g3 w5 hg3 hB4 k5 hs4
    have hb5 := below_g0 hb1 k5
    have hz5 := hb5.size
    have hS3 := lit_u32s (F := fun _ => False) ([(((n % 18446744073709551616) % 4294967296) % 4294967296), (((n % 18446744073709551616) / 4294967296) % 4294967296)] : List Int) hB4 (fun h => h) rfl (by first | decide | simp) (by intro x hx; simp at hx; omega)
    refine st (s_call fn53 rfl (sign_any (n0 := n0) (below_n0 hn0 hb5) (Sl.litG hB4 hS3) (by first | omega | (simp; done) | (simp; omega))) ?_)
    rintro _ w6 ⟨hq2, v2, rfl, hS4⟩
    have k6 := grown_of_below hq2 none
    have hz6 := hq2.size
    have hb6 := below_g0 hb5 k6
    have hz7 := hb6.size
    refine st0 (s_storeN row31 rfl rfl ((hB1.g0 k5).g0 k6) (by simp only [List.all_cons, List.all_nil, hS4.one, Bool.and_true, Bool.and_self] <;> rfl) rfl rfl ?_)
    intro w7 hB5 k7 hs5
    have hb7 := below_g hb6 k7 (by first | omega | (have h9 := (hb6).size; omega))
    refine r_end (n_then (w_retc1 rfl row31 rfl hB5.range rfl ?_))
    exact ⟨_, rfl, hb7, big_of (rof_pos hn h1) (hS4.ggB k7 ((hB1.g0 k5).g0 k6) (by decide) (by omega))⟩
  refine w_region (st (s_move rfl (st (s_negk (M := 18446744073709551616) rfl rfl rfl (st (s_assign rfl (r_end (n_then (w_seq ?_)))))))))
  refine w_region (st (s_move rfl (st (s_lt rfl rfl (st (s_move rfl (st (s_remk rfl rfl (by omega) (by omega) (st (s_convm (M := 4294967296) rfl rfl intk81 intk83 rfl (st (s_move rfl ?_))))))))))))
  refine st (s_quok (M := 18446744073709551616) rfl rfl rfl rfl (by omega) (by omega) (st (s_convm (M := 4294967296) rfl rfl intk81 intk83 rfl (st (s_bslice (ps := [(0, .tmp 14), (1, .tmp 17)]) (ccs := [#[.int .u32 ((((-(n % 18446744073709551616)) % 18446744073709551616) % 4294967296) % 4294967296)], #[.int .u32 ((((-(n % 18446744073709551616)) % 18446744073709551616) / 4294967296) % 4294967296)]]) (e := 83) (cells := [.int .u32 ((((-(n % 18446744073709551616)) % 18446744073709551616) % 4294967296) % 4294967296), .int .u32 ((((-(n % 18446744073709551616)) % 18446744073709551616) / 4294967296) % 4294967296)]) rfl rfl (by kernel_rfl) (by decide) nz83 ?_)))))
  intro g2 w2 hg2 hB2 k2 hs2
  have hb2 := below_g0 hb1 k2
  have hz2 := hb2.size
  have hS1 := lit_u32s (F := fun _ => False) ([((((-(n % 18446744073709551616)) % 18446744073709551616) % 4294967296) % 4294967296), ((((-(n % 18446744073709551616)) % 18446744073709551616) / 4294967296) % 4294967296)] : List Int) hB2 (fun h => h) rfl (by first | decide | simp) (by intro x hx; simp at hx; omega)
  refine st (s_call fn53 rfl (sign_any (n0 := n0) (below_n0 hn0 hb2) (Sl.litG hB2 hS1) (by first | omega | (simp; done) | (simp; omega))) ?_)
  rintro _ w3 ⟨hq1, v1, rfl, hS2⟩
  have k3 := grown_of_below hq1 none
  have hz3 := hq1.size
  have hb3 := below_g0 hb2 k3
  have hz4 := hb3.size
  refine st0 (s_storeN row31 rfl rfl ((hB1.g0 k2).g0 k3) (by simp only [List.all_cons, List.all_nil, hS2.one, Bool.and_true, Bool.and_self] <;> rfl) rfl rfl ?_)
  intro w4 hB3 k4 hs3
  have hb4 := below_g hb3 k4 (by first | omega | (have h9 := (hb3).size; omega))
  refine r_end (n_then (w_retc1 rfl row31 rfl hB3.range rfl ?_))
  exact ⟨_, rfl, hb4, big_of (rof_neg hn h1) (hS2.ggB k4 ((hB1.g0 k2).g0 k3) (by decide) (by omega))⟩

set_option maxHeartbeats 1000000 in
theorem rminus_any0 {w : World} {n0 : Nat} (hn0 : n0 ≤ w.heap.size)  {a : Value} {n : Int} (ha : Sl Kd.u32 w (G 83 n0 w) a (ml n)) (hbn : Bd 90000 n)  :
    Calls Try.prog 48 [.agg [.bool (decide (n < 0)), a].toArray].toArray w (Pure w fun v W => IsBig 83 n0 W v (-n)) := by
  have hb0 := Below.refl w.heap.size w
  have hln := bd_len hbn
  have hnn := nv_ml n
  refine enter Try.func48 rfl rfl (w_seq (w_region (st (s_box rfl ?_))))
  intro g1 w1 hg1 hB1 k1 hs1
  change Blk w1 g1 31 [.bool (decide (n < 0)), a].toArray at hB1
  have hb1 := below_g0 hb0 k1
  have hlt_1 := (hB1).lt
  refine st (s_alloc zero31 ?_)
  intro g2 w2 hg2 hB2 k2 hs2
  have hz1 := hb1.size
  have hb2 := below_g0 hb1 k2
  refine r_end (n_then (w_seq (w_region (st (s_faddr fld31_0 rfl (st (s_load one4 rfl (hB1.g0 k2).range (j := 0) rfl (st (s_notP rfl ?_)))))))))
  refine st (s_faddr fld31_1 rfl (st (s_load one29 rfl (hB1.g0 k2).range (j := 1) rfl (st (s_call fn53 rfl (sign_any (n0 := n0) (below_n0 hn0 hb2) (((ha.at0 hb2)).unlocG hb2) (by first | omega | (simp; done) | (simp; omega))) ?_)))))
  rintro _ w3 ⟨hq1, v1, rfl, hS1⟩
  have k3 := grown_of_below hq1 none
  have hz2 := hq1.size
  have hb3 := below_g0 hb2 k3
  have hz3 := hb3.size
  refine st0 (s_storeN row31 rfl rfl (hB2.g0 k3) (by simp only [List.all_cons, List.all_nil, hS1.one, Bool.and_true, Bool.and_self] <;> rfl) rfl rfl ?_)
  intro w4 hB3 k4 hs3
  have hb4 := below_g hb3 k4 (by first | omega | (have h9 := (hb3).size; omega))
  refine r_end (n_then (w_retc1 rfl row31 rfl hB3.range rfl ?_))
  exact ⟨_, rfl, hb4, big_of (by rw [nv_ml]; exact sg_minv n) (hS1.ggB k4 (hB2.g0 k3) (by decide) (by omega))⟩

theorem rminus_any {w : World} {n0 : Nat} (hn0 : n0 ≤ w.heap.size)  {vn : Value} {n : Int} (hn : IsBig 83 n0 w vn n) (hbn : Bd 90000 n)  :
    Calls Try.prog 48 [vn].toArray w (Pure w fun v W => IsBig 83 n0 W v (-n)) := by
  obtain ⟨sn, rfl, kn⟩ := hn
  exact rminus_any0 hn0 kn hbn

set_option maxHeartbeats 1000000 in
theorem rbadd_any0 {w : World} {n0 : Nat} (hn0 : n0 ≤ w.heap.size)  {a : Value} {n : Int} {b : Value} {m : Int} (ha : Sl Kd.u32 w (G 83 n0 w) a (ml n)) (hb : Sl Kd.u32 w (G 83 n0 w) b (ml m)) (hbn : Bd 90000 n) (hbm : Bd 90000 m)  :
    Calls Try.prog 22 [.agg [.bool (decide (n < 0)), a].toArray, .agg [.bool (decide (m < 0)), b].toArray].toArray w (Pure w fun v W => IsBig 83 n0 W v (n + m)) := by
  have hb0 := Below.refl w.heap.size w
  have hal : (tl (nv (ml n) + nv (ml m))).length ≤ 90001 := by rw [nv_ml, nv_ml]; exact tl_len (by omega) (by have h1 := (bd_add (i := 90001) hbn hbm (by decide) (by decide)); have h2 := (bd_sub (i := 90001) hbn hbm (by decide) (by decide)); unfold Bd at *; omega)
  have hsl : (tl (nv (ml n) - nv (ml m))).length ≤ 90001 := by rw [nv_ml, nv_ml]; by_cases h0 : ((n.natAbs : Nat) : Int) - m.natAbs ≤ 0; (rw [tl_zero h0]; exact Nat.zero_le _); exact tl_len (by omega) (by have h1 := (bd_add (i := 90001) hbn hbm (by decide) (by decide)); have h2 := (bd_sub (i := 90001) hbn hbm (by decide) (by decide)); unfold Bd at *; omega)
  have hsl2 : (tl (nv (ml m) - nv (ml n))).length ≤ 90001 := by rw [nv_ml, nv_ml]; by_cases h0 : ((m.natAbs : Nat) : Int) - n.natAbs ≤ 0; (rw [tl_zero h0]; exact Nat.zero_le _); exact tl_len (by omega) (by have h1 := (bd_add (i := 90001) hbn hbm (by decide) (by decide)); have h2 := (bd_sub (i := 90001) hbn hbm (by decide) (by decide)); unfold Bd at *; omega)
  have hln := bd_len hbn
  have hlm := bd_len hbm
  have hnn := nv_ml n
  have hnm := nv_ml m
  refine enter Try.func22 rfl rfl (w_seq (w_region (st (s_box rfl ?_))))
  intro g1 w1 hg1 hB1 k1 hs1
  change Blk w1 g1 31 [.bool (decide (n < 0)), a].toArray at hB1
  have hb1 := below_g0 hb0 k1
  refine st (s_box rfl ?_)
  intro g2 w2 hg2 hB2 k2 hs2
  change Blk w2 g2 31 [.bool (decide (m < 0)), b].toArray at hB2
  have hb2 := below_g0 hb1 k2
  have hlt_1 := ((hB1.g0 k2)).lt
  have hlt_2 := (hB2).lt
  refine st (s_alloc zero31 ?_)
  intro g3 w3 hg3 hB3 k3 hs3
  have hz1 := hb2.size
  have hb3 := below_g0 hb2 k3
  refine r_end (n_then (w_seq (w_seq (w_region (st (s_faddr fld31_0 rfl (st (s_load one4 rfl ((hB1.g0 k2).g0 k3).range (j := 0) rfl ?_))))))))
  refine st (s_faddr fld31_0 rfl (st (s_load one4 rfl (hB2.g0 k3).range (j := 0) rfl (st (s_eqbool bool4 rfl rfl (r_end (n_then ?_)))))))
  refine w_cond rfl (fun h1 => ?_) (fun h1 => ?_)
  · refine w_seq ?_
    refine w_draw 8 (fun a b => a.grownBy b none) [(some 12, Is <| .pointer (some ⟨g1, 0 + 0, none⟩)), (some 13, Is <| .bool (decide (n < 0))), (some 14, Is <| .pointer (some ⟨g1, 0 + 1, none⟩)), (some 15, fun v _ => Sl Kd.u32 w (G 83 n0 w) v (ml n)), (some 16, Is <| .pointer (some ⟨g2, 0 + 1, none⟩)), (some 17, fun v _ => Sl Kd.u32 w (G 83 n0 w) v (ml m)), (some 18, fun v W => Sl Kd.u32 W (G 83 n0 W) v (tl (nv (ml n) + nv (ml m)))), (some 19, fun v W => IsBig 83 n0 W v (sg (decide (n < 0)) (nv (tl (nv (ml n) + nv (ml m))))))] [[], [0], [], [2], [], [4], [3, 5], [1, 6]] [(2, .pointer (some ⟨g1, 0, none⟩)), (3, .pointer (some ⟨g2, 0, none⟩)), (4, .pointer (some ⟨g3, 0, none⟩))] (by exact ⟨rfl, rfl, rfl, trivial⟩) (by kernel_rfl) (by kernel_rfl) grown_none_refl (fun _ _ _ => grown_none_trans) ⟨kv, kv, kv, fun _ _ _ h _ => h, kv, fun _ _ _ h _ => h, fun _ _ _ h k => h.gg0 k, fun _ _ _ h k => h.g0 k, trivial⟩ ?_
    intro w6 k6 hs4
    have hb4 := below_g0 hb3 k6
    refine ⟨⟨?_, ?_, ?_, ?_, ?_, ?_, ?_, ?_, trivial⟩, ?_⟩
    · intro w7 k7
      refine op1 (s_faddr fld31_0 rfl ?_)
      exact ⟨rfl, grown_none_refl _⟩
    · intro w8 k8
      rintro _ rfl
      refine op1 (s_load one4 rfl ((((hB1.g0 k2).g0 k3).g0 k6).g0 k8).range (j := 0) rfl ?_)
      exact ⟨rfl, grown_none_refl _⟩
    · intro w9 k9
      refine op1 (s_faddr fld31_1 rfl ?_)
      exact ⟨rfl, grown_none_refl _⟩
    · intro w10 k10
      rintro _ rfl
      refine op1 (s_load one29 rfl ((((hB1.g0 k2).g0 k3).g0 k6).g0 k10).range (j := 1) rfl ?_)
      exact ⟨ha, grown_none_refl _⟩
    · intro w11 k11
      refine op1 (s_faddr fld31_1 rfl ?_)
      exact ⟨rfl, grown_none_refl _⟩
    · intro w12 k12
      rintro _ rfl
      refine op1 (s_load one29 rfl (((hB2.g0 k3).g0 k6).g0 k12).range (j := 1) rfl ?_)
      exact ⟨hb, grown_none_refl _⟩
    · intro w13 k13
      have hb11 := below_g0 hb4 k13
      rintro v3 hS3 v4 hS4
      refine op1 (s_call fn54 rfl (radd_any (n0 := n0) (below_n0 hn0 hb11) (((hS3.at0 hb11)).unlocG hb11) (((hS4.at0 hb11)).unlocG hb11) (by first | omega | (simp; done) | (simp; omega)) (by first | omega | (simp; done) | (simp; omega))) ?_)
      rintro v5 w14 ⟨hq3, hS5⟩
      have k14 := grown_of_below hq3 none
      have hz2 := hq3.size
      have hb12 := below_g0 hb11 k14
      have hz3 := hb12.size
      exact ⟨hS5, k14⟩
    · intro w15 k15
      have hb13 := below_g0 hb4 k15
      rintro _ rfl v6 hS6
      refine op1 (s_call fn53 rfl (sign_any (n0 := n0) (below_n0 hn0 hb13) hS6 (by first | omega | (simp; done) | (simp; omega))) ?_)
      rintro _ w16 ⟨hq4, v7, rfl, hS7⟩
      have k16 := grown_of_below hq4 none
      have hz4 := hq4.size
      have hb14 := below_g0 hb13 k16
      have hz5 := hb14.size
      exact ⟨⟨_, rfl, hS7⟩, k16⟩
    intro w17 k17
    have hb15 := below_g0 hb4 k17
    rintro _ rfl _ rfl _ rfl v8 hS8 _ rfl v9 hS9 v10 hS10 _ ⟨v11, rfl, hS11⟩
    refine st0 (s_storeN row31 rfl rfl ((hB3.g0 k6).g0 k17) (by simp only [List.all_cons, List.all_nil, hS11.one, Bool.and_true, Bool.and_self] <;> rfl) rfl rfl ?_)
    intro w18 hB4 k18 hs5
    have hb16 := below_g hb15 k18 (by first | omega | (have h9 := (hb15).size; omega))
    refine r_end (n_then (w_retc1 rfl row31 rfl hB4.range rfl ?_))
    have he : sg (decide (n < 0)) (nv (tl (nv (ml n) + nv (ml m)))) = n + m := (by rw [nv_tl (by omega)]; exact sg_add (eq_of_beq h1))
    exact ⟨_, rfl, hb16, big_of he (hS11.ggB k18 ((hB3.g0 k6).g0 k17) (by decide) (by omega))⟩
  refine w_skip' (n_then (w_seq (w_region (st (s_faddr fld31_1 rfl (st (s_load one29 rfl ((hB1.g0 k2).g0 k3).range (j := 1) rfl (st (s_faddr fld31_1 rfl ?_)))))))))
  refine st (s_load one29 rfl (hB2.g0 k3).range (j := 1) rfl (st (s_call fn55 rfl (rsub_any (n0 := n0) (below_n0 hn0 hb3) (((ha.at0 hb3)).unlocG hb3) (((hb.at0 hb3)).unlocG hb3) (by first | omega | (simp; done) | (simp; omega)) (by first | omega | (simp; done) | (simp; omega))) ?_)))
  rintro _ w19 ⟨hq5, v12, rfl, hS12⟩
  have k19 := grown_of_below hq5 none
  have hz6 := hq5.size
  have hb17 := below_g0 hb3 k19
  have hz7 := hb17.size
  refine st (s_move rfl (st (s_extract rfl rfl (st (s_extract rfl rfl (st (s_assign rfl (st (s_assign rfl (r_end (n_then ?_)))))))))))
  refine w_seq (w_seq (w_region (st (s_move rfl (r_end (n_then ?_))))))
  refine w_cond rfl (fun h2 => ?_) (fun h2 => ?_)
  · refine w_seq (w_region (st (s_faddr fld31_0 rfl (st (s_load one4 rfl (((hB1.g0 k2).g0 k3).g0 k19).range (j := 0) rfl (st (s_move rfl (st (s_call fn53 rfl (sign_any (n0 := n0) (below_n0 hn0 hb17) hS12 (by first | omega | (simp; done) | (simp; omega))) ?_)))))))))
    rintro _ w20 ⟨hq6, v13, rfl, hS13⟩
    have k20 := grown_of_below hq6 none
    have hz8 := hq6.size
    have hb18 := below_g0 hb17 k20
    have hz9 := hb18.size
    refine st0 (s_storeN row31 rfl rfl ((hB3.g0 k19).g0 k20) (by simp only [List.all_cons, List.all_nil, hS13.one, Bool.and_true, Bool.and_self] <;> rfl) rfl rfl ?_)
    intro w21 hB5 k21 hs6
    have hb19 := below_g hb18 k21 (by first | omega | (have h9 := (hb18).size; omega))
    refine r_end (n_then (w_retc1 rfl row31 rfl hB5.range rfl ?_))
    have he : sg (decide (n < 0)) (nv (tl (nv (ml n) - nv (ml m)))) = n + m := (by have hle : nv (ml m) ≤ nv (ml n) := (by simpa using h2); rw [nv_tl (by omega)]; exact sg_sub (fun e => by rw [e, beq_self_eq_true] at h1; cases h1) hle)
    exact ⟨_, rfl, hb19, big_of he (hS13.ggB k21 ((hB3.g0 k19).g0 k20) (by decide) (by omega))⟩
  refine w_skip' (n_then (w_seq (w_region (st (s_faddr fld31_1 rfl (st (s_load one29 rfl ((hB2.g0 k3).g0 k19).range (j := 1) rfl (st (s_faddr fld31_1 rfl ?_)))))))))
  refine st (s_load one29 rfl (((hB1.g0 k2).g0 k3).g0 k19).range (j := 1) rfl (st (s_call fn55 rfl (rsub_any (n0 := n0) (below_n0 hn0 hb17) (((hb.at0 hb17)).unlocG hb17) (((ha.at0 hb17)).unlocG hb17) (by first | omega | (simp; done) | (simp; omega)) (by first | omega | (simp; done) | (simp; omega))) ?_)))
  rintro _ w22 ⟨hq7, v14, rfl, hS14⟩
  have k22 := grown_of_below hq7 none
  have hz10 := hq7.size
  have hb20 := below_g0 hb17 k22
  have hz11 := hb20.size
  refine st (s_move rfl (st (s_extract rfl rfl (st (s_extract rfl rfl (st (s_assign rfl (r_end (n_then (w_seq ?_))))))))))
  refine w_region (st (s_faddr fld31_0 rfl (st (s_load one4 rfl (((hB2.g0 k3).g0 k19).g0 k22).range (j := 0) rfl (st (s_move rfl (st (s_call fn53 rfl (sign_any (n0 := n0) (below_n0 hn0 hb20) hS14 (by first | omega | (simp; done) | (simp; omega))) ?_))))))))
  rintro _ w23 ⟨hq8, v15, rfl, hS15⟩
  have k23 := grown_of_below hq8 none
  have hz12 := hq8.size
  have hb21 := below_g0 hb20 k23
  have hz13 := hb21.size
  refine st0 (s_storeN row31 rfl rfl (((hB3.g0 k19).g0 k22).g0 k23) (by simp only [List.all_cons, List.all_nil, hS15.one, Bool.and_true, Bool.and_self] <;> rfl) rfl rfl ?_)
  intro w24 hB6 k24 hs7
  have hb22 := below_g hb21 k24 (by first | omega | (have h9 := (hb21).size; omega))
  refine r_end (n_then (w_retc1 rfl row31 rfl hB6.range rfl ?_))
  have he : sg (decide (m < 0)) (nv (tl (nv (ml m) - nv (ml n)))) = n + m := (by have hle : ¬ nv (ml m) ≤ nv (ml n) := (by simpa using h2); rw [nv_tl (by omega)]; exact (sg_sub (fun e => by rw [e, beq_self_eq_true] at h1; cases h1) (by omega)).trans (Int.add_comm m n))
  exact ⟨_, rfl, hb22, big_of he (hS15.ggB k24 (((hB3.g0 k19).g0 k22).g0 k23) (by decide) (by omega))⟩

theorem rbadd_any {w : World} {n0 : Nat} (hn0 : n0 ≤ w.heap.size)  {vn : Value} {n : Int} {vm : Value} {m : Int} (hn : IsBig 83 n0 w vn n) (hm : IsBig 83 n0 w vm m) (hbn : Bd 90000 n) (hbm : Bd 90000 m)  :
    Calls Try.prog 22 [vn, vm].toArray w (Pure w fun v W => IsBig 83 n0 W v (n + m)) := by
  obtain ⟨sn, rfl, kn⟩ := hn
  obtain ⟨sm, rfl, km⟩ := hm
  exact rbadd_any0 hn0 kn km hbn hbm

set_option maxHeartbeats 1000000 in
theorem rbsub_any0 {w : World} {n0 : Nat} (hn0 : n0 ≤ w.heap.size)  {a : Value} {n : Int} {b : Value} {m : Int} (ha : Sl Kd.u32 w (G 83 n0 w) a (ml n)) (hb : Sl Kd.u32 w (G 83 n0 w) b (ml m)) (hbn : Bd 90000 n) (hbm : Bd 90000 m)  :
    Calls Try.prog 21 [.agg [.bool (decide (n < 0)), a].toArray, .agg [.bool (decide (m < 0)), b].toArray].toArray w (Pure w fun v W => IsBig 83 n0 W v (n - m)) := by
  have hb0 := Below.refl w.heap.size w
  have hln := bd_len hbn
  have hlm := bd_len hbm
  have hnn := nv_ml n
  have hnm := nv_ml m
  refine enter Try.func21 rfl rfl (w_seq (w_region (st (s_box rfl ?_))))
  intro g1 w1 hg1 hB1 k1 hs1
  change Blk w1 g1 31 [.bool (decide (n < 0)), a].toArray at hB1
  have hb1 := below_g0 hb0 k1
  refine st (s_box rfl ?_)
  intro g2 w2 hg2 hB2 k2 hs2
  change Blk w2 g2 31 [.bool (decide (m < 0)), b].toArray at hB2
  have hb2 := below_g0 hb1 k2
  have hlt_1 := ((hB1.g0 k2)).lt
  have hlt_2 := (hB2).lt
  refine st (s_alloc zero31 ?_)
  intro g3 w3 hg3 hB3 k3 hs3
  have hz1 := hb2.size
  have hb3 := below_g0 hb2 k3
  refine r_end (n_then (w_seq (w_draw 4 (fun a b => a.grownBy b none) [(some 5, Is <| .agg [.bool (decide (n < 0)), a].toArray), (some 6, Is <| .agg [.bool (decide (m < 0)), b].toArray), (some 7, fun v W => IsBig 83 n0 W v ((-m))), (some 8, fun v W => IsBig 83 n0 W v ((n + (-m))))] [[], [], [1], [0, 2]] [(2, .pointer (some ⟨g1, 0, none⟩)), (3, .pointer (some ⟨g2, 0, none⟩)), (4, .pointer (some ⟨g3, 0, none⟩))] (by exact ⟨rfl, rfl, rfl, trivial⟩) (by kernel_rfl) (by kernel_rfl) grown_none_refl (fun _ _ _ => grown_none_trans) ⟨kv, kv, fun _ _ _ h k => h.g0 k, fun _ _ _ h k => h.g0 k, trivial⟩ ?_)))
  intro w6 k6 hs4
  have hb4 := below_g0 hb3 k6
  refine ⟨⟨?_, ?_, ?_, ?_, trivial⟩, ?_⟩
  · intro w7 k7
    refine op1 (s_loadW row31 rfl ((((hB1.g0 k2).g0 k3).g0 k6).g0 k7).range rfl ?_)
    exact ⟨rfl, grown_none_refl _⟩
  · intro w8 k8
    refine op1 (s_loadW row31 rfl (((hB2.g0 k3).g0 k6).g0 k8).range rfl ?_)
    exact ⟨rfl, grown_none_refl _⟩
  · intro w9 k9
    have hb7 := below_g0 hb4 k9
    rintro _ rfl
    refine op1 (s_call fn48 rfl (rminus_any (n0 := n0) (below_n0 hn0 hb7) (big_of rfl (((hb.at0 hb7)).unlocG hb7)) (Bd.le hbm (show 90000 ≤ 90000 by decide))) ?_)
    rintro _ w10 ⟨hq3, v3, rfl, hS3⟩
    have k10 := grown_of_below hq3 none
    have hz2 := hq3.size
    have hb8 := below_g0 hb7 k10
    have hz3 := hb8.size
    exact ⟨⟨_, rfl, hS3⟩, k10⟩
  · intro w11 k11
    have hb9 := below_g0 hb4 k11
    rintro _ rfl _ ⟨v4, rfl, hS4⟩
    refine op1 (s_call fn22 rfl (rbadd_any (n0 := n0) (below_n0 hn0 hb9) (big_of rfl (((ha.at0 hb9)).unlocG hb9)) (big_of rfl hS4) (Bd.le hbn (show 90000 ≤ 90000 by decide)) (Bd.le (bd_neg hbm) (show 90000 ≤ 90000 by decide))) ?_)
    rintro _ w12 ⟨hq4, v5, rfl, hS5⟩
    have k12 := grown_of_below hq4 none
    have hz4 := hq4.size
    have hb10 := below_g0 hb9 k12
    have hz5 := hb10.size
    exact ⟨⟨_, rfl, hS5⟩, k12⟩
  intro w13 k13
  have hb11 := below_g0 hb4 k13
  rintro _ rfl _ rfl _ ⟨v6, rfl, hS6⟩ _ ⟨v7, rfl, hS7⟩
  refine st0 (s_storeN row31 rfl rfl ((hB3.g0 k6).g0 k13) (by simp only [List.all_cons, List.all_nil, hS7.one, Bool.and_true, Bool.and_self] <;> rfl) rfl rfl ?_)
  intro w14 hB4 k14 hs5
  have hb12 := below_g hb11 k14 (by first | omega | (have h9 := (hb11).size; omega))
  refine r_end (n_then (w_retc1 rfl row31 rfl hB4.range rfl ?_))
  exact ⟨_, rfl, hb12, big_of (by omega) (hS7.ggB k14 ((hB3.g0 k6).g0 k13) (by decide) (by omega))⟩

theorem rbsub_any {w : World} {n0 : Nat} (hn0 : n0 ≤ w.heap.size)  {vn : Value} {n : Int} {vm : Value} {m : Int} (hn : IsBig 83 n0 w vn n) (hm : IsBig 83 n0 w vm m) (hbn : Bd 90000 n) (hbm : Bd 90000 m)  :
    Calls Try.prog 21 [vn, vm].toArray w (Pure w fun v W => IsBig 83 n0 W v (n - m)) := by
  obtain ⟨sn, rfl, kn⟩ := hn
  obtain ⟨sm, rfl, km⟩ := hm
  exact rbsub_any0 hn0 kn km hbn hbm

set_option maxHeartbeats 1000000 in
theorem rbcmp_any0 {w : World} {n0 : Nat} (hn0 : n0 ≤ w.heap.size)  {a : Value} {n : Int} {b : Value} {m : Int} (ha : Sl Kd.u32 w (G 83 n0 w) a (ml n)) (hb : Sl Kd.u32 w (G 83 n0 w) b (ml m)) (hbn : Bd 90000 n) (hbm : Bd 90000 m)  :
    Calls Try.prog 23 [.agg [.bool (decide (n < 0)), a].toArray, .agg [.bool (decide (m < 0)), b].toArray].toArray w (Pure w fun v _ => v = .int .i64 (cmpI n m)) := by
  have hb0 := Below.refl w.heap.size w
  have hln := bd_len hbn
  have hlm := bd_len hbm
  have hnn := nv_ml n
  have hnm := nv_ml m
  refine enter Try.func23 rfl rfl (w_seq (w_region (st (s_box rfl ?_))))
  intro g1 w1 hg1 hB1 k1 hs1
  change Blk w1 g1 31 [.bool (decide (n < 0)), a].toArray at hB1
  have hb1 := below_g0 hb0 k1
  refine st (s_box rfl ?_)
  intro g2 w2 hg2 hB2 k2 hs2
  change Blk w2 g2 31 [.bool (decide (m < 0)), b].toArray at hB2
  have hb2 := below_g0 hb1 k2
  refine st (s_assign rfl (r_end (n_then (w_seq (w_region (st (s_loadW row31 rfl (hB1.g0 k2).range rfl (st (s_loadW row31 rfl hB2.range rfl ?_)))))))))
  refine st (s_call fn21 rfl (rbsub_any (n0 := n0) (below_n0 hn0 hb2) (big_of rfl (((ha.at0 hb2)).unlocG hb2)) (big_of rfl (((hb.at0 hb2)).unlocG hb2)) (Bd.le hbn (show 90000 ≤ 90000 by decide)) (Bd.le hbm (show 90000 ≤ 90000 by decide))) ?_)
  rintro _ w3 ⟨hq1, v1, rfl, hS1⟩
  have k3 := grown_of_below hq1 none
  have hz1 := hq1.size
  have hb3 := below_g0 hb2 k3
  have hz2 := hb3.size
  have hlt_1 := (((hB1.g0 k2).g0 k3)).lt
  have hlt_2 := ((hB2.g0 k3)).lt
  refine st (s_alloc zero31 ?_)
  intro g3 w4 hg3 hB3 k4 hs3
  have hz3 := hb3.size
  have hb4 := below_g0 hb3 k4
  refine st0 (s_storeN row31 rfl rfl hB3 (by simp only [List.all_cons, List.all_nil, hS1.one, Bool.and_true, Bool.and_self] <;> rfl) rfl rfl ?_)
  intro w5 hB4 k5 hs4
  have hb5 := below_g hb4 k5 (by first | omega | (have h9 := (hb4).size; omega))
  refine r_end (n_then (w_seq (w_block (w_seq (w_region (st (s_faddr fld31_1 rfl ?_)))))))
  refine st (s_load one29 rfl hB4.range (j := 1) rfl (st (s_len sl29 rfl ((hS1.gg0 k4).ggB k5 hB3 (by decide) (by omega)) (st (s_eq rfl rfl (st (s_assign rfl (r_end (n_then ?_)))))))))
  refine w_condP rfl (fun h1 => ?_) (fun h1 => ?_)
  · refine w_seq (w_region (st (s_assign rfl (r_end (n_then (w_ret1 rfl rfl ?_))))))
    exact ⟨_, rfl, hb5, congrArg (Value.int .i64) (rcmp_big.2.2 (ml_nil.1 h1)).symm⟩
  refine w_seq (w_region (st (s_faddr fld31_0 rfl (st (s_load one4 rfl hB4.range (j := 0) rfl (st (s_assign rfl (r_end (n_then ?_)))))))))
  refine w_condP rfl (fun h2 => ?_) (fun h2 => ?_)
  · refine w_seq (w_region (st (s_assign rfl (r_end (n_then (w_ret1 rfl rfl ?_))))))
    exact ⟨_, rfl, hb5, congrArg (Value.int .i64) (rcmp_big.2.1 h2).symm⟩
  refine w_skip' (n_block (n_then (w_seq (w_region (st (s_assign rfl (r_end ?_)))))))
  refine n_then (w_ret1 rfl rfl ?_)
  exact ⟨_, rfl, hb5, congrArg (Value.int .i64) (rcmp_big.1 (by have h9 : n - m ≠ 0 := fun e => h1 (ml_nil.2 e); omega)).symm⟩

theorem rbcmp_any {w : World} {n0 : Nat} (hn0 : n0 ≤ w.heap.size)  {vn : Value} {n : Int} {vm : Value} {m : Int} (hn : IsBig 83 n0 w vn n) (hm : IsBig 83 n0 w vm m) (hbn : Bd 90000 n) (hbm : Bd 90000 m)  :
    Calls Try.prog 23 [vn, vm].toArray w (Pure w fun v _ => v = .int .i64 (cmpI n m)) := by
  obtain ⟨sn, rfl, kn⟩ := hn
  obtain ⟨sm, rfl, km⟩ := hm
  exact rbcmp_any0 hn0 kn km hbn hbm

set_option maxHeartbeats 1000000 in
theorem rbshl_any0 {w : World} {n0 : Nat} (hn0 : n0 ≤ w.heap.size) {k : Int} {a : Value} {n : Int} (ha : Sl Kd.u32 w (G 83 n0 w) a (ml n)) (hbn : Bd 90000 n)  :
    Calls Try.prog 80 [.agg [.bool (decide (n < 0)), a].toArray, .int .i64 k].toArray w (Pure w fun v W => IsBig 83 n0 W v (shlN n k)) := by
  have hb0 := Below.refl w.heap.size w
  have hsl := shlL_len (k := k) hbn
  have hln := bd_len hbn
  have hnn := nv_ml n
  refine enter Try.func80 rfl rfl (w_seq (w_region (st (s_box rfl ?_))))
  intro g1 w1 hg1 hB1 k1 hs1
  change Blk w1 g1 31 [.bool (decide (n < 0)), a].toArray at hB1
  have hb1 := below_g0 hb0 k1
  have hlt_1 := (hB1).lt
  refine st (s_alloc zero31 ?_)
  intro g2 w2 hg2 hB2 k2 hs2
  have hz1 := hb1.size
  have hb2 := below_g0 hb1 k2
  refine r_end (n_then (w_seq ?_))
  refine w_draw 7 (fun a b => a.grownBy b none) [(some 5, Is <| .pointer (some ⟨g1, 0 + 0, none⟩)), (some 6, Is <| .bool (decide (n < 0))), (some 7, Is <| .pointer (some ⟨g1, 0 + 1, none⟩)), (some 8, fun v _ => Sl Kd.u32 w (G 83 n0 w) v (ml n)), (some 9, Is <| .int .i64 k), (some 10, fun v W => Sl Kd.u32 W (G 83 n0 W) v (shlL (ml n) k)), (some 11, fun v W => IsBig 83 n0 W v (sg (decide (n < 0)) (nv (shlL (ml n) k))))] [[], [0], [], [2], [], [3, 4], [1, 5]] [(1, .int .i64 k), (2, .pointer (some ⟨g1, 0, none⟩)), (4, .pointer (some ⟨g2, 0, none⟩))] (by exact ⟨rfl, rfl, rfl, trivial⟩) (by kernel_rfl) (by kernel_rfl) grown_none_refl (fun _ _ _ => grown_none_trans) ⟨kv, kv, kv, fun _ _ _ h _ => h, kv, fun _ _ _ h k => h.gg0 k, fun _ _ _ h k => h.g0 k, trivial⟩ ?_
  intro w5 k5 hs3
  have hb3 := below_g0 hb2 k5
  refine ⟨⟨?_, ?_, ?_, ?_, ?_, ?_, ?_, trivial⟩, ?_⟩
  · intro w6 k6
    refine op1 (s_faddr fld31_0 rfl ?_)
    exact ⟨rfl, grown_none_refl _⟩
  · intro w7 k7
    rintro _ rfl
    refine op1 (s_load one4 rfl (((hB1.g0 k2).g0 k5).g0 k7).range (j := 0) rfl ?_)
    exact ⟨rfl, grown_none_refl _⟩
  · intro w8 k8
    refine op1 (s_faddr fld31_1 rfl ?_)
    exact ⟨rfl, grown_none_refl _⟩
  · intro w9 k9
    rintro _ rfl
    refine op1 (s_load one29 rfl (((hB1.g0 k2).g0 k5).g0 k9).range (j := 1) rfl ?_)
    exact ⟨ha, grown_none_refl _⟩
  · intro w10 k10
    refine op1 (s_move rfl ?_)
    exact ⟨rfl, grown_none_refl _⟩
  · intro w11 k11
    have hb9 := below_g0 hb3 k11
    rintro v3 hS3 _ rfl
    refine op1 (s_call fn102 rfl (rshl_any (n0 := n0) (below_n0 hn0 hb9) (((hS3.at0 hb9)).unlocG hb9) (by first | omega | (simp; done) | (simp; omega))) ?_)
    rintro v4 w12 ⟨hq3, hS4⟩
    have k12 := grown_of_below hq3 none
    have hz2 := hq3.size
    have hb10 := below_g0 hb9 k12
    have hz3 := hb10.size
    exact ⟨hS4, k12⟩
  · intro w13 k13
    have hb11 := below_g0 hb3 k13
    rintro _ rfl v5 hS5
    refine op1 (s_call fn53 rfl (sign_any (n0 := n0) (below_n0 hn0 hb11) hS5 (by first | omega | (simp; done) | (simp; omega))) ?_)
    rintro _ w14 ⟨hq4, v6, rfl, hS6⟩
    have k14 := grown_of_below hq4 none
    have hz4 := hq4.size
    have hb12 := below_g0 hb11 k14
    have hz5 := hb12.size
    exact ⟨⟨_, rfl, hS6⟩, k14⟩
  intro w15 k15
  have hb13 := below_g0 hb3 k15
  rintro _ rfl _ rfl _ rfl v7 hS7 _ rfl v8 hS8 _ ⟨v9, rfl, hS9⟩
  refine st0 (s_storeN row31 rfl rfl ((hB2.g0 k5).g0 k15) (by simp only [List.all_cons, List.all_nil, hS9.one, Bool.and_true, Bool.and_self] <;> rfl) rfl rfl ?_)
  intro w16 hB3 k16 hs4
  have hb14 := below_g hb13 k16 (by first | omega | (have h9 := (hb13).size; omega))
  refine r_end (n_then (w_retc1 rfl row31 rfl hB3.range rfl ?_))
  exact ⟨_, rfl, hb14, big_of (by rw [nv_shlL _ _ (by omega)]; exact sg_shl n k) (hS9.ggB k16 ((hB2.g0 k5).g0 k15) (by decide) (by omega))⟩

theorem rbshl_any {w : World} {n0 : Nat} (hn0 : n0 ≤ w.heap.size) {k : Int} {vn : Value} {n : Int} (hn : IsBig 83 n0 w vn n) (hbn : Bd 90000 n)  :
    Calls Try.prog 80 [vn, .int .i64 k].toArray w (Pure w fun v W => IsBig 83 n0 W v (shlN n k)) := by
  obtain ⟨sn, rfl, kn⟩ := hn
  exact rbshl_any0 hn0 kn hbn

set_option maxHeartbeats 1000000 in
theorem rbpow_any {w : World} {n0 : Nat} (hn0 : n0 ≤ w.heap.size) {k : Int} :
    Calls Try.prog 47 [.int .i64 k].toArray w (Pure w fun v W => IsBig 83 n0 W v (shlN 1 k)) := by
  have hb0 := Below.refl w.heap.size w
  refine enter Try.func47 rfl rfl (w_seq (w_region (st (s_alloc zero31 ?_))))
  intro g1 w1 hg1 hB1 k1 hs1
  have hz1 := hb0.size
  have hb1 := below_g0 hb0 k1
  refine r_end (n_then (w_seq (w_region (st (s_call fn20 rfl (rof2_any (n0 := n0) (below_n0 hn0 hb1) (by omega)) ?_)))))
  rintro _ w2 ⟨hq1, v1, rfl, hS1⟩
  have k2 := grown_of_below hq1 none
  have hz2 := hq1.size
  have hb2 := below_g0 hb1 k2
  have hz3 := hb2.size
  refine st (s_move rfl (st (s_call fn80 rfl (rbshl_any (n0 := n0) (below_n0 hn0 hb2) (big_of rfl hS1) (Bd.le (bd_small (by omega)) (show 2 ≤ 90000 by decide))) ?_)))
  rintro _ w3 ⟨hq2, v2, rfl, hS2⟩
  have k3 := grown_of_below hq2 none
  have hz4 := hq2.size
  have hb3 := below_g0 hb2 k3
  have hz5 := hb3.size
  refine st0 (s_storeN row31 rfl rfl ((hB1.g0 k2).g0 k3) (by simp only [List.all_cons, List.all_nil, hS2.one, Bool.and_true, Bool.and_self] <;> rfl) rfl rfl ?_)
  intro w4 hB2 k4 hs2
  have hb4 := below_g hb3 k4 (by first | omega | (have h9 := (hb3).size; omega))
  refine r_end (n_then (w_retc1 rfl row31 rfl hB2.range rfl ?_))
  exact ⟨_, rfl, hb4, big_of (rfl) (hS2.ggB k4 ((hB1.g0 k2).g0 k3) (by decide) (by omega))⟩
end Go.Proofs.Ytfljelnfjbbknaa.Lm

set_option maxRecDepth 20000
set_option linter.unusedSimpArgs false
set_option linter.unusedVariables false
namespace Go.Proofs.Ytfljelnfjbbknaa.Lm
open Go.RowKit Go.Gw
end Go.Proofs.Ytfljelnfjbbknaa.Lm

set_option maxRecDepth 20000
set_option linter.unusedSimpArgs false
set_option linter.unusedVariables false
namespace Go.Proofs.Ytfljelnfjbbknaa.Lm
open Go.RowKit Go.Gw
end Go.Proofs.Ytfljelnfjbbknaa.Lm

set_option maxRecDepth 20000
set_option linter.unusedSimpArgs false
set_option linter.unusedVariables false
namespace Go.Proofs.Ytfljelnfjbbknaa.Lm
open Go.RowKit Go.Gw
end Go.Proofs.Ytfljelnfjbbknaa.Lm

set_option maxRecDepth 20000
set_option linter.unusedSimpArgs false
set_option linter.unusedVariables false
namespace Go.Proofs.Ytfljelnfjbbknaa.Lm
open Go.RowKit Go.Gw
end Go.Proofs.Ytfljelnfjbbknaa.Lm

set_option maxRecDepth 20000
set_option linter.unusedSimpArgs false
set_option linter.unusedVariables false
namespace Go.Proofs.Ytfljelnfjbbknaa.Lm
open Go.RowKit Go.Gw
set_option maxHeartbeats 1000000 in
theorem rlevel_any {va : Value} {l : List Nd} {F : Nat → Prop} {w : World} (hl : Sl Kd.node w F va l) :
    Calls Try.prog 46 [.agg [va].toArray].toArray w (Pure w fun v _ => v = .int .i64 (levelN l)) := by
  have hb0 := Below.refl w.heap.size w
  have hln0 := hl.lenle
  refine enter Try.func46 rfl rfl (w_seq (w_region (st (s_box rfl ?_))))
  intro g1 w1 hg1 hB1 k1 hs1
  change Blk w1 g1 25 [va].toArray at hB1
  have hb1 := below_g0 hb0 k1
  refine st (s_assign rfl (r_end (n_then (w_seq (w_seq (w_region (st (s_faddr fld25_0 rfl ?_))))))))
  refine st (s_load one22 rfl hB1.range (j := 0) rfl (st (s_len sl22 rfl (hl.at0 hb1) (st (s_eq rfl rfl (r_end (n_then ?_)))))))
  refine w_condP rfl (fun h1 => ?_) (fun h1 => ?_)
  · refine w_seq (w_region (st (s_assign rfl (r_end (n_then (w_ret1 rfl rfl ?_))))))
    exact ⟨_, rfl, hb1, by simp only [levelN]; split <;> first | rfl | omega⟩
  refine w_skip' (n_then (w_seq (w_region (st (s_faddr fld25_0 rfl (st (s_load one22 rfl hB1.range (j := 0) rfl (st (s_faddr fld25_0 rfl ?_)))))))))
  refine st (s_load one22 rfl hB1.range (j := 0) rfl (st (s_len sl22 rfl (hl.at0 hb1) (st (s_sub rfl rfl (by omega) (st (s_idx sl22 rfl rfl (hl.at0 hb1) (by omega) (by omega) ?_)))))))
  rintro b1 o1 _ ⟨rfl, _⟩ hc1 hF1 hlt1
  have hl_1 := Loc.lt hF1
  refine st (s_faddr fld101_0 rfl (st (s_load one3 rfl hc1 (j := 0) rfl (st (s_assign rfl (r_end (n_then (w_ret1 rfl rfl ?_))))))))
  exact ⟨_, rfl, hb1, by simp only [levelN]; split <;> first | rfl | omega⟩

end Go.Proofs.Ytfljelnfjbbknaa.Lm

set_option linter.unusedSimpArgs false
set_option linter.unusedVariables false
/-! ### append of what may lie anywhere -/
namespace Go.Gw
open Go.RowKit
section
variable {P : Program} {ops : Array Oper} {Q : Exit → Act → World → Prop} {rest : List Oper} {n : Nat} {D : List Deferred} {ρ : Env} {w : World}
variable {d ty : Nat} {pos : String} {after : Array Edge} {gd : Option (Nat × Bool)} {C : Value → World → Prop} {x y : Operand}

end
end Go.Gw

set_option maxRecDepth 20000
set_option linter.unusedSimpArgs false
set_option linter.unusedVariables false
namespace Go.Proofs.Ytfljelnfjbbknaa.Lm
open Go.RowKit Go.Gw
end Go.Proofs.Ytfljelnfjbbknaa.Lm

set_option maxRecDepth 20000
set_option linter.unusedSimpArgs false
set_option linter.unusedVariables false
namespace Go.Proofs.Ytfljelnfjbbknaa.Lm
open Go.RowKit Go.Gw
end Go.Proofs.Ytfljelnfjbbknaa.Lm

set_option maxRecDepth 20000
set_option linter.unusedSimpArgs false
set_option linter.unusedVariables false
namespace Go.Proofs.Ytfljelnfjbbknaa.Lm
open Go.RowKit Go.Gw
end Go.Proofs.Ytfljelnfjbbknaa.Lm

set_option maxRecDepth 20000
set_option linter.unusedSimpArgs false
set_option linter.unusedVariables false
namespace Go.Proofs.Ytfljelnfjbbknaa.Nd
open Go.RowKit Go.Gw
set_option maxHeartbeats 1000000 in
theorem hollow_any {va : Value} {l : List Nd} {F : Nat → Prop} {w : World} (hl : Sl Kd.node w F va l) {n : Int} (hl_ok : looseB l = true) (hll : l.length ≤ 1000000) (h0 : 0 ≤ n) (h1 : n ≤ l.length) :
    Calls Try.prog 109 [va, .int .i64 n].toArray w (Pure w fun v _ => v = .bool (hollowB l n)) := by
  have hb0 := Below.refl w.heap.size w
  have hln1 := hl.lenle
  have hlen := hasL_length l
  refine enter Try.func109 rfl rfl (w_seq (w_region (st (s_assign rfl (r_end (n_then (w_seq ?_)))))))
  refine w_seq (w_region (st (s_move rfl (st (s_eq rfl rfl (st (s_move rfl ?_)))))))
  refine r_caseP 12 rfl (fun h1 => ?_) (fun h1 => ?_)
  · refine s_pass rfl rfl (s_pass rfl rfl (s_pass rfl rfl (s_pass rfl rfl (s_pass rfl rfl (s_pass rfl rfl (s_pass rfl rfl ?_))))))
    refine st (s_pick rfl rfl (r_end (n_then (w_condT rfl (w_seq (w_region (st (s_assign rfl ?_))))))))
    refine r_end (n_then (w_ret1 rfl rfl ?_))
    exact ⟨_, rfl, hb0, by rw [hollow_no]; rintro ⟨e1, e2, e3⟩; omega⟩
  refine stg (s_move rfl (stg (s_move rfl (stg (s_sub rfl rfl (by omega) (stg (s_idx sl22 rfl rfl (hl.at0 hb0) (by omega) (by omega) ?_)))))))
  rintro b1 o1 _ ⟨rfl, _⟩ hc1 hF1 hlt1
  have hl_1 := Loc.lt hF1
  refine stg (s_faddr fld101_0 rfl (stg (s_load one3 rfl hc1 (j := 0) rfl (stg (s_eq rfl rfl (st (s_pick rfl rfl (r_end (n_then ?_)))))))))
  refine w_condP rfl (fun h2 => ?_) (fun h2 => ?_)
  · refine w_seq (w_region (st (s_assign rfl (r_end (n_then (w_ret1 rfl rfl ?_))))))
    exact ⟨_, rfl, hb0, by rw [hollow_no]; rintro ⟨e1, e2, e3⟩; omega⟩
  refine w_skip' (n_then (w_seq (w_region (st (s_move rfl (st (s_call fn115 rfl (full_any (hl.at0 hb0) hl_ok hll) ?_)))))))
  rintro v1 w1 ⟨hq1, hS1⟩
  have k1 := grown_of_below hq1 none
  have hz1 := hq1.size
  have hb1 := below_g0 hb0 k1
  have hz2 := hb1.size
  refine st (s_assign rfl (r_end (n_then (w_seq (w_seq (w_region (st (s_move rfl ?_))))))))
  refine st (s_move rfl (st (s_sub rfl rfl (by omega) (st (s_idx sl22 rfl rfl (hl.at0 hb1) (by omega) (by omega) ?_)))))
  rintro b2 o2 _ ⟨rfl, _⟩ hc2 hF2 hlt2
  have hl_2 := Loc.lt hF2
  refine st (s_faddr fld101_1 rfl (st (s_loadN (us := [.int .i64 ((ix l (n - 1)).k0), .int .i64 ((ix l (n - 1)).k1), .int .i64 ((ix l (n - 1)).k2), .int .i64 ((ix l (n - 1)).k3)]) row99 rfl hc2 (j := 1) rfl rfl (st (s_move rfl (r_end (n_then (w_block ?_))))))))
  refine w_loop (α := Int) (fun (k : Int) => [(0, va), (5, v1), (28, .agg [.int .i64 ((ix l (n - 1)).k0), .int .i64 ((ix l (n - 1)).k1), .int .i64 ((ix l (n - 1)).k2), .int .i64 ((ix l (n - 1)).k3)].toArray), (29, .int .i64 k)]) (fun (k : Int) W => Below w.heap.size w W ∧ (0 ≤ k ∧ k ≤ 4) ∧ (∀ k' : Int, 0 ≤ k' → k' < k → holK l n k') ∧ (Sl Kd.bool W (fun _ => False) v1 (hasL l))) (fun (k : Int) => (4 - k).toNat) (0) ⟨hb1, by omega, fun k' _ _ => by omega, hS1⟩ (by exact ⟨rfl, rfl, rfl, rfl, trivial⟩) ?_
  rintro k w2 ⟨hb2, hk, ha, hS2⟩
  have hz3 := hb2.size
  refine w_seq (w_region (st (s_lt rfl rfl (r_end (n_then (w_seq ?_))))))
  refine w_condP rfl (fun h3 => ?_) (fun h3 => ?_)
  rotate_left
  · refine w_exit' (n_then_exit (n_then_exit (n_block_exit (n_then (w_seq (w_region ?_))))))
    refine st (s_assign rfl (r_end (n_then (w_ret1 rfl rfl ?_))))
    exact ⟨_, rfl, hb2, by rw [(hollowB_iff l n).2]; exact ⟨by omega, by omega, fun k k0 k1 => ha k k0 (by omega)⟩⟩
  refine w_skip' (n_then (w_seq (w_block (w_seq (w_region (st (s_move rfl ?_)))))))
  refine st (s_iarr4 arr99 one3 rfl rfl (by omega) (by omega) (st (s_assign rfl (st (s_assign rfl (r_end (n_then (w_seq (w_seq ?_)))))))))
  refine w_region (st (s_move rfl (st (s_eq rfl rfl (r_end (n_then ?_))))))
  refine w_condP rfl (fun h4 => ?_) (fun h4 => ?_)
  · refine w_exit' (n_then_exit (n_block_exit (n_then (w_region (st (s_add rfl rfl (by omega) (st (s_move rfl ?_))))))))
    refine r_end ?_
    exact n_round ((k + 1)) ⟨hb2, by omega, fun k' k0 k1 => if e : k' = k then by rw [e]; intro e2; exact absurd h4 e2 else ha k' k0 (by omega), hS2⟩ (by omega) (by exact ⟨rfl, rfl, rfl, rfl, trivial⟩)
  have hkid := kid_in hl_ok (i := n - 1) (k := k) (by omega) (by omega) hk.1 (by omega) (by omega) (by simpa [Nd.kid] using h4)
  unfold Nd.kid at hkid
  refine w_skip' (n_then (w_seq (w_region (st (s_move rfl (st (s_move rfl (st (s_sub rfl rfl (by omega) ?_)))))))))
  refine st (s_idx sl22 rfl rfl (hl.at0 hb2) (by omega) (by omega) ?_)
  rintro b3 o3 _ ⟨rfl, _⟩ hc3 hF3 hlt3
  have hl_3 := Loc.lt hF3
  refine st (s_faddr fld101_1 rfl (st (s_loadN (us := [.int .i64 ((ix l ((sel4 ((ix l (n - 1)).k0) ((ix l (n - 1)).k1) ((ix l (n - 1)).k2) ((ix l (n - 1)).k3) k) - 1)).k0), .int .i64 ((ix l ((sel4 ((ix l (n - 1)).k0) ((ix l (n - 1)).k1) ((ix l (n - 1)).k2) ((ix l (n - 1)).k3) k) - 1)).k1), .int .i64 ((ix l ((sel4 ((ix l (n - 1)).k0) ((ix l (n - 1)).k1) ((ix l (n - 1)).k2) ((ix l (n - 1)).k3) k) - 1)).k2), .int .i64 ((ix l ((sel4 ((ix l (n - 1)).k0) ((ix l (n - 1)).k1) ((ix l (n - 1)).k2) ((ix l (n - 1)).k3) k) - 1)).k3)]) row99 rfl hc3 (j := 1) rfl rfl (st (s_move rfl (r_end (n_then (w_block ?_))))))))
  refine w_loop (α := Int) (fun (j : Int) => [(0, va), (5, v1), (6, .int .i64 k), (7, .int .i64 (sel4 ((ix l (n - 1)).k0) ((ix l (n - 1)).k1) ((ix l (n - 1)).k2) ((ix l (n - 1)).k3) k)), (28, .agg [.int .i64 ((ix l (n - 1)).k0), .int .i64 ((ix l (n - 1)).k1), .int .i64 ((ix l (n - 1)).k2), .int .i64 ((ix l (n - 1)).k3)].toArray), (29, .int .i64 k), (40, .agg [.int .i64 ((ix l ((sel4 ((ix l (n - 1)).k0) ((ix l (n - 1)).k1) ((ix l (n - 1)).k2) ((ix l (n - 1)).k3) k) - 1)).k0), .int .i64 ((ix l ((sel4 ((ix l (n - 1)).k0) ((ix l (n - 1)).k1) ((ix l (n - 1)).k2) ((ix l (n - 1)).k3) k) - 1)).k1), .int .i64 ((ix l ((sel4 ((ix l (n - 1)).k0) ((ix l (n - 1)).k1) ((ix l (n - 1)).k2) ((ix l (n - 1)).k3) k) - 1)).k2), .int .i64 ((ix l ((sel4 ((ix l (n - 1)).k0) ((ix l (n - 1)).k1) ((ix l (n - 1)).k2) ((ix l (n - 1)).k3) k) - 1)).k3)].toArray), (41, .int .i64 j)]) (fun (j : Int) W => Below w.heap.size w W ∧ (0 ≤ j ∧ j ≤ 4) ∧ (∀ j' : Int, 0 ≤ j' → j' < j → j' ≠ 3 - k → hasK (ix l ((ix l (n - 1)).kid k - 1)) (hasL l) ((ix l ((ix l (n - 1)).kid k - 1)).kid j') = false) ∧ (Sl Kd.bool W (fun _ => False) v1 (hasL l))) (fun (j : Int) => (4 - j).toNat) (0) ⟨hb2, by omega, fun j' _ _ _ => by omega, hS2⟩ (by exact ⟨rfl, rfl, rfl, rfl, rfl, rfl, rfl, rfl, trivial⟩) ?_
  rintro j w3 ⟨hb3, hj, hb, hS3⟩
  have hz4 := hb3.size
  refine w_seq (w_region (st (s_lt rfl rfl (r_end (n_then (w_seq ?_))))))
  refine w_condP rfl (fun h5 => ?_) (fun h5 => ?_)
  rotate_left
  · refine w_exit' (n_then_exit (n_then_exit (n_block_exit (n_block (n_then (w_region ?_))))))
    refine st (s_add rfl rfl (by omega) (st (s_move rfl (r_end ?_))))
    exact n_round ((k + 1)) ⟨hb3, by omega, fun k' k0 k1 => if e : k' = k then by rw [e]; intro _ j j0 j1 j2; exact hb j j0 (by omega) j2 else ha k' k0 (by omega), hS3⟩ (by omega) (by exact ⟨rfl, rfl, rfl, rfl, trivial⟩)
  refine w_skip' (n_then (w_seq (w_block (w_seq (w_region (st (s_move rfl ?_)))))))
  refine st (s_iarr4 arr99 one3 rfl rfl (by omega) (by omega) (st (s_assign rfl (st (s_assign rfl (r_end (n_then (w_seq (w_region ?_)))))))))
  refine st (s_move rfl (st (s_move rfl (st (s_sub rfl rfl (by omega) (st (s_ne rfl rfl (st (s_move rfl ?_)))))))))
  refine r_caseP 49 rfl (fun h6 => ?_) (fun h6 => ?_)
  rotate_left
  · refine s_pass rfl rfl (s_pass rfl rfl (st (s_pick rfl rfl (st (s_move rfl (s_pass rfl rfl (s_pass rfl rfl (s_pass rfl rfl ?_))))))))
    refine s_pass rfl rfl (s_pass rfl rfl (s_pass rfl rfl (s_pass rfl rfl (s_pass rfl rfl (s_passU rfl rfl (s_passU rfl rfl ?_))))))
    refine s_passU rfl rfl (s_passU rfl rfl (s_pass rfl rfl (st (s_pick rfl rfl (r_end (n_then (w_condF rfl ?_)))))))
    refine w_skip' (n_block (n_then (w_region (st (s_add rfl rfl (by omega) (st (s_move rfl (r_end ?_))))))))
    exact n_round ((j + 1)) ⟨hb3, by omega, fun j' j0 j1 j2 => if e : j' = j then by rw [e] at j2 ⊢; first | (exfalso; omega) | exact hasK_no (.inl (by unfold Nd.kid; omega)) | exact hasK_no (.inr ⟨by unfold Nd.kid; omega, by unfold Nd.kid; assumption⟩) else hb j' j0 (by omega) j2, hS3⟩ (by omega) (by exact ⟨rfl, rfl, rfl, rfl, rfl, rfl, rfl, rfl, trivial⟩)
  refine stg (s_move rfl (stg (s_ne rfl rfl (st (s_pick rfl rfl (st (s_move rfl ?_)))))))
  refine r_caseP 53 rfl (fun h7 => ?_) (fun h7 => ?_)
  rotate_left
  · refine s_pass rfl rfl (s_pass rfl rfl (s_pass rfl rfl (s_pass rfl rfl (s_pass rfl rfl (s_pass rfl rfl (s_pass rfl rfl ?_))))))
    refine s_pass rfl rfl (s_passU rfl rfl (s_passU rfl rfl (s_passU rfl rfl (s_passU rfl rfl (s_pass rfl rfl (st (s_pick rfl rfl ?_)))))))
    refine r_end (n_then (w_condF rfl (w_skip' (n_block (n_then (w_region ?_))))))
    refine st (s_add rfl rfl (by omega) (st (s_move rfl (r_end ?_))))
    exact n_round ((j + 1)) ⟨hb3, by omega, fun j' j0 j1 j2 => if e : j' = j then by rw [e] at j2 ⊢; first | (exfalso; omega) | exact hasK_no (.inl (by unfold Nd.kid; omega)) | exact hasK_no (.inr ⟨by unfold Nd.kid; omega, by unfold Nd.kid; assumption⟩) else hb j' j0 (by omega) j2, hS3⟩ (by omega) (by exact ⟨rfl, rfl, rfl, rfl, rfl, rfl, rfl, rfl, trivial⟩)
  refine stg (s_move rfl (stg (s_move rfl (stg (s_sub rfl rfl (by omega) (stg (s_idx sl22 rfl rfl (hl.at0 hb3) (by omega) (by omega) ?_)))))))
  rintro b4 o4 _ ⟨rfl, _⟩ hc4 hF4 hlt4
  have hl_4 := Loc.lt hF4
  refine stg (s_faddr fld101_0 rfl (stg (s_load one3 rfl hc4 (j := 0) rfl (stg (s_eq rfl rfl (stg (s_move rfl ?_)))))))
  refine r_caseP 61 rfl (fun h8 => ?_) (fun h8 => ?_)
  · refine s_pass rfl rfl (s_pass rfl rfl (s_pass rfl rfl (s_pass rfl rfl (stg (s_pick rfl rfl (st (s_pick rfl rfl (r_end ?_))))))))
    refine n_then (w_condT rfl (w_seq (w_region (st (s_assign rfl (r_end (n_then ?_)))))))
    refine w_ret1 rfl rfl ?_
    refine ⟨_, rfl, hb3, ?_⟩
    rw [hollow_no]
    rintro ⟨e1, e2, e3⟩
    have e4 := e3 k (by omega) (by omega) (by unfold Nd.kid; omega) j (by omega) (by omega) (by omega)
    rw [hasK_yes (by unfold Nd.kid; omega) (by unfold Nd.kid; first | exact .inl (by omega) | exact .inr (by assumption))] at e4
    cases e4
  have hkid2 := kid_in hl_ok (i := (sel4 (ix l (n - 1)).k0 (ix l (n - 1)).k1 (ix l (n - 1)).k2 (ix l (n - 1)).k3 k) - 1) (k := j) (by omega) (by omega) hj.1 (by omega) h8
  unfold Nd.kid at hkid2
  refine stg (s_move rfl (stg (s_move rfl (stg (s_idx sl68 rfl rfl hS3 (by omega) (by omega) ?_)))))
  rintro b5 o5 _ ⟨rfl, _⟩ hc5 hF5 hlt5
  refine stg (s_load one4 rfl hc5 (j := 0) rfl (stg (s_pick rfl rfl (st (s_pick rfl rfl (r_end (n_then ?_)))))))
  refine w_cond rfl (fun h9 => ?_) (fun h9 => ?_)
  · refine w_seq (w_region (st (s_assign rfl (r_end (n_then (w_ret1 rfl rfl ?_))))))
    refine ⟨_, rfl, hb3, ?_⟩
    rw [hollow_no]
    rintro ⟨e1, e2, e3⟩
    have e4 := e3 k (by omega) (by omega) (by unfold Nd.kid; omega) j (by omega) (by omega) (by omega)
    rw [hasK_yes (by unfold Nd.kid; omega) (by unfold Nd.kid; first | exact .inl (by omega) | exact .inr (by assumption))] at e4
    cases e4
  refine w_skip' (n_block (n_then (w_region (st (s_add rfl rfl (by omega) (st (s_move rfl (r_end ?_))))))))
  exact n_round ((j + 1)) ⟨hb3, by omega, fun j' j0 j1 j2 => if e : j' = j then by rw [e] at j2 ⊢; first | (exfalso; omega) | exact hasK_no (.inl (by unfold Nd.kid; omega)) | exact hasK_no (.inr ⟨by unfold Nd.kid; omega, by unfold Nd.kid; assumption⟩) else hb j' j0 (by omega) j2, hS3⟩ (by omega) (by exact ⟨rfl, rfl, rfl, rfl, rfl, rfl, rfl, rfl, trivial⟩)
end Go.Proofs.Ytfljelnfjbbknaa.Nd

set_option maxRecDepth 20000
set_option linter.unusedSimpArgs false
set_option linter.unusedVariables false
namespace Go.Proofs.Ytfljelnfjbbknaa.Nd
open Go.RowKit Go.Gw
set_option maxHeartbeats 1000000 in
theorem rnodes_any {va vb : Value} {l m : List Nd} {F : Nat → Prop} {w : World} (hl : Sl Kd.node w F va l) (hm : Sl Kd.node w F vb m) :
    Calls Try.prog 67 [va, vb].toArray w (Pure w fun v _ => v = .bool (Nd.eqv l m)) := by
  have hb0 := Below.refl w.heap.size w
  have hln1 := hl.lenle
  have hln2 := hm.lenle
  refine enter Try.func67 rfl rfl (w_seq (w_region (st (s_assign rfl (r_end (n_then (w_seq ?_)))))))
  refine w_seq (w_region (st (s_move rfl (st (s_len sl22 rfl (hl.at0 hb0) (st (s_move rfl (st (s_len sl22 rfl (hm.at0 hb0) (st (s_ne rfl rfl ?_)))))))))))
  refine r_end (n_then ?_)
  refine w_condP rfl (fun h1 => ?_) (fun h1 => ?_)
  · refine w_seq (w_region (st (s_assign rfl (r_end (n_then (w_ret1 rfl rfl ?_))))))
    exact ⟨_, rfl, hb0, by rw [same_len (by omega)]⟩
  refine w_skip' (n_then (w_seq (w_seq (w_region (st (s_assign rfl (r_end ?_)))))))
  refine n_then (w_block (w_loop (α := Int) (fun (i : Int) => [(0, va), (1, vb), (5, .int .i64 i)]) (fun (i : Int) W => Below w.heap.size w W ∧ (0 ≤ i ∧ i ≤ l.length) ∧ (∀ j : Int, 0 ≤ j → j < i → ix l j = ix m j)) (fun (i : Int) => (l.length - i).toNat) (0) ⟨hb0, by omega, fun j _ _ => by omega⟩ (by exact ⟨rfl, rfl, rfl, trivial⟩) ?_))
  rintro i w1 ⟨hb1, hi, ha⟩
  have hz1 := hb1.size
  refine w_seq (w_seq (w_region (st (s_move rfl (st (s_move rfl (st (s_len sl22 rfl (hl.at0 hb1) (st (s_lt rfl rfl ?_))))))))))
  refine r_end (n_then ?_)
  refine w_condP rfl (fun h2 => ?_) (fun h2 => ?_)
  rotate_left
  · refine w_exit' (n_then_exit (n_then_exit (n_block_exit (n_then (w_seq (w_region ?_))))))
    refine st (s_assign rfl (r_end (n_then (w_ret1 rfl rfl ?_))))
    exact ⟨_, rfl, hb1, by rw [same_all (by omega)]; intro j j0 j1; exact ha j j0 (by omega)⟩
  refine w_skip' (n_then (w_seq (w_block (w_seq ?_))))
  obtain ⟨b1, o1, _, hat1, ⟨rfl, _⟩, hc1, hF1, hlt1⟩ := (hl.at0 hb1).elem i (by omega) (by omega)
  have hl_1 := Loc.lt hF1
  obtain ⟨b2, o2, _, hat2, ⟨rfl, _⟩, hc2, hF2, hlt2⟩ := (hm.at0 hb1).elem i (by omega) (by omega)
  have hl_2 := Loc.lt hF2
  refine w_draw 9 (fun a b => a.grownBy b none) [(some 17, Is <| va), (some 18, Is <| .int .i64 i), (some 19, Is <| .pointer (some ⟨b1, o1, none⟩)), (some 20, Is <| .agg [.int .i64 ((ix l i).lv), .int .i64 ((ix l i).k0), .int .i64 ((ix l i).k1), .int .i64 ((ix l i).k2), .int .i64 ((ix l i).k3)].toArray), (some 21, Is <| vb), (some 22, Is <| .int .i64 i), (some 23, Is <| .pointer (some ⟨b2, o2, none⟩)), (some 24, Is <| .agg [.int .i64 ((ix m i).lv), .int .i64 ((ix m i).k0), .int .i64 ((ix m i).k1), .int .i64 ((ix m i).k2), .int .i64 ((ix m i).k3)].toArray), (some 25, Is <| .bool (decide ((ix l i) ≠ (ix m i))))] [[], [], [0, 1], [2], [], [], [4, 5], [6], [3, 7]] [(0, va), (1, vb), (5, .int .i64 i)] (by exact ⟨rfl, rfl, rfl, trivial⟩) (by kernel_rfl) (by kernel_rfl) grown_none_refl (fun _ _ _ => grown_none_trans) ⟨kv, kv, kv, kv, kv, kv, kv, kv, kv, trivial⟩ ?_
  intro w2 k1 hs1
  have hb2 := below_g0 hb1 k1
  refine ⟨⟨?_, ?_, ?_, ?_, ?_, ?_, ?_, ?_, ?_, trivial⟩, ?_⟩
  · intro w3 k2
    refine op1 (s_move rfl ?_)
    exact ⟨rfl, grown_none_refl _⟩
  · intro w4 k3
    refine op1 (s_move rfl ?_)
    exact ⟨rfl, grown_none_refl _⟩
  · intro w5 k4
    intro v_ hv_; subst v_
    rintro _ rfl
    refine op1 (s_idxat sl22 rfl rfl hat1 ?_)
    exact ⟨rfl, grown_none_refl _⟩
  · intro w6 k5
    rintro _ rfl
    refine op1 (s_loadW row101 rfl (range_g0 (range_g0 hc1 k1) k5) rfl ?_)
    exact ⟨rfl, grown_none_refl _⟩
  · intro w7 k6
    refine op1 (s_move rfl ?_)
    exact ⟨rfl, grown_none_refl _⟩
  · intro w8 k7
    refine op1 (s_move rfl ?_)
    exact ⟨rfl, grown_none_refl _⟩
  · intro w9 k8
    intro v_ hv_; subst v_
    rintro _ rfl
    refine op1 (s_idxat sl22 rfl rfl hat2 ?_)
    exact ⟨rfl, grown_none_refl _⟩
  · intro w10 k9
    rintro _ rfl
    refine op1 (s_loadW row101 rfl (range_g0 (range_g0 hc2 k1) k9) rfl ?_)
    exact ⟨rfl, grown_none_refl _⟩
  · intro w11 k10
    rintro _ rfl _ rfl
    refine op1 (s_nenode eqNode rfl rfl ?_)
    exact ⟨rfl, grown_none_refl _⟩
  intro w12 k11
  have hb12 := below_g0 hb2 k11
  intro v_ hv_; subst v_
  rintro _ rfl _ rfl _ rfl
  intro v_ hv_; subst v_
  rintro _ rfl _ rfl _ rfl _ rfl
  refine r_end (n_then ?_)
  refine w_condP rfl (fun h3 => ?_) (fun h3 => ?_)
  · refine w_seq (w_region (st (s_assign rfl (r_end (n_then (w_ret1 rfl rfl ?_))))))
    exact ⟨_, rfl, hb12, by rw [same_at i (by assumption)]⟩
  refine w_skip' (n_block (n_then (w_region (st (s_move rfl (st (s_add rfl rfl (by omega) (st (s_assign rfl ?_)))))))))
  refine r_end ?_
  exact n_round ((i + 1)) ⟨hb12, by omega, fun j j0 j1 => if e : j = i then by rw [e]; exact Decidable.not_not.1 h3 else ha j j0 (by omega)⟩ (by omega) (by exact ⟨rfl, rfl, rfl, trivial⟩)

set_option maxHeartbeats 1000000 in
theorem rsame_any {va vb : Value} {l m : List Nd} {F : Nat → Prop} {w : World} (hl : Sl Kd.node w F va l) (hm : Sl Kd.node w F vb m) :
    Calls Try.prog 32 [.agg [va].toArray, .agg [vb].toArray].toArray w (Pure w fun v _ => v = .bool (Nd.eqv l m)) := by
  have hb0 := Below.refl w.heap.size w
  refine enter Try.func32 rfl rfl (w_seq (w_region (st (s_box rfl ?_))))
  intro g1 w1 hg1 hB1 k1 hs1
  change Blk w1 g1 25 [va].toArray at hB1
  have hb1 := below_g0 hb0 k1
  refine st (s_box rfl ?_)
  intro g2 w2 hg2 hB2 k2 hs2
  change Blk w2 g2 25 [vb].toArray at hB2
  have hb2 := below_g0 hb1 k2
  refine st (s_assign rfl (r_end (n_then (w_seq (w_region (st (s_faddr fld25_0 rfl (st (s_load one22 rfl (hB1.g0 k2).range (j := 0) rfl ?_)))))))))
  refine st (s_faddr fld25_0 rfl (st (s_load one22 rfl hB2.range (j := 0) rfl (st (s_call fn67 rfl (rnodes_any (hl.at0 hb2).none (hm.at0 hb2).none) ?_)))))
  rintro _ w3 ⟨hq1, rfl⟩
  have k3 := grown_of_below hq1 none
  have hz1 := hq1.size
  have hb3 := below_g0 hb2 k3
  have hz2 := hb3.size
  refine st (s_assign rfl (r_end (n_then (w_ret1 rfl rfl ?_))))
  exact ⟨_, rfl, hb3, rfl⟩
end Go.Proofs.Ytfljelnfjbbknaa.Nd

set_option maxRecDepth 20000
set_option linter.unusedSimpArgs false
set_option linter.unusedVariables false
namespace Go.Proofs.Ytfljelnfjbbknaa.Nd
open Go.RowKit Go.Gw
set_option maxHeartbeats 1000000 in
theorem empties_any {va : Value} {l : List Nd} {F : Nat → Prop} {w : World} (hl : Sl Kd.node w F va l) (hl_ok : looseB l = true) (hll : l.length ≤ 1000000) :
    Calls Try.prog 40 [va].toArray w (Pure w fun v w' => Sl Kd.bool w' (fun _ => False) v (emptL l)) := by
  have hb0 := Below.refl w.heap.size w
  have hln1 := hl.lenle
  refine enter Try.func40 rfl rfl (w_seq (w_region (st (s_assign rfl (r_end (n_then (w_seq ?_)))))))
  refine w_region (st (s_move rfl (st (s_len sl22 rfl (hl.at0 hb0) (st (s_add rfl rfl (by omega) (st (s_make (K := Kd.bool) (base := w.heap.size) (F := (fun _ => False)) sl68 rfl (by omega) (by omega) (by omega) (fun _ _ => ⟨rfl, trivial⟩) (by omega) (fun _ h => h.elim) ?_))))))))
  intro v1 w1 hO1 k1
  have hb1 := below_g0 hb0 k1
  have hz1 := hb1.size
  refine st (s_assign rfl (r_end (n_then (w_seq (w_region (st (s_move rfl (st (s_oidx sl68 rfl rfl hO1 (by omega) (by first | (rw [List.length_replicate]; omega) | (rw [partE_length l i hi.1 (by omega)]; omega)) ?_)))))))))
  intro g1 hg1 hl_1 hl_2
  refine st0 (s_ostore one4 rfl rfl rfl rfl hO1 hg1 (by omega) (by first | (rw [List.length_replicate]; omega) | (rw [partE_length l i hi.1 (by omega)]; omega)) ⟨rfl, trivial⟩ ?_)
  intro w2 hO2 k2 hs1
  have hb2 := below_g hb1 k2 (by first | omega | (have h9 := (hb1).size; omega))
  refine r_end (n_then (w_seq (w_seq (w_region (st (s_assign rfl (r_end ?_)))))))
  refine n_then (w_block (w_loop (α := Int) (fun (i : Int) => [(0, va), (2, .slice none 0 0), (3, v1), (4, .int .i64 i)]) (fun (i : Int) W => Below w.heap.size w W ∧ (0 ≤ i ∧ i ≤ l.length) ∧ (Gw.Own Kd.bool 4 w.heap.size W (fun _ => False) v1 (partE l i))) (fun (i : Int) => (l.length - i).toNat) (0) ⟨hb2, by omega, by rw [← partE_zero]; exact hO2⟩ (by exact ⟨rfl, rfl, rfl, rfl, trivial⟩) ?_))
  rintro i w3 ⟨hb3, hi, hO⟩
  have hz2 := hb3.size
  refine w_seq (w_seq (w_region (st (s_move rfl (st (s_move rfl (st (s_len sl22 rfl (hl.at0 hb3) (st (s_lt rfl rfl ?_))))))))))
  refine r_end (n_then ?_)
  refine w_condP rfl (fun h1 => ?_) (fun h1 => ?_)
  rotate_left
  · refine w_exit' (n_then_exit (n_then_exit (n_block_exit (n_then (w_seq (w_region ?_))))))
    refine st (s_move rfl (st (s_assign rfl (r_end (n_then (w_ret1 rfl rfl ?_))))))
    have e : i = (l.length : Int) := by omega
    refine ⟨_, rfl, hb3, ?_⟩
    rw [← partE_end l, ← e]
    exact hO.sl
  have hlt := h1
  refine w_skip' (n_then (w_seq (w_block (w_seq (w_region (st (s_assign rfl ?_)))))))
  refine r_end (n_then (w_seq (w_seq (w_region (st (s_assign rfl (r_end ?_)))))))
  refine n_then (w_block (w_loop (α := Int × Bool) (fun ((k, em) : Int × Bool) => [(0, va), (2, .slice none 0 0), (3, v1), (4, .int .i64 i), (5, .bool em), (6, .int .i64 k)]) (fun ((k, em) : Int × Bool) W => Below w.heap.size w W ∧ (0 ≤ k ∧ k ≤ 4) ∧ (em = emptK (ix l i) (partE l i) k) ∧ (Gw.Own Kd.bool 4 w.heap.size W (fun _ => False) v1 (partE l i))) (fun ((k, em) : Int × Bool) => (4 - k).toNat) ((0), (true)) ⟨hb3, by omega, by rw [emptK_zero], hO⟩ (by exact ⟨rfl, rfl, rfl, rfl, rfl, rfl, trivial⟩) ?_))
  rintro ⟨k, em⟩ w4 ⟨hb4, hk, he, hO2⟩
  dsimp only at *
  have hz3 := hb4.size
  refine w_seq (w_seq (w_region (st (s_move rfl (st (s_lt rfl rfl (r_end (n_then ?_))))))))
  refine w_condP rfl (fun h2 => ?_) (fun h2 => ?_)
  rotate_left
  · refine w_exit' (n_then_exit (n_then_exit (n_block_exit (n_then (w_region (st (s_move rfl ?_)))))))
    refine st (s_move rfl (st (s_add rfl rfl (by omega) (st (s_move rfl (st (s_oidx sl68 rfl rfl hO2 (by omega) (by first | (rw [List.length_replicate]; omega) | (rw [partE_length l i hi.1 (by omega)]; omega)) ?_)))))))
    intro g2 hg2 hl_5 hl_6
    refine st0 (s_ostore one4 rfl rfl rfl rfl hO2 hg2 (by omega) (by first | (rw [List.length_replicate]; omega) | (rw [partE_length l i hi.1 (by omega)]; omega)) ⟨rfl, trivial⟩ ?_)
    intro w5 hO3 k3 hs2
    have hb5 := below_g hb4 k3 (by first | omega | (have h9 := (hb4).size; omega))
    refine r_end (n_block (n_then (w_region (st (s_move rfl (st (s_add rfl rfl (by omega) (st (s_assign rfl ?_)))))))))
    refine r_end ?_
    exact n_round ((i + 1)) ⟨hb5, by omega, by rw [← partE_set l i hi.1 hlt (okAt_kids hl_ok hi.1 hlt) (lv_in hl_ok hi.1 hlt).1, show (4 : Int) = k by omega, ← he]; exact hO3⟩ (by omega) (by exact ⟨rfl, rfl, rfl, rfl, trivial⟩)
  refine w_skip' (n_then (w_seq (w_block (w_seq (w_region (st (s_move rfl ?_)))))))
  refine st (s_move rfl (st (s_move rfl (st (s_idx sl22 rfl rfl (hl.at0 hb4) (by omega) (by omega) ?_)))))
  rintro b1 o1 _ ⟨rfl, _⟩ hc1 hF1 hlt1
  have hl_3 := Loc.lt hF1
  refine st (s_faddr fld101_1 rfl (st (s_iaddr arr99 rfl rfl (by omega) (by omega) (st (s_load4 one3 rfl hc1 (j := 1) rfl rfl (by omega) (by omega) (st (s_assign rfl (r_end (n_then (w_region ?_))))))))))
  refine st (s_move rfl (st (s_move rfl ?_)))
  refine r_case 32 rfl (fun h3 => ?_) (fun h3 => ?_)
  rotate_left
  · refine s_pass rfl rfl (s_pass rfl rfl (s_pass rfl rfl (s_passU rfl rfl (s_passU rfl rfl (s_passU rfl rfl (s_passU rfl rfl ?_))))))
    refine s_passU rfl rfl (s_passU rfl rfl (s_passU rfl rfl (s_passU rfl rfl (s_passU rfl rfl (s_passU rfl rfl (s_passU rfl rfl ?_))))))
    refine s_passU rfl rfl (s_pass rfl rfl (st (s_pick rfl rfl (st (s_assign rfl (r_end (n_block (n_then ?_))))))))
    refine w_region (st (s_move rfl (st (s_add rfl rfl (by omega) (st (s_assign rfl (r_end ?_)))))))
    exact n_round (((k + 1)), (false)) ⟨hb4, by omega, by rw [emptK_step _ _ _ hk.1 (by omega), ← he]; simp [Nd.kid, h1, h2, h3], hO2⟩ (by omega) (by exact ⟨rfl, rfl, rfl, rfl, rfl, rfl, trivial⟩)
  refine stg (s_move rfl (stg (s_eq rfl rfl (stg (s_move rfl ?_)))))
  refine r_caseP 35 rfl (fun h4 => ?_) (fun h4 => ?_)
  · refine s_pass rfl rfl (s_pass rfl rfl (s_pass rfl rfl (s_pass rfl rfl (s_pass rfl rfl (s_pass rfl rfl (s_pass rfl rfl ?_))))))
    refine s_passU rfl rfl (s_passU rfl rfl (s_passU rfl rfl (s_passU rfl rfl (s_pass rfl rfl (stg (s_pick rfl rfl (st (s_pick rfl rfl ?_))))))))
    refine st (s_assign rfl (r_end (n_block (n_then (w_region (st (s_move rfl (st (s_add rfl rfl (by omega) ?_)))))))))
    refine st (s_assign rfl (r_end ?_))
    exact n_round (((k + 1)), (true)) ⟨hb4, by omega, by rw [emptK_step _ _ _ hk.1 (by omega), ← he]; simp [Nd.kid, h1, h2, h3, h4], hO2⟩ (by omega) (by exact ⟨rfl, rfl, rfl, rfl, rfl, rfl, trivial⟩)
  refine stg (s_move rfl (stg (s_move rfl (stg (s_idx sl22 rfl rfl (hl.at0 hb4) (by omega) (by omega) ?_)))))
  rintro b2 o2 _ ⟨rfl, _⟩ hc2 hF2 hlt2
  have hl_4 := Loc.lt hF2
  refine stg (s_faddr fld101_0 rfl (stg (s_load one3 rfl hc2 (j := 0) rfl (stg (s_gt rfl rfl (stg (s_move rfl ?_)))))))
  refine r_caseP 42 rfl (fun h5 => ?_) (fun h5 => ?_)
  rotate_left
  · refine s_pass rfl rfl (s_pass rfl rfl (s_pass rfl rfl (s_pass rfl rfl (stg (s_pick rfl rfl (stg (s_pick rfl rfl (st (s_pick rfl rfl ?_)))))))))
    refine st (s_assign rfl (r_end (n_block (n_then (w_region (st (s_move rfl (st (s_add rfl rfl (by omega) ?_)))))))))
    refine st (s_assign rfl (r_end ?_))
    exact n_round (((k + 1)), (false)) ⟨hb4, by omega, by rw [emptK_step _ _ _ hk.1 (by omega), ← he]; simp [Nd.kid, h2, h3, h4, h5], hO2⟩ (by omega) (by exact ⟨rfl, rfl, rfl, rfl, rfl, rfl, trivial⟩)
  have hkid := kid_in hl_ok (i := i) (k := k) hi.1 hlt hk.1 (by omega) (by omega) (by simpa [Nd.kid] using h4)
  unfold Nd.kid at hkid
  have hpl := partE_length l i hi.1 (by omega)
  refine stg (s_move rfl (stg (s_move rfl (stg (s_idx sl68 rfl rfl hO2.sl (by omega) (by omega) ?_)))))
  rintro b3 o3 _ ⟨rfl, _⟩ hc3 hF3 hlt3
  refine stg (s_load one4 rfl hc3 (j := 0) rfl (stg (s_pick rfl rfl (stg (s_pick rfl rfl (st (s_pick rfl rfl (st (s_assign rfl (r_end (n_block ?_)))))))))))
  refine n_then (w_region (st (s_move rfl (st (s_add rfl rfl (by omega) (st (s_assign rfl (r_end ?_))))))))
  exact n_round (((k + 1)), ((ix (partE l i) (sel4 ((ix l i).k0) ((ix l i).k1) ((ix l i).k2) ((ix l i).k3) k)))) ⟨hb4, by omega, by rw [emptK_step _ _ _ hk.1 (by omega), ← he]; simp [Nd.kid, h2, h3, h4, h5], hO2⟩ (by omega) (by exact ⟨rfl, rfl, rfl, rfl, rfl, rfl, trivial⟩)

set_option maxHeartbeats 1000000 in
theorem rempty_any {va : Value} {l : List Nd} {F : Nat → Prop} {w : World} (hl : Sl Kd.node w F va l) {n : Int} (hl_ok : looseB l = true) (hll : l.length ≤ 1000000) (h0 : 0 ≤ n) (h1 : n ≤ l.length) :
    Calls Try.prog 72 [va, .int .i64 n].toArray w (Pure w fun v _ => v = .bool (!(ix (hasL l) n))) := by
  have hb0 := Below.refl w.heap.size w
  have hln1 := hl.lenle
  have hlen := emptL_length l
  refine enter Try.func72 rfl rfl (w_seq (w_region (st (s_assign rfl (r_end (n_then (w_seq ?_)))))))
  refine w_region (st (s_move rfl (st (s_call fn40 rfl (empties_any (hl.at0 hb0) hl_ok hll) ?_))))
  rintro v1 w1 ⟨hq1, hS1⟩
  have k1 := grown_of_below hq1 none
  have hz1 := hq1.size
  have hb1 := below_g0 hb0 k1
  have hz2 := hb1.size
  refine st (s_move rfl (st (s_idx sl68 rfl rfl hS1 (by omega) (by omega) ?_)))
  rintro b1 o1 _ ⟨rfl, _⟩ hc1 hF1 hlt1
  refine st (s_load one4 rfl hc1 (j := 0) rfl (st (s_assign rfl (r_end (n_then (w_ret1 rfl rfl ?_))))))
  exact ⟨_, rfl, hb1, by rw [emptL_at l n h0 h1]⟩

set_option maxHeartbeats 1000000 in
theorem rhollow_any {va : Value} {l : List Nd} {F : Nat → Prop} {w : World} (hl : Sl Kd.node w F va l) {n : Int} (hl_ok : looseB l = true) (hll : l.length ≤ 1000000) (h0 : 0 ≤ n) (h1 : n ≤ l.length) :
    Calls Try.prog 68 [va, .int .i64 n].toArray w (Pure w fun v _ => v = .bool (hollowB l n)) := by
  have hb0 := Below.refl w.heap.size w
  have hln1 := hl.lenle
  have hlen := emptL_length l
  refine enter Try.func68 rfl rfl (w_seq (w_region (st (s_assign rfl (r_end (n_then (w_seq ?_)))))))
  refine w_seq (w_region (st (s_move rfl (st (s_eq rfl rfl (st (s_move rfl ?_)))))))
  refine r_caseP 12 rfl (fun h1 => ?_) (fun h1 => ?_)
  · refine s_pass rfl rfl (s_pass rfl rfl (s_pass rfl rfl (s_pass rfl rfl (s_pass rfl rfl (s_pass rfl rfl (s_pass rfl rfl ?_))))))
    refine st (s_pick rfl rfl (r_end (n_then (w_condT rfl (w_seq (w_region (st (s_assign rfl ?_))))))))
    refine r_end (n_then (w_ret1 rfl rfl ?_))
    exact ⟨_, rfl, hb0, by rw [hollow_no]; rintro ⟨e1, e2, e3⟩; omega⟩
  have hlv := (lv_in hl_ok (i := n - 1) (by omega) (by omega)).1
  refine stg (s_move rfl (stg (s_move rfl (stg (s_sub rfl rfl (by omega) (stg (s_idx sl22 rfl rfl (hl.at0 hb0) (by omega) (by omega) ?_)))))))
  rintro b1 o1 _ ⟨rfl, _⟩ hc1 hF1 hlt1
  have hl_1 := Loc.lt hF1
  refine stg (s_faddr fld101_0 rfl (stg (s_load one3 rfl hc1 (j := 0) rfl (stg (s_lt rfl rfl (st (s_pick rfl rfl (r_end (n_then ?_)))))))))
  refine w_condP rfl (fun h2 => ?_) (fun h2 => ?_)
  · refine w_seq (w_region (st (s_assign rfl (r_end (n_then (w_ret1 rfl rfl ?_))))))
    exact ⟨_, rfl, hb0, by rw [hollow_no]; rintro ⟨e1, e2, e3⟩; omega⟩
  refine w_skip' (n_then (w_seq (w_region (st (s_move rfl (st (s_call fn40 rfl (empties_any (hl.at0 hb0) hl_ok hll) ?_)))))))
  rintro v1 w1 ⟨hq1, hS1⟩
  have k1 := grown_of_below hq1 none
  have hz1 := hq1.size
  have hb1 := below_g0 hb0 k1
  have hz2 := hb1.size
  refine st (s_assign rfl (r_end (n_then (w_seq (w_seq (w_region (st (s_assign rfl ?_))))))))
  refine r_end (n_then (w_block (w_loop (α := Int) (fun (k : Int) => [(0, va), (1, .int .i64 n), (5, v1), (6, .int .i64 k)]) (fun (k : Int) W => Below w.heap.size w W ∧ (0 ≤ k ∧ k ≤ 4) ∧ (∀ k' : Int, 0 ≤ k' → k' < k → holK l n k') ∧ (Sl Kd.bool W (fun _ => False) v1 (emptL l))) (fun (k : Int) => (4 - k).toNat) (0) ⟨hb1, by omega, fun k' _ _ => by omega, hS1⟩ (by exact ⟨rfl, rfl, rfl, rfl, trivial⟩) ?_)))
  rintro k w2 ⟨hb2, hk, ha, hS2⟩
  have hz3 := hb2.size
  refine w_seq (w_seq (w_region (st (s_move rfl (st (s_lt rfl rfl (r_end (n_then ?_))))))))
  refine w_condP rfl (fun h3 => ?_) (fun h3 => ?_)
  rotate_left
  · refine w_exit' (n_then_exit (n_then_exit (n_block_exit (n_then (w_seq (w_region ?_))))))
    refine st (s_assign rfl (r_end (n_then (w_ret1 rfl rfl ?_))))
    exact ⟨_, rfl, hb2, by rw [(hollowB_iff l n).2]; exact ⟨by omega, by omega, fun k k0 k1 => ha k k0 (by omega)⟩⟩
  refine w_skip' (n_then (w_seq (w_block (w_seq (w_region (st (s_move rfl ?_)))))))
  refine st (s_move rfl (st (s_sub rfl rfl (by omega) (st (s_move rfl (st (s_idx sl22 rfl rfl (hl.at0 hb2) (by omega) (by omega) ?_)))))))
  rintro b2 o2 _ ⟨rfl, _⟩ hc2 hF2 hlt2
  have hl_2 := Loc.lt hF2
  refine st (s_faddr fld101_1 rfl (st (s_iaddr arr99 rfl rfl (by omega) (by omega) (st (s_load4 one3 rfl hc2 (j := 1) rfl rfl (by omega) (by omega) (st (s_assign rfl (r_end (n_then (w_seq ?_))))))))))
  refine w_region (st (s_assign rfl (r_end (n_then (w_block (w_loop (α := Int) (fun (j : Int) => [(0, va), (1, .int .i64 n), (5, v1), (6, .int .i64 k), (7, .int .i64 (sel4 ((ix l (n - 1)).k0) ((ix l (n - 1)).k1) ((ix l (n - 1)).k2) ((ix l (n - 1)).k3) k)), (8, .int .i64 j)]) (fun (j : Int) W => Below w.heap.size w W ∧ (0 ≤ j ∧ j ≤ 4) ∧ (∀ j' : Int, 0 ≤ j' → j' < j → j' ≠ 3 - k → hasK (ix l ((ix l (n - 1)).kid k - 1)) (hasL l) ((ix l ((ix l (n - 1)).kid k - 1)).kid j') = false) ∧ (Sl Kd.bool W (fun _ => False) v1 (emptL l))) (fun (j : Int) => (4 - j).toNat) (0) ⟨hb2, by omega, fun j' _ _ _ => by omega, hS2⟩ (by exact ⟨rfl, rfl, rfl, rfl, rfl, rfl, trivial⟩) ?_))))))
  rintro j w3 ⟨hb3, hj, hb, hS3⟩
  have hz4 := hb3.size
  have hkid0 : (ix l (n - 1)).kid k ≠ 0 → _ := fun e => kid_in hl_ok (i := n - 1) (k := k) (by omega) (by omega) hk.1 (by omega) (by omega) e
  refine w_seq (w_seq (w_region (st (s_move rfl (st (s_lt rfl rfl (st (s_move rfl ?_))))))))
  refine r_caseP 37 rfl (fun h4 => ?_) (fun h4 => ?_)
  rotate_left
  · refine s_pass rfl rfl (s_pass rfl rfl (st (s_pick rfl rfl (r_end (n_then (w_condF rfl (w_exit' ?_)))))))
    refine n_then_exit (n_then_exit (n_block_exit (n_block (n_then (w_region (st (s_move rfl ?_)))))))
    refine st (s_add rfl rfl (by omega) (st (s_assign rfl (r_end ?_))))
    exact n_round ((k + 1)) ⟨hb3, by omega, fun k' k0 k1 => if e : k' = k then by rw [e]; intro e2 j' j0 j1 j2; exact hb j' j0 (by first | omega | (have := hkid0 e2; unfold Nd.kid at this; omega)) j2 else ha k' k0 (by omega), hS3⟩ (by omega) (by exact ⟨rfl, rfl, rfl, rfl, trivial⟩)
  refine stg (s_move rfl (stg (s_gt rfl rfl (st (s_pick rfl rfl (r_end (n_then ?_)))))))
  refine w_condP rfl (fun h5 => ?_) (fun h5 => ?_)
  rotate_left
  · refine w_exit' (n_then_exit (n_then_exit (n_block_exit (n_block (n_then (w_region ?_))))))
    refine st (s_move rfl (st (s_add rfl rfl (by omega) (st (s_assign rfl (r_end ?_))))))
    exact n_round ((k + 1)) ⟨hb3, by omega, fun k' k0 k1 => if e : k' = k then by rw [e]; intro e2 j' j0 j1 j2; exact hb j' j0 (by first | omega | (have := hkid0 e2; unfold Nd.kid at this; omega)) j2 else ha k' k0 (by omega), hS3⟩ (by omega) (by exact ⟨rfl, rfl, rfl, rfl, trivial⟩)
  have hkid := hkid0 (by unfold Nd.kid; omega)
  unfold Nd.kid at hkid
  refine w_skip' (n_then (w_seq (w_block (w_seq (w_region (st (s_move rfl ?_)))))))
  refine st (s_move rfl (st (s_sub rfl rfl (by omega) (st (s_move rfl (st (s_idx sl22 rfl rfl (hl.at0 hb3) (by omega) (by omega) ?_)))))))
  rintro b3 o3 _ ⟨rfl, _⟩ hc3 hF3 hlt3
  have hl_3 := Loc.lt hF3
  refine st (s_faddr fld101_1 rfl (st (s_iaddr arr99 rfl rfl (by omega) (by omega) (st (s_load4 one3 rfl hc3 (j := 1) rfl rfl (by omega) (by omega) (st (s_assign rfl (r_end (n_then (w_seq ?_))))))))))
  refine w_region (st (s_move rfl (st (s_move rfl (st (s_sub rfl rfl (by omega) (st (s_ne rfl rfl (st (s_move rfl ?_))))))))))
  refine r_caseP 55 rfl (fun h6 => ?_) (fun h6 => ?_)
  rotate_left
  · refine s_pass rfl rfl (s_pass rfl rfl (s_pass rfl rfl (s_pass rfl rfl (s_pass rfl rfl (s_pass rfl rfl (s_pass rfl rfl ?_))))))
    refine s_pass rfl rfl (s_passU rfl rfl (s_passU rfl rfl (s_pass rfl rfl (s_pass rfl rfl (s_passU rfl rfl (s_passU rfl rfl ?_))))))
    refine s_passU rfl rfl (s_passU rfl rfl (s_passU rfl rfl (s_passU rfl rfl (s_passU rfl rfl (s_passU rfl rfl (s_passU rfl rfl ?_))))))
    refine s_passU rfl rfl (s_passU rfl rfl (s_passU rfl rfl (s_passU rfl rfl (s_passU rfl rfl (s_pass rfl rfl (st (s_pick rfl rfl ?_)))))))
    refine r_end (n_then (w_condF rfl (w_skip' (n_block (n_then (w_region ?_))))))
    refine st (s_move rfl (st (s_add rfl rfl (by omega) (st (s_assign rfl (r_end ?_))))))
    exact n_round ((j + 1)) ⟨hb3, by omega, fun j' j0 j1 j2 => if e : j' = j then by rw [e] at j2 ⊢; first | (exfalso; omega) | exact hasK_no (.inl (by unfold Nd.kid; omega)) | exact hasK_no (.inr ⟨by unfold Nd.kid; omega, by unfold Nd.kid; assumption⟩) else hb j' j0 (by omega) j2, hS3⟩ (by omega) (by exact ⟨rfl, rfl, rfl, rfl, rfl, rfl, trivial⟩)
  refine stg (s_move rfl (stg (s_move rfl (stg (s_sub rfl rfl (by omega) (stg (s_idx sl22 rfl rfl (hl.at0 hb3) (by omega) (by omega) ?_)))))))
  rintro b4 o4 _ ⟨rfl, _⟩ hc4 hF4 hlt4
  have hl_4 := Loc.lt hF4
  refine stg (s_faddr fld101_0 rfl (stg (s_load one3 rfl hc4 (j := 0) rfl (stg (s_eq rfl rfl (stg (s_move rfl ?_)))))))
  refine r_caseP 63 rfl (fun h7 => ?_) (fun h7 => ?_)
  rotate_left
  · refine s_pass rfl rfl (s_pass rfl rfl (stg (s_pick rfl rfl (stg (s_move rfl (stg (s_move rfl (stg (s_move rfl (stg (s_sub rfl rfl (by omega) ?_)))))))))))
    refine stg (s_idx sl22 rfl rfl (hl.at0 hb3) (by omega) (by omega) ?_)
    rintro b7 o7 _ ⟨rfl, _⟩ hc7 hF7 hlt7
    have hl_6 := Loc.lt hF7
    refine stg (s_faddr fld101_0 rfl (stg (s_load one3 rfl hc7 (j := 0) rfl (stg (s_gt rfl rfl (stg (s_move rfl ?_)))))))
    refine r_caseP 75 rfl (fun h11 => ?_) (fun h11 => ?_)
    rotate_left
    · refine s_pass rfl rfl (s_pass rfl rfl (s_pass rfl rfl (s_pass rfl rfl (s_pass rfl rfl (stg (s_pick rfl rfl (stg (s_pick rfl rfl ?_))))))))
      refine st (s_pick rfl rfl (r_end (n_then (w_condF rfl (w_skip' (n_block (n_then ?_)))))))
      refine w_region (st (s_move rfl (st (s_add rfl rfl (by omega) (st (s_assign rfl (r_end ?_)))))))
      exact n_round ((j + 1)) ⟨hb3, by omega, fun j' j0 j1 j2 => if e : j' = j then by rw [e] at j2 ⊢; first | (exfalso; omega) | exact hasK_no (.inl (by unfold Nd.kid; omega)) | exact hasK_no (.inr ⟨by unfold Nd.kid; omega, by unfold Nd.kid; assumption⟩) else hb j' j0 (by omega) j2, hS3⟩ (by omega) (by exact ⟨rfl, rfl, rfl, rfl, rfl, rfl, trivial⟩)
    have hkid2 : (ix l ((ix l (n - 1)).kid k - 1)).kid j ≠ 0 → _ := fun e => kid_in hl_ok (by unfold Nd.kid; omega) (by unfold Nd.kid; omega) hj.1 (by omega) (by unfold Nd.kid; omega) e
    unfold Nd.kid at hkid2
    refine stg (s_move rfl (stg (s_move rfl (stg (s_idx sl68 rfl rfl hS3 (by omega) (by omega) ?_)))))
    rintro b8 o8 _ ⟨rfl, _⟩ hc8 hF8 hlt8
    refine stg (s_load one4 rfl hc8 (j := 0) rfl (stg (s_not rfl (stg (s_pick rfl rfl (stg (s_pick rfl rfl (st (s_pick rfl rfl (r_end (n_then ?_)))))))))))
    refine w_cond rfl (fun h12 => ?_) (fun h12 => ?_)
    · rw [emptL_at l _ (by omega) (by omega), Bool.not_not] at h12
      have hg0 := hasL_nz h12
      refine w_seq (w_region (st (s_assign rfl (r_end (n_then (w_ret1 rfl rfl ?_))))))
      refine ⟨_, rfl, hb3, ?_⟩
      rw [hollow_no]
      rintro ⟨e1, e2, e3⟩
      have e4 := e3 k (by omega) (by omega) (by unfold Nd.kid; omega) j (by omega) (by omega) (by omega)
      rw [hasK_yes (by unfold Nd.kid; omega) (by unfold Nd.kid; first | exact .inl (by omega) | exact .inr (by assumption))] at e4
      cases e4
    rw [emptL_at l _ (by omega) (by omega), Bool.not_not] at h12
    refine w_skip' (n_block (n_then (w_region (st (s_move rfl (st (s_add rfl rfl (by omega) (st (s_assign rfl ?_)))))))))
    refine r_end ?_
    exact n_round ((j + 1)) ⟨hb3, by omega, fun j' j0 j1 j2 => if e : j' = j then by rw [e] at j2 ⊢; first | (exfalso; omega) | exact hasK_no (.inl (by unfold Nd.kid; omega)) | exact hasK_no (.inr ⟨by unfold Nd.kid; omega, by unfold Nd.kid; assumption⟩) else hb j' j0 (by omega) j2, hS3⟩ (by omega) (by exact ⟨rfl, rfl, rfl, rfl, rfl, rfl, trivial⟩)
  refine stg (s_move rfl (stg (s_ne rfl rfl (stg (s_pick rfl rfl (stg (s_move rfl ?_)))))))
  refine r_caseP 67 rfl (fun h8 => ?_) (fun h8 => ?_)
  · refine s_pass rfl rfl (s_pass rfl rfl (s_pass rfl rfl (s_pass rfl rfl (s_pass rfl rfl (s_pass rfl rfl (s_pass rfl rfl ?_))))))
    refine s_pass rfl rfl (s_passU rfl rfl (s_passU rfl rfl (s_passU rfl rfl (s_passU rfl rfl (s_passU rfl rfl (s_pass rfl rfl ?_))))))
    refine stg (s_pick rfl rfl (st (s_pick rfl rfl (r_end (n_then (w_condT rfl (w_seq (w_region ?_))))))))
    refine st (s_assign rfl (r_end (n_then (w_ret1 rfl rfl ?_))))
    refine ⟨_, rfl, hb3, ?_⟩
    rw [hollow_no]
    rintro ⟨e1, e2, e3⟩
    have e4 := e3 k (by omega) (by omega) (by unfold Nd.kid; omega) j (by omega) (by omega) (by omega)
    rw [hasK_yes (by unfold Nd.kid; omega) (by unfold Nd.kid; first | exact .inl (by omega) | exact .inr (by assumption))] at e4
    cases e4
  refine stg (s_move rfl (stg (s_move rfl (stg (s_sub rfl rfl (by omega) (stg (s_idx sl22 rfl rfl (hl.at0 hb3) (by omega) (by omega) ?_)))))))
  rintro b5 o5 _ ⟨rfl, _⟩ hc5 hF5 hlt5
  have hl_5 := Loc.lt hF5
  refine stg (s_faddr fld101_0 rfl (stg (s_load one3 rfl hc5 (j := 0) rfl (stg (s_gt rfl rfl (stg (s_move rfl ?_)))))))
  refine r_caseP 75 rfl (fun h9 => ?_) (fun h9 => ?_)
  rotate_left
  · refine s_pass rfl rfl (s_pass rfl rfl (s_pass rfl rfl (s_pass rfl rfl (s_pass rfl rfl (stg (s_pick rfl rfl (stg (s_pick rfl rfl ?_))))))))
    refine st (s_pick rfl rfl (r_end (n_then (w_condF rfl (w_skip' (n_block (n_then ?_)))))))
    refine w_region (st (s_move rfl (st (s_add rfl rfl (by omega) (st (s_assign rfl (r_end ?_)))))))
    exact n_round ((j + 1)) ⟨hb3, by omega, fun j' j0 j1 j2 => if e : j' = j then by rw [e] at j2 ⊢; first | (exfalso; omega) | exact hasK_no (.inl (by unfold Nd.kid; omega)) | exact hasK_no (.inr ⟨by unfold Nd.kid; omega, by unfold Nd.kid; assumption⟩) else hb j' j0 (by omega) j2, hS3⟩ (by omega) (by exact ⟨rfl, rfl, rfl, rfl, rfl, rfl, trivial⟩)
  have hkid2 : (ix l ((ix l (n - 1)).kid k - 1)).kid j ≠ 0 → _ := fun e => kid_in hl_ok (by unfold Nd.kid; omega) (by unfold Nd.kid; omega) hj.1 (by omega) (by unfold Nd.kid; omega) e
  unfold Nd.kid at hkid2
  refine stg (s_move rfl (stg (s_move rfl (stg (s_idx sl68 rfl rfl hS3 (by omega) (by omega) ?_)))))
  rintro b6 o6 _ ⟨rfl, _⟩ hc6 hF6 hlt6
  refine stg (s_load one4 rfl hc6 (j := 0) rfl (stg (s_not rfl (stg (s_pick rfl rfl (stg (s_pick rfl rfl (st (s_pick rfl rfl (r_end (n_then ?_)))))))))))
  refine w_cond rfl (fun h10 => ?_) (fun h10 => ?_)
  · rw [emptL_at l _ (by omega) (by omega), Bool.not_not] at h10
    have hg0 := hasL_nz h10
    refine w_seq (w_region (st (s_assign rfl (r_end (n_then (w_ret1 rfl rfl ?_))))))
    refine ⟨_, rfl, hb3, ?_⟩
    rw [hollow_no]
    rintro ⟨e1, e2, e3⟩
    have e4 := e3 k (by omega) (by omega) (by unfold Nd.kid; omega) j (by omega) (by omega) (by omega)
    rw [hasK_yes (by unfold Nd.kid; omega) (by unfold Nd.kid; first | exact .inl (by omega) | exact .inr (by assumption))] at e4
    cases e4
  rw [emptL_at l _ (by omega) (by omega), Bool.not_not] at h10
  refine w_skip' (n_block (n_then (w_region (st (s_move rfl (st (s_add rfl rfl (by omega) (st (s_assign rfl ?_)))))))))
  refine r_end ?_
  exact n_round ((j + 1)) ⟨hb3, by omega, fun j' j0 j1 j2 => if e : j' = j then by rw [e] at j2 ⊢; first | (exfalso; omega) | exact hasK_no (.inl (by unfold Nd.kid; omega)) | exact hasK_no (.inr ⟨by unfold Nd.kid; omega, by unfold Nd.kid; assumption⟩) else hb j' j0 (by omega) j2, hS3⟩ (by omega) (by exact ⟨rfl, rfl, rfl, rfl, rfl, rfl, trivial⟩)
end Go.Proofs.Ytfljelnfjbbknaa.Nd

set_option maxRecDepth 20000
set_option linter.unusedSimpArgs false
set_option linter.unusedVariables false
namespace Go.Proofs.Ytfljelnfjbbknaa.Nd
open Go.RowKit Go.Gw
theorem end_any {a : World} {va : Value} {l : List Nd} {F : Nat → Prop} (hl : Sl Kd.node a F va l) (hl_ok : looseB l = true) (hll : l.length ≤ 1000000) :
    ∀ (f : Nat) {w : World} {vo : Value} {E : List Int} {n : Int}, n ≤ f → 1 ≤ n → n ≤ l.length → Below a.heap.size a w → Gw.Own (Kd.num .i64) 3 a.heap.size w (fun _ => False) vo E → OkE l.length E →
    Calls Try.prog 69 [va, .int .i64 n, vo].toArray w (Ret fun v w' => Below a.heap.size a w' ∧ Gw.Own (Kd.num .i64) 3 a.heap.size w' (fun _ => False) v (endF l f n E)) := by
  intro f
  induction f with
  | zero => intro w vo E n h1 h2; omega
  | succ f ih =>
    intro w vo E n hnf hn0 hn1 hb0 hE hok
    have hnf2 : n ≤ (f : Int) + 1 := by omega
    have hz0 := hb0.size
    have hln1 := hl.lenle
    have hlenE := hE.lenle
    refine enter Try.func69 rfl rfl (w_seq (w_region (st (s_assign rfl (r_end (n_then (w_seq ?_)))))))
    refine w_seq (w_region (st (s_assign rfl (r_end (n_then (w_block (w_loop (α := Int) (fun (i : Int) => [(0, va), (1, .int .i64 n), (2, vo), (7, .int .i64 i)]) (fun (i : Int) W => Below a.heap.size a W ∧ (0 ≤ i ∧ i ≤ E.length) ∧ (∀ j : Int, 0 ≤ j → j < i → ix E j ≠ n) ∧ (Gw.Own (Kd.num .i64) 3 a.heap.size W (fun _ => False) vo E)) (fun (i : Int) => (E.length - i).toNat) (0) ⟨hb0, by omega, fun j _ _ => by omega, hE⟩ (by exact ⟨rfl, rfl, rfl, rfl, trivial⟩) ?_)))))))
    rintro i w1 ⟨hb1, hi, ha, hE1⟩
    have hz1 := hb1.size
    refine w_seq (w_seq (w_region (st (s_move rfl (st (s_move rfl (st (s_len sl65 rfl hE1.sl (st (s_lt rfl rfl ?_))))))))))
    refine r_end (n_then ?_)
    refine w_condP rfl (fun h1 => ?_) (fun h1 => ?_)
    · refine w_skip' (n_then (w_seq (w_block (w_seq (w_region (st (s_move rfl ?_)))))))
      refine st (s_move rfl (st (s_idx sl65 rfl rfl hE1.sl (by omega) (by omega) ?_)))
      rintro b1 o1 _ ⟨rfl, _⟩ hc1 hF1 hlt1
      refine st (s_load one3 rfl hc1 (j := 0) rfl (st (s_move rfl (st (s_eq rfl rfl (r_end (n_then ?_)))))))
      refine w_condP rfl (fun h2 => ?_) (fun h2 => ?_)
      · refine w_seq (w_region (st (s_move rfl (st (s_assign rfl (r_end (n_then (w_ret1 rfl rfl ?_))))))))
        refine ⟨_, rfl, hb1, ?_⟩
        rw [endF_in (by rw [← h2]; exact ix_mem (by omega) (by omega))]
        exact hE1
      refine w_skip' (n_block (n_then (w_region (st (s_move rfl (st (s_add rfl rfl (by omega) (st (s_assign rfl ?_)))))))))
      refine r_end ?_
      exact n_round ((i + 1)) ⟨hb1, by omega, fun j j0 j1 => if e : j = i then by rw [e]; exact h2 else ha j j0 (by omega), hE1⟩ (by omega) (by exact ⟨rfl, rfl, rfl, rfl, trivial⟩)
    refine w_exit' (n_then_exit (n_then_exit (n_block_exit (n_then (w_seq (w_seq ?_))))))
    refine w_region (st (s_assign rfl (r_end (n_then (w_block ?_)))))
    have hno := not_mem_ix (by omega : i = (E.length : Int)) ha
    refine w_loop (α := Int × List Int × Value) (fun ((k, Ek, vk) : Int × List Int × Value) => [(0, va), (1, .int .i64 n), (2, vk), (8, .int .i64 k)]) (fun ((k, Ek, vk) : Int × List Int × Value) W => Below a.heap.size a W ∧ (0 ≤ k ∧ k ≤ 4) ∧ (Ek = endV l f (ix l (n - 1)) E k) ∧ (Gw.Own (Kd.num .i64) 3 a.heap.size W (fun _ => False) vk Ek) ∧ (OkE l.length Ek) ∧ (¬ n ∈ Ek)) (fun ((k, Ek, vk) : Int × List Int × Value) => (4 - k).toNat) ((0), (E), (vo)) ⟨hb1, by omega, by rw [endV_zero], hE1, hok, hno⟩ (by exact ⟨rfl, rfl, rfl, rfl, trivial⟩) ?_
    rintro ⟨k, Ek, vk⟩ w2 ⟨hb2, hk, hEe, hEk, hok2, hno2⟩
    dsimp only at *
    have hz2 := hb2.size
    refine w_seq (w_seq (w_region (st (s_move rfl (st (s_lt rfl rfl (r_end (n_then ?_))))))))
    refine w_condP rfl (fun h3 => ?_) (fun h3 => ?_)
    rotate_left
    · refine w_exit' (n_then_exit (n_then_exit (n_block_exit (n_then (w_seq (w_region ?_))))))
      refine st (s_move rfl (st (s_move rfl (st (s_bslice (ps := [(0, .tmp 56)]) (ccs := [#[.int .i64 n]]) (e := 3) (cells := [.int .i64 n]) rfl rfl (by kernel_rfl) (by decide) nz3 ?_)))))
      intro g1 w4 hg1 hB1 k2 hs1
      have hb4 := below_g0 hb2 k2
      have hz4 := hb4.size
      have hO2 := hEk.g0 k2
      refine st (s_append (K := (Kd.num .i64)) sl65 rfl rfl hO2 (lit_num hB1 hEk (fun h => h) hg1) (num_ones _) (by have := hok2.len; simp; omega) (by have := hok2.len; simp; omega) (by first | exact Nat.le_refl _ | omega) (fun _ h => h.elim) ?_)
      intro v1 w5 hO3 k3 hr5
      have hb5 := hb4.grown k3 hb4.size (fun k_ hk_ => (hO2.lt k_ hk_).1)
      have hz5 := hb5.size
      refine st (s_assign rfl (r_end (n_then (w_ret1 rfl rfl ?_))))
      have e4 : k = 4 := by omega
      subst e4
      refine ⟨_, rfl, hb5, ?_⟩
      rw [endF_eq hno, ← hEe]
      exact hO3
    refine w_skip' (n_then (w_seq (w_block (w_seq (w_region (st (s_move rfl ?_)))))))
    refine st (s_move rfl (st (s_sub rfl rfl (by omega) (st (s_idx sl22 rfl rfl (hl.at0 hb2) (by omega) (by omega) ?_)))))
    rintro b2 o2 _ ⟨rfl, _⟩ hc2 hF2 hlt2
    have hl_1 := Loc.lt hF2
    refine st (s_faddr fld101_0 rfl (st (s_load one3 rfl hc2 (j := 0) rfl (st (s_gt rfl rfl (st (s_move rfl ?_)))))))
    refine r_caseP 33 rfl (fun h4 => ?_) (fun h4 => ?_)
    rotate_left
    · refine s_pass rfl rfl (s_pass rfl rfl (s_pass rfl rfl (s_pass rfl rfl (s_pass rfl rfl (s_pass rfl rfl (s_pass rfl rfl ?_))))))
      refine s_pass rfl rfl (s_pass rfl rfl (st (s_pick rfl rfl (r_end (n_then (w_condF rfl (w_skip' ?_)))))))
      refine n_block (n_then (w_region (st (s_move rfl (st (s_add rfl rfl (by omega) (st (s_assign rfl (r_end ?_)))))))))
      exact n_round (((k + 1)), ((Ek)), (vk)) ⟨hb2, by omega, by rw [hEe]; exact (endV_no hk.1 (by omega) (fun h => absurd h h4)).symm, hEk, hok2, hno2⟩ (by omega) (by exact ⟨rfl, rfl, rfl, rfl, trivial⟩)
    have hkin := fun k k0 k1 e => kid_in hl_ok (i := n - 1) (k := k) (by omega) (by omega) k0 k1 (by omega) e
    refine stg (s_move rfl (stg (s_move rfl (stg (s_sub rfl rfl (by omega) (stg (s_move rfl (stg (s_idx sl22 rfl rfl (hl.at0 hb2) (by omega) (by omega) ?_)))))))))
    rintro b3 o3 _ ⟨rfl, _⟩ hc3 hF3 hlt3
    have hl_2 := Loc.lt hF3
    refine stg (s_faddr fld101_1 rfl (stg (s_iaddr arr99 rfl rfl (by omega) (by omega) (stg (s_load4 one3 rfl hc3 (j := 1) rfl rfl (by omega) (by omega) (stg (s_gt rfl rfl (st (s_pick rfl rfl (r_end (n_then ?_)))))))))))
    refine w_condP rfl (fun h5 => ?_) (fun h5 => ?_)
    rotate_left
    · refine w_skip' (n_block (n_then (w_region (st (s_move rfl (st (s_add rfl rfl (by omega) (st (s_assign rfl ?_)))))))))
      refine r_end ?_
      exact n_round (((k + 1)), ((Ek)), (vk)) ⟨hb2, by omega, by rw [hEe]; exact (endV_no hk.1 (by omega) (fun _ => by unfold Nd.kid; omega)).symm, hEk, hok2, hno2⟩ (by omega) (by exact ⟨rfl, rfl, rfl, rfl, trivial⟩)
    have hkid := hkin k hk.1 (by omega) (by unfold Nd.kid; omega)
    unfold Nd.kid at hkid
    refine w_region (st (s_move rfl (st (s_move rfl (st (s_move rfl (st (s_sub rfl rfl (by omega) (st (s_move rfl (st (s_idx sl22 rfl rfl (hl.at0 hb2) (by omega) (by omega) ?_))))))))))))
    rintro b4 o4 _ ⟨rfl, _⟩ hc4 hF4 hlt4
    have hl_3 := Loc.lt hF4
    refine st (s_faddr fld101_1 rfl (st (s_iaddr arr99 rfl rfl (by omega) (by omega) (st (s_load4 one3 rfl hc4 (j := 1) rfl rfl (by omega) (by omega) (st (s_move rfl (st (s_call fn69 rfl (ih (n := (sel4 ((ix l (n - 1)).k0) ((ix l (n - 1)).k1) ((ix l (n - 1)).k2) ((ix l (n - 1)).k3) k)) (by omega) (by omega) (by omega) hb2 hEk hok2) ?_)))))))))
    rintro ve1 w3 ⟨hb3, hO1⟩
    have hz3 := hb3.size
    refine st (s_assign rfl (r_end (n_block (n_then (w_region (st (s_move rfl (st (s_add rfl rfl (by omega) ?_)))))))))
    refine st (s_assign rfl (r_end ?_))
    exact n_round (((k + 1)), ((endF l f ((sel4 ((ix l (n - 1)).k0) ((ix l (n - 1)).k1) ((ix l (n - 1)).k2) ((ix l (n - 1)).k3) k)) Ek)), (ve1)) ⟨hb3, by omega, by rw [hEe]; exact (endV_yes hk.1 (by omega) (by simpa using h4) (by simpa [Nd.kid] using h5)).symm, hO1, endF_ok hl_ok f _ _ (by omega) (by omega) hok2, endF_new hl_ok (n := n) (by omega) (by omega) hn1 hno2⟩ (by omega) (by exact ⟨rfl, rfl, rfl, rfl, trivial⟩)
end Go.Proofs.Ytfljelnfjbbknaa.Nd

set_option maxRecDepth 20000
set_option linter.unusedSimpArgs false
set_option linter.unusedVariables false
namespace Go.Proofs.Ytfljelnfjbbknaa.Nd
open Go.RowKit Go.Gw
set_option maxHeartbeats 1000000 in
theorem rright_any {va : Value} {l : List Nd} {F : Nat → Prop} {w : World} (hl : Sl Kd.node w F va l) (hll : l.length ≤ 1000000) :
    Calls Try.prog 35 [.agg [va].toArray].toArray w (Pure w fun v _ => v = .bool (rightB l)) := by
  have hb0 := Below.refl w.heap.size w
  have hln0 := hl.lenle
  refine enter Try.func35 rfl rfl (w_seq (w_region (st (s_box rfl ?_))))
  intro g1 w1 hg1 hB1 k1 hs1
  change Blk w1 g1 25 [va].toArray at hB1
  have hb1 := below_g0 hb0 k1
  refine st (s_assign rfl (r_end (n_then (w_seq (w_region (st (s_faddr fld25_0 rfl (st (s_load one22 rfl hB1.range (j := 0) rfl ?_)))))))))
  refine st (s_assign rfl (r_end (n_then (w_seq (w_seq (w_region (st (s_move rfl ?_))))))))
  refine st (s_len sl22 rfl (hl.at0 hb1) (st (s_eq rfl rfl (r_end (n_then ?_)))))
  refine w_condP rfl (fun h1 => ?_) (fun h1 => ?_)
  · refine w_seq (w_region (st (s_assign rfl (r_end (n_then (w_ret1 rfl rfl ?_))))))
    exact ⟨_, rfl, hb1, by unfold rightB; rw [decide_eq_true (by omega : l.length = 0)]; rfl⟩
  refine w_skip' (n_then (w_seq (w_seq (w_region (st (s_move rfl (st (s_call fn37 rfl (rloose_any (hl.at0 hb1)) ?_))))))))
  rintro _ w2 ⟨hq1, rfl⟩
  have k2 := grown_of_below hq1 none
  have hz1 := hq1.size
  have hb2 := below_g0 hb1 k2
  have hz2 := hb2.size
  refine st (s_not rfl (st (s_move rfl ?_)))
  refine r_case 17 rfl (fun h2 => ?_) (fun h2 => ?_)
  · refine s_pass rfl rfl (s_pass rfl rfl (s_pass rfl rfl (s_pass rfl rfl (st (s_pick rfl rfl (r_end (n_then ?_)))))))
    refine w_condT rfl (w_seq (w_region (st (s_assign rfl (r_end (n_then (w_ret1 rfl rfl ?_)))))))
    refine ⟨_, rfl, hb2, ?_⟩
    unfold rightB; rw [decide_eq_false (by omega : ¬ l.length = 0)]
    simp_all
  have hl_ok : looseB l = true := by simpa using h2
  have hlen := emptL_length l
  refine stg (s_move rfl (stg (s_move rfl (stg (s_len sl22 rfl (hl.at0 hb2) (stg (s_call fn68 rfl (rhollow_any (hl.at0 hb2) hl_ok hll (by omega) (by omega)) ?_)))))))
  rintro _ w3 ⟨hq2, rfl⟩
  have k3 := grown_of_below hq2 none
  have hz3 := hq2.size
  have hb3 := below_g0 hb2 k3
  have hz4 := hb3.size
  refine st (s_pick rfl rfl (r_end (n_then ?_)))
  refine w_cond rfl (fun h3 => ?_) (fun h3 => ?_)
  · refine w_seq (w_region (st (s_assign rfl (r_end (n_then (w_ret1 rfl rfl ?_))))))
    refine ⟨_, rfl, hb3, ?_⟩
    unfold rightB; rw [decide_eq_false (by omega : ¬ l.length = 0)]
    simp_all
  refine w_skip' (n_then (w_seq (w_region (st (s_move rfl (st (s_call fn40 rfl (empties_any (hl.at0 hb3) hl_ok hll) ?_)))))))
  rintro v1 w4 ⟨hq3, hS1⟩
  have k4 := grown_of_below hq3 none
  have hz5 := hq3.size
  have hb4 := below_g0 hb3 k4
  have hz6 := hb4.size
  refine st (s_assign rfl (r_end (n_then (w_seq (w_seq (w_region (st (s_assign rfl ?_))))))))
  refine r_end (n_then (w_block (w_loop (α := Int) (fun (i : Int) => [(3, va), (4, v1), (5, .int .i64 i)]) (fun (i : Int) W => Below w.heap.size w W ∧ (0 ≤ i ∧ i ≤ l.length) ∧ (∀ j : Int, 0 ≤ j → j < i → ix (hasL l) (j + 1) = true) ∧ (∀ j k : Int, 0 ≤ k → k < j → j < i → ix l j ≠ ix l k) ∧ (Sl Kd.bool W (fun _ => False) v1 (emptL l))) (fun (i : Int) => (l.length - i).toNat) (0) ⟨hb4, by omega, fun j _ _ => by omega, fun j k _ _ _ => by omega, hS1⟩ (by exact ⟨rfl, rfl, rfl, trivial⟩) ?_)))
  rintro i w5 ⟨hb5, hi, ha, hnd, hS2⟩
  have hz7 := hb5.size
  refine w_seq (w_seq (w_region (st (s_move rfl (st (s_move rfl (st (s_len sl22 rfl (hl.at0 hb5) (st (s_lt rfl rfl ?_))))))))))
  refine r_end (n_then ?_)
  refine w_condP rfl (fun h4 => ?_) (fun h4 => ?_)
  rotate_left
  · refine w_exit' (n_then_exit (n_then_exit (n_block_exit (n_then (w_seq (w_region ?_))))))
    refine st (s_move rfl (st (s_move rfl (st (s_len sl22 rfl (hl.at0 hb5) ?_)))))
    have hfull := (full_iff l).2 (fun j j0 j1 => ha j j0 (by omega))
    have hnd := nodup_ix (fun j k k0 k1 j1 => hnd j k k0 k1 (by omega))
    refine st (s_call fn69 rfl (end_any hl hl_ok hll l.length (n := l.length) (by omega) (by omega) (by omega) hb5 (Own.nil _ _ _ _ _) (okE_nil _)) ?_)
    rintro ve1 w18 ⟨hb18, hO1⟩
    have hz9 := hb18.size
    change Gw.Own _ _ _ _ _ _ (endL l) at hO1
    have hlenE := hO1.lenle
    refine st (s_assign rfl (r_end (n_then (w_seq (w_seq (w_region (st (s_assign rfl ?_))))))))
    refine r_end (n_then (w_block (w_loop (α := Int) (fun (i : Int) => [(3, va), (7, ve1), (8, .int .i64 i)]) (fun (i : Int) W => Below w.heap.size w W ∧ (0 ≤ i ∧ i ≤ (endL l).length) ∧ (∀ j : Int, 0 ≤ j → j < i → ix (endL l) j = j + 1) ∧ (Gw.Own (Kd.num .i64) 3 w.heap.size W (fun _ => False) ve1 (endL l))) (fun (i : Int) => ((endL l).length - i).toNat) (0) ⟨hb18, by omega, fun j _ _ => by omega, hO1⟩ (by exact ⟨rfl, rfl, rfl, trivial⟩) ?_)))
    rintro i w19 ⟨hb19, hi, ho, hEo⟩
    have hz10 := hb19.size
    refine w_seq (w_seq (w_region (st (s_move rfl (st (s_move rfl (st (s_len sl65 rfl hEo.sl (st (s_lt rfl rfl ?_))))))))))
    refine r_end (n_then ?_)
    refine w_condP rfl (fun h8 => ?_) (fun h8 => ?_)
    rotate_left
    · refine w_exit' (n_then_exit (n_then_exit (n_block_exit (n_then (w_seq (w_region ?_))))))
      refine st (s_move rfl (st (s_len sl65 rfl hEo.sl (st (s_move rfl (st (s_len sl22 rfl (hl.at0 hb19) (st (s_eq rfl rfl (st (s_assign rfl (r_end ?_))))))))))))
      refine n_then (w_ret1 rfl rfl ?_)
      refine ⟨_, rfl, hb19, ?_⟩
      unfold rightB; rw [decide_eq_false (by omega : ¬ l.length = 0)]
      rw [ord_yes (fun j j0 j1 => ho j j0 (by omega)), hl_ok, hfull, decide_eq_true hnd]
      simp_all [Int.natCast_inj]
    refine w_skip' (n_then (w_seq (w_block (w_seq (w_region (st (s_move rfl ?_)))))))
    refine st (s_move rfl (st (s_idx sl65 rfl rfl hEo.sl (by omega) (by omega) ?_)))
    rintro b4 o4 _ ⟨rfl, _⟩ hc4 hF4 hlt4
    refine st (s_load one3 rfl hc4 (j := 0) rfl (st (s_move rfl (st (s_add rfl rfl (by omega) (st (s_ne rfl rfl (r_end (n_then ?_)))))))))
    refine w_condP rfl (fun h9 => ?_) (fun h9 => ?_)
    · refine w_seq (w_region (st (s_assign rfl (r_end (n_then (w_ret1 rfl rfl ?_))))))
      refine ⟨_, rfl, hb19, ?_⟩
      unfold rightB; rw [decide_eq_false (by omega : ¬ l.length = 0)]
      rw [ord_no i hi.1 (by omega) h9]
      simp
    refine w_skip' (n_block (n_then (w_region (st (s_move rfl (st (s_add rfl rfl (by omega) (st (s_assign rfl ?_)))))))))
    refine r_end ?_
    exact n_round ((i + 1)) ⟨hb19, by omega, fun j j0 j1 => if e : j = i then by rw [e]; exact Decidable.not_not.1 h9 else ho j j0 (by omega), hEo⟩ (by omega) (by exact ⟨rfl, rfl, rfl, trivial⟩)
  have hlt := h4
  refine w_skip' (n_then (w_seq (w_block (w_seq (w_seq (w_region ?_))))))
  refine st (s_move rfl (st (s_move rfl (st (s_add rfl rfl (by omega) (st (s_idx sl68 rfl rfl hS2 (by omega) (by omega) ?_)))))))
  rintro b1 o1 _ ⟨rfl, _⟩ hc1 hF1 hlt1
  refine st (s_load one4 rfl hc1 (j := 0) rfl (r_end (n_then ?_)))
  refine w_cond rfl (fun h5 => ?_) (fun h5 => ?_)
  · rw [emptL_at l _ (by omega) (by omega)] at h5
    refine w_seq (w_region (st (s_assign rfl (r_end (n_then (w_ret1 rfl rfl ?_))))))
    refine ⟨_, rfl, hb5, ?_⟩
    unfold rightB; rw [decide_eq_false (by omega : ¬ l.length = 0)]
    rw [full_no hi.1 hlt (by simpa using h5)]
    simp
  rw [emptL_at l _ (by omega) (by omega)] at h5
  refine w_skip' (n_then (w_seq (w_region (st (s_assign rfl (r_end (n_then ?_)))))))
  refine w_block (w_loop (α := Int) (fun (k : Int) => [(3, va), (4, v1), (5, .int .i64 i), (6, .int .i64 k)]) (fun (k : Int) W => Below w.heap.size w W ∧ (0 ≤ k ∧ k ≤ i) ∧ (∀ k' : Int, 0 ≤ k' → k' < k → ix l i ≠ ix l k') ∧ (Sl Kd.bool W (fun _ => False) v1 (emptL l))) (fun (k : Int) => (i - k).toNat) (0) ⟨hb5, by omega, fun k' _ _ => by omega, hS2⟩ (by exact ⟨rfl, rfl, rfl, rfl, trivial⟩) ?_)
  rintro k w6 ⟨hb6, hk, hk2, hS3⟩
  have hz8 := hb6.size
  refine w_seq (w_seq (w_region (st (s_move rfl (st (s_move rfl (st (s_lt rfl rfl (r_end ?_)))))))))
  refine n_then ?_
  refine w_condP rfl (fun h6 => ?_) (fun h6 => ?_)
  rotate_left
  · refine w_exit' (n_then_exit (n_then_exit (n_block_exit (n_block (n_then (w_region ?_))))))
    refine st (s_move rfl (st (s_add rfl rfl (by omega) (st (s_assign rfl (r_end ?_))))))
    exact n_round ((i + 1)) ⟨hb6, by omega, fun j j0 j1 => if e : j = i then by rw [e]; simpa using h5 else ha j j0 (by omega), fun j k' k0 k1 j1 => if e : j = i then by rw [e]; exact hk2 k' k0 (by omega) else hnd j k' k0 k1 (by omega), hS3⟩ (by omega) (by exact ⟨rfl, rfl, rfl, trivial⟩)
  refine w_skip' (n_then (w_seq (w_block (w_seq ?_))))
  obtain ⟨b2, o2, _, hat1, ⟨rfl, _⟩, hc2, hF2, hlt2⟩ := (hl.at0 hb6).elem i (by omega) (by omega)
  have hl_1 := Loc.lt hF2
  obtain ⟨b3, o3, _, hat2, ⟨rfl, _⟩, hc3, hF3, hlt3⟩ := (hl.at0 hb6).elem k (by omega) (by omega)
  have hl_2 := Loc.lt hF3
  refine w_draw 9 (fun a b => a.grownBy b none) [(some 41, Is <| va), (some 42, Is <| .int .i64 i), (some 43, Is <| .pointer (some ⟨b2, o2, none⟩)), (some 44, Is <| .agg [.int .i64 ((ix l i).lv), .int .i64 ((ix l i).k0), .int .i64 ((ix l i).k1), .int .i64 ((ix l i).k2), .int .i64 ((ix l i).k3)].toArray), (some 45, Is <| va), (some 46, Is <| .int .i64 k), (some 47, Is <| .pointer (some ⟨b3, o3, none⟩)), (some 48, Is <| .agg [.int .i64 ((ix l k).lv), .int .i64 ((ix l k).k0), .int .i64 ((ix l k).k1), .int .i64 ((ix l k).k2), .int .i64 ((ix l k).k3)].toArray), (some 49, Is <| .bool (decide ((ix l i) = (ix l k))))] [[], [], [0, 1], [2], [], [], [4, 5], [6], [3, 7]] [(3, va), (4, v1), (5, .int .i64 i), (6, .int .i64 k)] (by exact ⟨rfl, rfl, rfl, rfl, trivial⟩) (by kernel_rfl) (by kernel_rfl) grown_none_refl (fun _ _ _ => grown_none_trans) ⟨kv, kv, kv, kv, kv, kv, kv, kv, kv, trivial⟩ ?_
  intro w7 k5 hs2
  have hb7 := below_g0 hb6 k5
  refine ⟨⟨?_, ?_, ?_, ?_, ?_, ?_, ?_, ?_, ?_, trivial⟩, ?_⟩
  · intro w8 k6
    refine op1 (s_move rfl ?_)
    exact ⟨rfl, grown_none_refl _⟩
  · intro w9 k7
    refine op1 (s_move rfl ?_)
    exact ⟨rfl, grown_none_refl _⟩
  · intro w10 k8
    intro v_ hv_; subst v_
    rintro _ rfl
    refine op1 (s_idxat sl22 rfl rfl hat1 ?_)
    exact ⟨rfl, grown_none_refl _⟩
  · intro w11 k9
    rintro _ rfl
    refine op1 (s_loadW row101 rfl (range_g0 (range_g0 hc2 k5) k9) rfl ?_)
    exact ⟨rfl, grown_none_refl _⟩
  · intro w12 k10
    refine op1 (s_move rfl ?_)
    exact ⟨rfl, grown_none_refl _⟩
  · intro w13 k11
    refine op1 (s_move rfl ?_)
    exact ⟨rfl, grown_none_refl _⟩
  · intro w14 k12
    intro v_ hv_; subst v_
    rintro _ rfl
    refine op1 (s_idxat sl22 rfl rfl hat2 ?_)
    exact ⟨rfl, grown_none_refl _⟩
  · intro w15 k13
    rintro _ rfl
    refine op1 (s_loadW row101 rfl (range_g0 (range_g0 hc3 k5) k13) rfl ?_)
    exact ⟨rfl, grown_none_refl _⟩
  · intro w16 k14
    rintro _ rfl _ rfl
    refine op1 (s_eqnode eqNode rfl rfl ?_)
    exact ⟨rfl, grown_none_refl _⟩
  intro w17 k15
  have hb17 := below_g0 hb7 k15
  intro v_ hv_; subst v_
  rintro _ rfl _ rfl _ rfl
  intro v_ hv_; subst v_
  rintro _ rfl _ rfl _ rfl _ rfl
  refine r_end (n_then ?_)
  refine w_condP rfl (fun h7 => ?_) (fun h7 => ?_)
  · refine w_seq (w_region (st (s_assign rfl (r_end (n_then (w_ret1 rfl rfl ?_))))))
    refine ⟨_, rfl, hb17, ?_⟩
    unfold rightB; rw [decide_eq_false (by omega : ¬ l.length = 0)]
    rw [dup_ix hk.1 (by omega) hlt h7]
    simp
  refine w_skip' (n_block (n_then (w_region (st (s_move rfl (st (s_add rfl rfl (by omega) (st (s_assign rfl ?_)))))))))
  refine r_end ?_
  exact n_round ((k + 1)) ⟨hb17, by omega, fun k' k0 k1 => if e : k' = k then by rw [e]; exact h7 else hk2 k' k0 (by omega), ((hS3.g0 k5).g0 k15)⟩ (by omega) (by exact ⟨rfl, rfl, rfl, rfl, trivial⟩)
end Go.Proofs.Ytfljelnfjbbknaa.Nd
