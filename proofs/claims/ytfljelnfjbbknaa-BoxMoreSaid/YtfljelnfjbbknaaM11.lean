/- Part of the proof: a library for walks, plain laws, and functions' walks. -/
import Derived.Test.YtfljelnfjbbknaaM10
import Derived.Test.YtfljelnfjbbknaaM3
import Derived.Test.YtfljelnfjbbknaaM2
import Derived.Test.YtfljelnfjbbknaaM5
import Derived.Test.YtfljelnfjbbknaaM6
set_option maxRecDepth 20000
set_option linter.unusedSimpArgs false
set_option linter.unusedVariables false
namespace Go.Proofs.Ytfljelnfjbbknaa.Nd
open Go.RowKit Go.Gw
set_option maxHeartbeats 1000000 in
theorem rinner_any {va : Value} {l : List Nd} {F : Nat → Prop} {w : World} (hl : Sl Kd.node w F va l) {n k : Int} (hl_ok : looseB l = true) (h0 : 1 ≤ n) (h1 : n ≤ l.length) (hv : (ix l (n - 1)).lv ≠ 1) (k0 : 0 ≤ k) (k1 : k < 4) :
    Calls Try.prog 73 [va, .int .i64 n, .int .i64 k].toArray w (Pure w fun v _ => v = .int .i64 (innN l n k)) := by
  have hb0 := Below.refl w.heap.size w
  have hln1 := hl.lenle
  have hkid : (ix l (n - 1)).kid k ≠ 0 → _ := fun e => kid_in hl_ok (i := n - 1) (k := k) (by omega) (by omega) k0 k1 hv e
  have hkr := kid_rng hl_ok (i := n - 1) (by omega) (by omega) hv k k0 k1
  unfold Nd.kid at hkid hkr
  refine enter Try.func73 rfl rfl (w_seq (w_region (st (s_assign rfl (r_end (n_then (w_seq ?_)))))))
  refine w_region (st (s_move rfl (st (s_move rfl (st (s_sub rfl rfl (by omega) (st (s_move rfl (st (s_idx sl22 rfl rfl (hl.at0 hb0) (by omega) (by omega) ?_))))))))))
  rintro b1 o1 _ ⟨rfl, _⟩ hc1 hF1 hlt1
  have hl_1 := Loc.lt hF1
  refine st (s_faddr fld101_1 rfl (st (s_iaddr arr99 rfl rfl (by omega) (by omega) (st (s_load4 one3 rfl hc1 (j := 1) rfl rfl (by omega) (by omega) (st (s_assign rfl (r_end (n_then (w_seq ?_))))))))))
  refine w_seq (w_region (st (s_move rfl (st (s_eq rfl rfl (r_end (n_then ?_)))))))
  refine w_condP rfl (fun h1 => ?_) (fun h1 => ?_)
  · refine w_seq (w_region (st (s_assign rfl (r_end (n_then (w_ret1 rfl rfl ?_))))))
    exact ⟨_, rfl, hb0, by unfold innN Nd.kid; rw [if_neg (by omega)]⟩
  refine w_skip' (n_then (w_seq (w_region (st (s_move rfl (st (s_move rfl (st (s_sub rfl rfl (by omega) ?_)))))))))
  refine st (s_move rfl (st (s_sub rfl rfl (by omega) (st (s_idx sl22 rfl rfl (hl.at0 hb0) (by omega) (by omega) ?_)))))
  rintro b2 o2 _ ⟨rfl, _⟩ hc2 hF2 hlt2
  have hl_2 := Loc.lt hF2
  refine st (s_faddr fld101_1 rfl (st (s_iaddr arr99 rfl rfl (by omega) (by omega) (st (s_load4 one3 rfl hc2 (j := 1) rfl rfl (by omega) (by omega) (st (s_assign rfl (r_end (n_then (w_ret1 rfl rfl ?_))))))))))
  exact ⟨_, rfl, hb0, by unfold innN Nd.kid; rw [if_pos (by omega)]⟩

set_option maxHeartbeats 1000000 in
theorem clone_any {va : Value} {l : List Nd} {F : Nat → Prop} {w : World} (hl : Sl Kd.node w F va l) (hll : l.length ≤ 1000000) :
    Calls Try.prog 90 [va].toArray w (Pure w fun v w' => Gw.Own Kd.node 101 w.heap.size w' (fun _ => False) v (l)) := by
  have hb0 := Below.refl w.heap.size w
  have hln1 := hl.lenle
  refine enter Try.func90 rfl rfl (w_seq (w_region (st (s_assign rfl (r_end (n_then (w_seq ?_)))))))
  refine w_seq (w_region (st (s_move rfl (st (s_slnil sl22 rfl rfl (hl.at0 hb0) (r_end (n_then ?_)))))))
  refine w_cond rfl (fun h1 => ?_) (fun h1 => ?_)
  · refine w_seq (w_region (st (s_assign rfl (r_end (n_then (w_ret1 rfl rfl ?_))))))
    have e := nil_of_nilS (hl.at0 hb0) h1
    subst e
    exact ⟨_, rfl, hb0, Own.nil _ _ _ _ _⟩
  refine w_skip' (n_then (w_seq (w_region (st (s_bslice0 (K := Kd.node) (base := w.heap.size) (F := (fun _ => False)) sl22 (by omega) (fun _ h => h.elim) ?_)))))
  intro v1 w1 hO1 k1
  have hb1 := below_g0 hb0 k1
  have hz1 := hb1.size
  refine st (s_move rfl (st (s_append (K := Kd.node) sl22 rfl rfl hO1 ((hl.at0 hb1).weak (fun k hk h => h.elim (fun h => by first | exact h.elim | exact h | exact Or.inl h) (fun h => by have h9 := (hO1.lt k h).1; first | exact Or.inr h9 | (simp [Loc]; omega)))) node_ones (by simp; omega) (by simp; omega) (by first | exact Nat.le_refl _ | omega) (fun _ h => h.elim) ?_)))
  intro v2 w2 hO2 k2 hr1
  rw [List.nil_append] at hO2
  have hb2 := hb1.grown k2 hb1.size (fun k_ hk_ => (hO1.lt k_ hk_).1)
  have hz2 := hb2.size
  refine st (s_assign rfl (r_end (n_then (w_ret1 rfl rfl ?_))))
  exact ⟨_, rfl, hb2, hO2⟩

set_option maxHeartbeats 1000000 in
theorem rshrink_any {va : Value} {l : List Nd} {F : Nat → Prop} {w : World} (hl : Sl Kd.node w F va l) {n0 : Int} (hl_ok : looseB l = true) (hll : l.length ≤ 100000) (q0 : 0 ≤ n0) (q1 : n0 ≤ l.length) :
    Calls Try.prog 38 [va, .int .i64 n0].toArray w (Pure w fun v w' => ∃ L n sv, v = .tuple #[sv, .int .i64 n] ∧ Gw.Own Kd.node 101 w.heap.size w' (fun _ => False) sv (L) ∧ looseB L = true ∧ 0 ≤ n ∧ n ≤ L.length ∧ tr L n = shr0 (tr l n0) ∧ hol (tr L n) = false ∧ L.length ≤ l.length + 1329) := by
  have hb0 := Below.refl w.heap.size w
  have hln1 := hl.lenle
  have hlen := hasL_length l
  refine enter Try.func38 rfl rfl (w_seq (w_region (st (s_assign rfl (st (s_assign rfl (r_end (n_then ?_))))))))
  refine w_seq (w_region (st (s_bslice0 (K := Kd.node) (base := w.heap.size) (F := (fun _ => False)) sl22 (by omega) (fun _ h => h.elim) ?_)))
  intro v1 w1 hO1 k1
  have hb1 := below_g0 hb0 k1
  have hz1 := hb1.size
  refine st (s_move rfl (st (s_append (K := Kd.node) sl22 rfl rfl hO1 ((hl.at0 hb1).weak (fun k hk h => h.elim (fun h => by first | exact h.elim | exact h | exact Or.inl h) (fun h => by have h9 := (hO1.lt k h).1; first | exact Or.inr h9 | (simp [Loc]; omega)))) node_ones (by simp; omega) (by simp; omega) (by first | exact Nat.le_refl _ | omega) (fun _ h => h.elim) ?_)))
  intro v2 w2 hO2 k2 hr1
  rw [List.nil_append] at hO2
  have hb2 := hb1.grown k2 hb1.size (fun k_ hk_ => (hO1.lt k_ hk_).1)
  have hz2 := hb2.size
  refine st (s_assign rfl (r_end (n_then (w_seq (w_seq (w_region (st (s_move rfl ?_))))))))
  refine st (s_move rfl (st (s_call fn72 rfl (rempty_any hO2.sl hl_ok (by omega) (by omega) (by omega)) ?_)))
  rintro _ w3 ⟨hq1, rfl⟩
  have k3 := grown_of_below hq1 none
  have hz3 := hq1.size
  have hb3 := below_g0 hb2 k3
  have hz4 := hb3.size
  have hO3 := hO2.g0 k3
  refine r_end (n_then ?_)
  refine w_cond rfl (fun h1 => ?_) (fun h1 => ?_)
  · refine w_seq (w_region (st (s_move rfl (st (s_assign rfl (st (s_assign rfl (r_end (n_then ?_)))))))))
    refine w_ret2 rfl rfl rfl ?_
    obtain ⟨e1, e2⟩ := shr_nil hl_ok q0 q1 (by simpa using h1)
    exact ⟨_, rfl, hb3, _, _, _, rfl, hO3, hl_ok, by omega, by omega, e1, e2, by omega⟩
  have hemp := emp_has hl_ok q0 q1 (by simpa using h1)
  have hn1 := hemp.2
  refine w_skip' (n_then (w_seq (w_block (w_loop (α := Int × List Nd × Value) (fun ((n, L, vk) : Int × List Nd × Value) => [(1, .int .i64 n), (4, .slice none 0 0), (5, .int .i64 0), (6, vk)]) (fun ((n, L, vk) : Int × List Nd × Value) W => Below w.heap.size w W ∧ (1 ≤ n ∧ n ≤ L.length) ∧ (looseB L = true) ∧ (shr (tr L n) = shr (tr l n0)) ∧ ((L.length : Int) + (ix L (n - 1)).lv ≤ l.length + 1329) ∧ (Gw.Own Kd.node 101 w.heap.size W (fun _ => False) vk (L))) (fun ((n, L, vk) : Int × List Nd × Value) => ((ix L (n - 1)).lv).toNat) ((n0), (l), (v2)) ⟨hb3, by omega, hl_ok, rfl, by have := lv_in hl_ok (i := n0 - 1) (by omega) (by omega); omega, hO3⟩ (by exact ⟨rfl, rfl, rfl, rfl, trivial⟩) ?_))))
  rintro ⟨n, L, vk⟩ w4 ⟨hb4, hn, hLok, hT, hLl, hOk⟩
  dsimp only at *
  have hz5 := hb4.size
  have hlenL := hasL_length L
  have hlv := lv_in hLok (i := n - 1) (by omega) (by omega)
  refine w_seq (w_seq (w_region (st (s_move rfl (st (s_move rfl (st (s_call fn68 rfl (rhollow_any hOk.sl hLok (by omega) (by omega) (by omega)) ?_))))))))
  rintro _ w5 ⟨hq2, rfl⟩
  have k4 := grown_of_below hq2 none
  have hz6 := hq2.size
  have hb5 := below_g0 hb4 k4
  have hz7 := hb5.size
  have hO4 := hOk.g0 k4
  refine r_end (n_then ?_)
  refine w_cond rfl (fun h2 => ?_) (fun h2 => ?_)
  rotate_left
  · refine w_exit' (n_then_exit (n_then_exit (n_block_exit (n_then (w_seq (w_region ?_))))))
    refine st (s_move rfl (st (s_move rfl (st (s_assign rfl (st (s_assign rfl (r_end (n_then (w_ret2 rfl rfl rfl ?_))))))))))
    obtain ⟨e1, e2⟩ := shr_end hLok (by omega) (by omega) h2 hT hemp.1
    exact ⟨_, rfl, hb5, _, _, _, rfl, hO4, hLok, by omega, by omega, e1, e2, by omega⟩
  have hLv := ((hollowB_iff L n).1 h2).2.1
  refine w_skip' (n_then (w_block (w_seq (w_region (st (s_move rfl (st (s_move rfl ?_))))))))
  refine st (s_sub rfl rfl (by omega) (st (s_idx sl22 rfl rfl hO4.sl (by omega) (by omega) ?_)))
  rintro b1 o1 _ ⟨rfl, _⟩ hc1 hF1 hlt1
  refine st (s_faddr fld101_0 rfl (st (s_load one3 rfl hc1 (j := 0) rfl (st (s_sub rfl rfl (by omega) (st (s_build (ps := [(0, .tmp 25)]) (ccs := [#[.int .i64 ((ix L (n - 1)).lv - 1)]]) (cells := [.int .i64 ((ix L (n - 1)).lv - 1), .int .i64 0, .int .i64 0, .int .i64 0, .int .i64 0]) rfl rfl (by kernel_rfl) (st (s_alloc zero101 ?_)))))))))
  intro g1 w6 hg1 hB1 k5 hs1
  have hz8 := hb5.size
  have hn1 := own_new hO4 hg1
  have hb6 := below_g0 hb5 k5
  have hO5 := hO4.g0 k5
  refine st0 (s_storeN row101 rfl rfl hB1 rfl rfl rfl ?_)
  intro w7 hB2 k6 hs2
  have hb7 := below_g hb6 k6 (by first | omega | (have h9 := (hb6).size; omega))
  have hO6 := Own.keptN node_flat hO5 k6 hn1
  clear hB1
  refine r_end (n_then (w_seq (w_seq (w_region (st (s_assign rfl (r_end ?_)))))))
  refine n_then (w_block ?_)
  refine w_loop (α := Int × Int × Int × Int × Int) (fun ((k, a, b, c, e) : Int × Int × Int × Int × Int) => [(1, .int .i64 n), (4, .slice none 0 0), (5, .int .i64 0), (6, vk), (7, .pointer (some ⟨g1, 0, none⟩)), (8, .int .i64 k)]) (fun ((k, a, b, c, e) : Int × Int × Int × Int × Int) W => Below w.heap.size w W ∧ (0 ≤ k ∧ k ≤ 4) ∧ (∀ j : Int, 0 ≤ j → j < k → sel4 a b c e j = innN L n j) ∧ (Blk W g1 101 [.int .i64 ((ix L (n - 1)).lv - 1), .int .i64 a, .int .i64 b, .int .i64 c, .int .i64 e].toArray) ∧ (Gw.Own Kd.node 101 w.heap.size W (fun _ => False) vk (L))) (fun ((k, a, b, c, e) : Int × Int × Int × Int × Int) => (4 - k).toNat) ((0), (0), (0), (0), (0)) ⟨hb7, by omega, fun j _ _ => by omega, hB2, hO6⟩ (by exact ⟨rfl, rfl, rfl, rfl, rfl, rfl, trivial⟩) ?_
  rintro ⟨k, a, b, c, e⟩ w8 ⟨hb8, hk, ha, hBj, hOj⟩
  dsimp only at *
  have hz9 := hb8.size
  refine w_seq (w_seq (w_region (st (s_move rfl (st (s_lt rfl rfl (r_end (n_then ?_))))))))
  refine w_condP rfl (fun h3 => ?_) (fun h3 => ?_)
  · refine w_skip' (n_then (w_seq (w_block (w_region (st (s_move rfl (st (s_move rfl ?_))))))))
    refine st (s_move rfl (st (s_move rfl (st (s_call fn73 rfl (rinner_any hOj.sl hLok (by omega) (by omega) hLv (by omega) (by omega)) ?_)))))
    rintro _ w9 ⟨hq3, rfl⟩
    have k7 := grown_of_below hq3 none
    have hz10 := hq3.size
    have hb9 := below_g0 hb8 k7
    have hz11 := hb9.size
    have hO7 := hOj.g0 k7
    refine st (s_faddr fld101_1 rfl (st (s_iaddr arr99 rfl rfl (by omega) (by omega) (st0 (s_storeK one3 rfl rfl (hBj.g0 k7) (by omega) (by omega) ?_)))))
    intro w10 hB3 k8 hs3
    have hb10 := below_g hb9 k8 (by first | omega | (have h9 := (hb9).size; omega))
    have hO8 := Own.keptN node_flat hO7 k8 hn1
    refine r_end (n_block (n_then (w_region (st (s_move rfl (st (s_add rfl rfl (by omega) (st (s_assign rfl ?_)))))))))
    refine r_end ?_
    exact n_round (((k + 1)), ((if k = 0 then innN L n k else a)), ((if k = 1 then innN L n k else b)), ((if k = 2 then innN L n k else c)), ((if k = 3 then innN L n k else e))) ⟨hb10, by omega, sel4_step (by omega) (by omega) ha rfl, hB3, hO8⟩ (by omega) (by exact ⟨rfl, rfl, rfl, rfl, rfl, rfl, trivial⟩)
  refine w_exit' (n_then_exit (n_then_exit (n_block_exit (n_then (w_seq (w_region ?_))))))
  refine st (s_move rfl (st (s_loadW row101 rfl hBj.range rfl (st (s_bslice (ps := [(0, .tmp 39)]) (ccs := [#[.int .i64 ((ix L (n - 1)).lv - 1), .int .i64 a, .int .i64 b, .int .i64 c, .int .i64 e]]) (e := 101) (cells := [.int .i64 ((ix L (n - 1)).lv - 1), .int .i64 a, .int .i64 b, .int .i64 c, .int .i64 e]) rfl rfl (by kernel_rfl) (by decide) nz101 ?_)))))
  intro g2 w11 hg2 hB4 k9 hs4
  have hb11 := below_g0 hb8 k9
  have hz12 := hb11.size
  have hO9 := hOj.g0 k9
  have hS1 := lit_nodes (F := fun _ => False) ([⟨((ix L (n - 1)).lv - 1), a, b, c, e⟩] : List Nd) hB4 (fun h => h) rfl (by first | decide | simp)
  refine st (s_append (K := Kd.node) sl22 rfl rfl hO9 (lit_nodes (F := Out (fun _ => False) vk) ([⟨((ix L (n - 1)).lv - 1), a, b, c, e⟩] : List Nd) hB4 (fun h => h.elim id (fun h => by have h9 := (hOj.lt _ h).2; omega)) rfl (by first | decide | simp)) node_ones (by simp; omega) (by simp; omega) (by first | exact Nat.le_refl _ | omega) (fun _ h => h.elim) ?_)
  intro v3 w12 hO10 k10 hr3
  have hn2 := own_app hn1 hr3 (by have := (hBj.g0 k9).lt; omega)
  have hb12 := hb11.grown k10 hb11.size (fun k_ hk_ => (hO9.lt k_ hk_).1)
  have hz13 := hb12.size
  refine st (s_assign rfl (r_end (n_then (w_region (st (s_move rfl (st (s_len sl22 rfl hO10.sl (st (s_assign rfl ?_))))))))))
  refine r_end (n_block ?_)
  have hX : (⟨(ix L (n - 1)).lv - 1, a, b, c, e⟩ : Nd) = innX L n := innX_eq (fun j j0 j1 => ha j j0 (by omega))
  have hL9 := inn_loose hLok (by omega) (by omega) hLv
  have hl9 : ((L ++ [innX L n]).length : Int) = L.length + 1 := by simp
  have hi9 : (ix (L ++ [innX L n]) ((L.length : Int) + 1 - 1)) = innX L n := by rw [show (L.length : Int) + 1 - 1 = L.length by omega]; unfold ix; simp
  have hx9 : (innX L n).lv = (ix L (n - 1)).lv - 1 := rfl
  exact n_round ((((L ++ ([⟨((ix L (n - 1)).lv - 1), a, b, c, e⟩] : List Nd)).length : Int)), (L ++ ([⟨((ix L (n - 1)).lv - 1), a, b, c, e⟩] : List Nd)), (v3)) ⟨hb12, by dsimp only; rw [hX]; omega, by dsimp only; rw [hX]; exact hL9, by dsimp only; rw [hX, shr_step hLok (by omega) (by omega) h2, hT], by dsimp only; rw [hX, hl9, hi9, hx9]; omega, hO10⟩ (by dsimp only; rw [hX, hl9, hi9, hx9]; omega) (by exact ⟨rfl, rfl, rfl, rfl, trivial⟩)
end Go.Proofs.Ytfljelnfjbbknaa.Nd

set_option maxRecDepth 20000
set_option linter.unusedSimpArgs false
set_option linter.unusedVariables false
namespace Go.Proofs.Ytfljelnfjbbknaa.Nd
open Go.RowKit Go.Gw
set_option maxHeartbeats 1000000 in
theorem find_any {va : Value} {l : List Nd} {F : Nat → Prop} {w : World} (hl : Sl Kd.node w F va l) {x : Nd} :
    Calls Try.prog 74 [va, .agg x.cells.toArray].toArray w (Pure w fun v _ => v = .int .i64 (findN l x)) := by
  have hb0 := Below.refl w.heap.size w
  have hln1 := hl.lenle
  refine enter Try.func74 rfl rfl (w_seq (w_region (st (s_box rfl ?_))))
  intro g1 w1 hg1 hB1 k1 hs1
  have hb1 := below_g0 hb0 k1
  refine st (s_assign rfl (r_end (n_then (w_seq (w_seq (w_region (st (s_assign rfl ?_))))))))
  refine r_end (n_then (w_block (w_loop (α := Int) (fun (i : Int) => [(0, va), (3, .pointer (some ⟨g1, 0, none⟩)), (5, .int .i64 i)]) (fun (i : Int) W => Below w.heap.size w W ∧ (0 ≤ i ∧ i ≤ l.length) ∧ (∀ j : Int, 0 ≤ j → j < i → ix l j ≠ x) ∧ (Blk W g1 101 [.int .i64 x.lv, .int .i64 x.k0, .int .i64 x.k1, .int .i64 x.k2, .int .i64 x.k3].toArray)) (fun (i : Int) => (l.length - i).toNat) (0) ⟨hb1, by omega, fun j _ _ => by omega, hB1⟩ (by exact ⟨rfl, rfl, rfl, trivial⟩) ?_)))
  rintro i w2 ⟨hb2, hi, ha, hBl1⟩
  have hz1 := hb2.size
  refine w_seq (w_seq (w_region (st (s_move rfl (st (s_move rfl (st (s_len sl22 rfl (hl.at0 hb2) (st (s_lt rfl rfl ?_))))))))))
  refine r_end (n_then ?_)
  refine w_condP rfl (fun h1 => ?_) (fun h1 => ?_)
  rotate_left
  · refine w_exit' (n_then_exit (n_then_exit (n_block_exit (n_then (w_seq (w_region ?_))))))
    refine st (s_assign rfl (r_end (n_then (w_ret1 rfl rfl ?_))))
    exact ⟨_, rfl, hb2, by rw [find_no fun j j0 j1 => ha j j0 (by omega)]⟩
  refine w_skip' (n_then (w_seq (w_block (w_seq ?_))))
  obtain ⟨b1, o1, _, hat1, ⟨rfl, _⟩, hc1, hF1, hlt1⟩ := (hl.at0 hb2).elem i (by omega) (by omega)
  have hl_1 := Loc.lt hF1
  refine w_draw 6 (fun a b => a.grownBy b none) [(some 12, Is <| va), (some 13, Is <| .int .i64 i), (some 14, Is <| .pointer (some ⟨b1, o1, none⟩)), (some 15, Is <| .agg [.int .i64 ((ix l i).lv), .int .i64 ((ix l i).k0), .int .i64 ((ix l i).k1), .int .i64 ((ix l i).k2), .int .i64 ((ix l i).k3)].toArray), (some 16, Is <| .agg [.int .i64 x.lv, .int .i64 x.k0, .int .i64 x.k1, .int .i64 x.k2, .int .i64 x.k3].toArray), (some 17, Is <| .bool (decide ((ix l i) = x)))] [[], [], [0, 1], [2], [], [3, 4]] [(0, va), (3, .pointer (some ⟨g1, 0, none⟩)), (5, .int .i64 i)] (by exact ⟨rfl, rfl, rfl, trivial⟩) (by kernel_rfl) (by kernel_rfl) grown_none_refl (fun _ _ _ => grown_none_trans) ⟨kv, kv, kv, kv, kv, kv, trivial⟩ ?_
  intro w3 k2 hs2
  have hb3 := below_g0 hb2 k2
  refine ⟨⟨?_, ?_, ?_, ?_, ?_, ?_, trivial⟩, ?_⟩
  · intro w4 k3
    refine op1 (s_move rfl ?_)
    exact ⟨rfl, grown_none_refl _⟩
  · intro w5 k4
    refine op1 (s_move rfl ?_)
    exact ⟨rfl, grown_none_refl _⟩
  · intro w6 k5
    intro v_ hv_; subst v_
    rintro _ rfl
    refine op1 (s_idxat sl22 rfl rfl hat1 ?_)
    exact ⟨rfl, grown_none_refl _⟩
  · intro w7 k6
    rintro _ rfl
    refine op1 (s_loadW row101 rfl (range_g0 (range_g0 hc1 k2) k6) rfl ?_)
    exact ⟨rfl, grown_none_refl _⟩
  · intro w8 k7
    refine op1 (s_loadW row101 rfl ((hBl1.g0 k2).g0 k7).range rfl ?_)
    exact ⟨rfl, grown_none_refl _⟩
  · intro w9 k8
    rintro _ rfl _ rfl
    refine op1 (s_eqnode eqNode rfl rfl ?_)
    exact ⟨rfl, grown_none_refl _⟩
  intro w10 k9
  have hb10 := below_g0 hb3 k9
  intro v_ hv_; subst v_
  rintro _ rfl _ rfl _ rfl _ rfl _ rfl
  refine r_end (n_then ?_)
  refine w_condP rfl (fun h2 => ?_) (fun h2 => ?_)
  · refine w_seq (w_region (st (s_move rfl (st (s_add rfl rfl (by omega) (st (s_assign rfl (r_end (n_then ?_)))))))))
    refine w_ret1 rfl rfl ?_
    exact ⟨_, rfl, hb10, by rw [find_at i (by omega) (by omega) ha h2]⟩
  refine w_skip' (n_block (n_then (w_region (st (s_move rfl (st (s_add rfl rfl (by omega) (st (s_assign rfl ?_)))))))))
  refine r_end ?_
  exact n_round ((i + 1)) ⟨hb10, by omega, fun j j0 j1 => if q : j = i then by rw [q]; exact h2 else ha j j0 (by omega), ((hBl1.g0 k2).g0 k9)⟩ (by omega) (by exact ⟨rfl, rfl, rfl, trivial⟩)

theorem visit_any {a0 a1 : World} {va ve vd : Value} {l : List Nd} {F : Nat → Prop} (hl : Sl Kd.node a0 F va l) (hle1 : Sl Kd.bool a1 (fun g => vd.ownBlock = some g) ve (emptL l)) (hl_ok : looseB l = true) (hll : l.length ≤ 1000000) :
    ∀ (f : Nat) {w : World} {vo : Value} {o : List Nd} {dn : List Int} {n : Int}, n < f → 0 ≤ n → n ≤ l.length → Frm (fun g => vd.ownBlock = some g) a1 (.slice none 0 0) w vo → Below a0.heap.size a0 w → Gw.Own Kd.node 101 a0.heap.size w (fun _ => False) vo o → Gw.Own (Kd.num .i64) 3 a0.heap.size w (fun _ => False) vd dn →
    dn.length = l.length + 1 → DInv l dn o → CanL o → o.length ≤ cntP dn → Calls Try.prog 39 [va, ve, .int .i64 n, vo, vd].toArray w (Ret fun v w' => ∃ vo' dn', v = .tuple #[vo', vd, .int .i64 (vis (tr l n) o).2] ∧ Below a0.heap.size a0 w' ∧
      Gw.Own Kd.node 101 a0.heap.size w' (fun _ => False) vo' (vis (tr l n) o).1 ∧ Gw.Own (Kd.num .i64) 3 a0.heap.size w' (fun _ => False) vd dn' ∧ dn'.length = l.length + 1 ∧ DInv l dn' (vis (tr l n) o).1 ∧ CanL (vis (tr l n) o).1 ∧ (vis (tr l n) o).1.length ≤ cntP dn' ∧
      (∀ i : Int, n < i → ix dn' i = ix dn i) ∧ (emp (tr l n) = true → dn' = dn) ∧ Frm (fun g => vd.ownBlock = some g) w vo w' vo') := by
  intro f
  induction f with
  | zero =>
    intro w vo o dn n hnf hn0 hn1b hFr hb0 hE hDo hdl0 hdi0 hcan0 hcnt0
    omega
  | succ f ih =>
    intro w vo o dn n hnf hn0 hn1b hFr hb0 hE hDo hdl0 hdi0 hcan0 hcnt0
    have hnf2 : n ≤ (f : Int) := by omega
    have hz0 := hb0.size
    have hF0 := Frm.refl (fun g => vd.ownBlock = some g) w vo
    have hlen := emptL_length l
    have hle := hle1.frm bool_flat hFr
    have hln1 := hl.lenle
    have hln2 := hle.lenle
    refine enter Try.func39 rfl rfl (w_seq (w_region (st (s_assign rfl (st (s_assign rfl (st (s_assign rfl (r_end ?_)))))))))
    refine n_then (w_seq (w_seq (w_region (st (s_move rfl (st (s_move rfl (st (s_idx sl68 rfl rfl hle (by omega) (by omega) ?_)))))))))
    rintro b1 o1 _ ⟨rfl, _⟩ hc1 hF1 hlt1
    refine st (s_load one4 rfl hc1 (j := 0) rfl (r_end (n_then ?_)))
    refine w_cond rfl (fun h1 => ?_) (fun h1 => ?_)
    · rw [emptL_at l _ (by omega) (by omega)] at h1
      have hz : ix (hasL l) n = false := by simpa using h1
      rw [has_tr hl_ok n (by omega) (by omega)] at hz
      have hemp : emp (tr l n) = true := by simpa using hz
      refine w_seq (w_region (st (s_move rfl (st (s_move rfl (st (s_assign rfl (st (s_assign rfl (st (s_assign rfl ?_)))))))))))
      refine r_end (n_then (w_ret3 rfl rfl rfl rfl ?_))
      have hv : vis (tr l n) o = (o, 0) := vis_emp _ _ hemp
      refine ⟨_, rfl, vo, dn, ?_, hb0, ?_, hDo, hdl0, ?_, ?_, ?_, fun _ _ => rfl, fun _ => rfl, hF0⟩
      · rw [hv]
      · rw [hv]; exact hE
      · rw [hv]; exact hdi0
      · rw [hv]; exact hcan0
      · rw [hv]; exact hcnt0
    rw [emptL_at l _ (by omega) (by omega)] at h1
    have hz : ix (hasL l) n = true := by simpa using h1
    have hemp := emp_has hl_ok (by omega) (by omega) hz
    have hn1p := hemp.2
    have hkr := kid_rng hl_ok (i := n - 1) (by omega) (by omega)
    refine w_skip' (n_then (w_seq (w_seq (w_region (st (s_move rfl (st (s_move rfl ?_))))))))
    refine st (s_idx sl65 rfl rfl hDo.sl (by omega) (by omega) ?_)
    rintro b2 o2 _ ⟨rfl, _⟩ hc2 hF2 hlt2
    refine st (s_load one3 rfl hc2 (j := 0) rfl (st (s_gt rfl rfl (r_end (n_then ?_)))))
    refine w_condP rfl (fun h2 => ?_) (fun h2 => ?_)
    · refine w_seq ?_
      obtain ⟨b3, o3, _, hat1, ⟨rfl, _⟩, hc3, hF3, hlt3⟩ := hDo.sl.elem n (by omega) (by omega)
      refine w_draw 8 (fun a b => a.grownBy b none) [(some 27, Is <| vo), (some 28, Is <| vd), (some 29, Is <| vd), (some 30, Is <| .int .i64 n), (some 31, Is <| .pointer (some ⟨b3, o3, none⟩)), (some 32, Is <| .int .i64 (ix dn n)), (some 10, Is <| vo), (some 11, Is <| vd)] [[], [], [], [], [2, 3], [4], [0], [1]] [(0, va), (1, ve), (2, .int .i64 n), (3, vo), (4, vd), (12, .int .i64 0)] (by exact ⟨rfl, rfl, rfl, rfl, rfl, rfl, trivial⟩) (by kernel_rfl) (by kernel_rfl) grown_none_refl (fun _ _ _ => grown_none_trans) ⟨kv, kv, kv, kv, kv, kv, kv, kv, trivial⟩ ?_
      intro w1 k1 hs1
      have hb1 := below_g0 hb0 k1
      have hF4 := hF0.none k1
      have hO1 := hE.g0 k1
      have hO2 := hDo.g0 k1
      refine ⟨⟨?_, ?_, ?_, ?_, ?_, ?_, ?_, ?_, trivial⟩, ?_⟩
      · intro w2 k2
        refine op1 (s_move rfl ?_)
        exact ⟨rfl, grown_none_refl _⟩
      · intro w3 k3
        refine op1 (s_move rfl ?_)
        exact ⟨rfl, grown_none_refl _⟩
      · intro w4 k4
        refine op1 (s_move rfl ?_)
        exact ⟨rfl, grown_none_refl _⟩
      · intro w5 k5
        refine op1 (s_move rfl ?_)
        exact ⟨rfl, grown_none_refl _⟩
      · intro w6 k6
        intro v_ hv_; subst v_
        rintro _ rfl
        refine op1 (s_idxat sl65 rfl rfl hat1 ?_)
        exact ⟨rfl, grown_none_refl _⟩
      · intro w7 k7
        rintro _ rfl
        refine op1 (s_load one3 rfl (range_g0 (range_g0 hc3 k1) k7) (j := 0) rfl ?_)
        exact ⟨rfl, grown_none_refl _⟩
      · intro w8 k8
        intro v_ hv_; subst v_
        refine op1 (s_assign rfl ?_)
        exact ⟨rfl, grown_none_refl _⟩
      · intro w9 k9
        intro v_ hv_; subst v_
        refine op1 (s_assign rfl ?_)
        exact ⟨rfl, grown_none_refl _⟩
      intro w10 k10
      have hb10 := below_g0 hb1 k10
      have hF13 := hF4.none k10
      have hO19 := hO1.g0 k10
      have hO20 := hO2.g0 k10
      intro v_ hv_; subst v_
      intro v_ hv_; subst v_
      intro v_ hv_; subst v_
      rintro _ rfl _ rfl _ rfl
      intro v_ hv_; subst v_
      intro v_ hv_; subst v_
      refine st (s_assign rfl (r_end (n_then (w_ret3 rfl rfl rfl rfl ?_))))
      have hv : vis (tr l n) o = (o, ix dn n) := hdi0 n (by omega) (by omega) h2
      refine ⟨_, rfl, vo, dn, ?_, hb10, ?_, hO20, hdl0, ?_, ?_, ?_, fun _ _ => rfl, fun _ => rfl, hF13⟩
      · rw [hv]
      · rw [hv]; exact hO19
      · rw [hv]; exact hdi0
      · rw [hv]; exact hcan0
      · rw [hv]; exact hcnt0
    refine w_skip' (n_then (w_seq (w_region (st (s_move rfl (st (s_move rfl (st (s_sub rfl rfl (by omega) ?_)))))))))
    refine st (s_idx sl22 rfl rfl (hl.at0 hb0) (by omega) (by omega) ?_)
    rintro b4 o4 _ ⟨rfl, _⟩ hc4 hF14 hlt4
    have hl_1 := Loc.lt hF14
    refine st (s_loadW row101 rfl hc4 rfl (st (s_alloc zero101 ?_)))
    intro g1 w11 hg1 hB1 k11 hs2
    have hz1 := hb0.size
    have hn1 := own_new hE hg1
    have hb11 := below_g0 hb0 k11
    have hF15 := hF0.none k11
    have hO21 := hE.g0 k11
    have hO22 := hDo.g0 k11
    refine st0 (s_storeN row101 rfl rfl hB1 rfl rfl rfl ?_)
    intro w12 hB2 k12 hs3
    have hb12 := below_g hb11 k12 (by first | omega | (have h9 := (hb11).size; omega))
    have hF16 := hF15.put k12 (by first | exact .inr (by omega) | exact .inl (by assumption) | exact .inl (.inl rfl) | exact .inl (.inr rfl) | exact .inl (.inr (.inl rfl)) | exact .inl (.inr (.inr rfl)))
    have hO23 := Own.keptN node_flat hO21 k12 hn1
    have hO24 := Own.keptF (num_flat _) hO22 k12 (hO22.ne_blk hB1 (by decide))
    clear hB1
    refine r_end (n_then (w_seq (w_seq (w_region (st (s_assign rfl (r_end ?_)))))))
    refine n_then (w_block ?_)
    have hxd : vd.ownBlock ≠ some g1 := by
      rcases hO24.ne_blk hB2 (by decide) with h_ | h_
      · rw [h_]; simp
      · exact h_
    refine w_loop (α := Int × List Nd × Value × List Int × Int × Int × Int × Int) (fun ((k, ok, vk, dk, a, b, c, e) : Int × List Nd × Value × List Int × Int × Int × Int × Int) => [(0, va), (1, ve), (2, .int .i64 n), (3, vk), (4, vd), (10, .slice none 0 0), (11, .slice none 0 0), (12, .int .i64 0), (13, .pointer (some ⟨g1, 0, none⟩)), (14, .int .i64 k)]) (fun ((k, ok, vk, dk, a, b, c, e) : Int × List Nd × Value × List Int × Int × Int × Int × Int) W => Below a0.heap.size a0 W ∧ (0 ≤ k ∧ k ≤ 4 ∧ (¬ 1 < (ix l (n - 1)).lv → k = 0)) ∧ (St4 l (ix l (n - 1)) o k ok a b c e) ∧ (Blk W g1 101 [.int .i64 ((ix l (n - 1)).lv), .int .i64 a, .int .i64 b, .int .i64 c, .int .i64 e].toArray) ∧ (Gw.Own Kd.node 101 a0.heap.size W (fun _ => False) vk ok) ∧ (Gw.Own (Kd.num .i64) 3 a0.heap.size W (fun _ => False) vd dk) ∧ (dk.length = l.length + 1) ∧ (DInv l dk ok) ∧ (CanL ok) ∧ (ok.length ≤ cntP dk) ∧ (∀ i : Int, n ≤ i → ix dk i = ix dn i) ∧ (Frm (fun g => vd.ownBlock = some g) w vo W vk) ∧ (vk.ownBlock ≠ some g1)) (fun ((k, ok, vk, dk, a, b, c, e) : Int × List Nd × Value × List Int × Int × Int × Int × Int) => (4 - k).toNat) ((0), (o), (vo), (dn), ((ix l (n - 1)).k0), ((ix l (n - 1)).k1), ((ix l (n - 1)).k2), ((ix l (n - 1)).k3)) ⟨hb12, ⟨by omega, by omega, fun _ => rfl⟩, st4_zero l (ix l (n - 1)) o, hB2, hO23, hO24, hdl0, hdi0, hcan0, hcnt0, fun _ _ => rfl, hF16, hn1⟩ (by exact ⟨rfl, rfl, rfl, rfl, rfl, rfl, rfl, rfl, rfl, rfl, trivial⟩) ?_
    rintro ⟨k, ok, vk, dk, a, b, c, e⟩ w13 ⟨hb13, hk, hst, hBx, hOk, hDk, hdl, hdi, hcan, hcnt, hhi, hFk, hne⟩
    dsimp only at *
    have hz2 := hb13.size
    refine w_seq (w_seq (w_region (st (s_move rfl (st (s_lt rfl rfl (st (s_move rfl ?_))))))))
    refine r_caseP 40 rfl (fun h3 => ?_) (fun h3 => ?_)
    rotate_left
    · refine s_pass rfl rfl (s_pass rfl rfl (s_pass rfl rfl (st (s_pick rfl rfl (r_end (n_then (w_condF rfl ?_)))))))
      refine w_exit' (n_then_exit (n_then_exit (n_block_exit (n_then (w_seq (w_region ?_))))))
      refine st (s_move rfl (st (s_loadW row101 rfl hBx.range rfl (st (s_call fn74 rfl (find_any (x := (⟨(ix l (n - 1)).lv, a, b, c, e⟩ : Nd)) hOk.sl) ?_)))))
      rintro _ w21 ⟨hq2, rfl⟩
      have k20 := grown_of_below hq2 none
      have hb21 := below_g0 hb13 k20
      have hz7 := hb21.size
      have hF25 := hFk.none k20
      have hO39 := hOk.g0 k20
      have hO40 := hDk.g0 k20
      refine st (s_assign rfl (r_end (n_then (w_seq (w_seq (w_region (st (s_move rfl ?_))))))))
      refine st (s_eq rfl rfl (r_end (n_then ?_)))
      refine w_condP rfl (fun h6 => ?_) (fun h6 => ?_)
      rotate_left
      · refine w_skip' (n_then (w_seq (w_region (st (s_move rfl (st (s_move rfl (st (s_move rfl ?_)))))))))
        refine st (s_oidx sl65 rfl rfl hO40 (by omega) (by omega) ?_)
        intro g7 hg7 hl_8 hl_9
        refine st0 (s_ostore one3 rfl rfl rfl rfl hO40 hg7 (by omega) (by omega) ⟨rfl, trivial⟩ ?_)
        intro w25 hO47 k24 hs10
        have hb25 := below_g hb21 k24 (by first | omega | (have h9 := (hb21).size; omega))
        have hF29 := hF25.put k24 (by first | exact .inr (by omega) | exact .inl (by assumption) | exact .inl (.inl rfl) | exact .inl (.inr rfl) | exact .inl (.inr (.inl rfl)) | exact .inl (.inr (.inr rfl)))
        have hO48 := Own.keptF node_flat hO39 k24 (by rw [← hg7]; exact hO39.ne_own hO40 (by decide))
        refine r_end (n_then (w_seq (w_region (st (s_move rfl (st (s_move rfl (st (s_move rfl ?_)))))))))
        refine st (s_assign rfl (st (s_assign rfl (st (s_assign rfl (r_end (n_then (w_ret3 rfl rfl rfl rfl ?_))))))))
        have hv0 : vis (tr l n) o = intr ok (⟨(ix l (n - 1)).lv, a, b, c, e⟩ : Nd) := st4_end hl_ok hn1p hn1b hst (if q : 1 < (ix l (n - 1)).lv then .inl ⟨by omega, q⟩ else .inr ⟨hk.2.2 q, q⟩)
        have hnz : (intr ok (⟨(ix l (n - 1)).lv, a, b, c, e⟩ : Nd)).2 ≠ 0 := by rw [← hv0]; intro e_; have := (vis_zero (tr l n) o).2.2.1 e_; rw [hemp.1] at this; cases this
        have hv : vis (tr l n) o = (ok, (findN ok (⟨(ix l (n - 1)).lv, a, b, c, e⟩ : Nd))) := by rw [hv0, (intr_find hnz).2 h6]
        have hlo : 0 ≤ (findN ok (⟨(ix l (n - 1)).lv, a, b, c, e⟩ : Nd)) := find_ge _ _
        have hs9 := vis_self (t := tr l n) o
        rw [hv] at hs9
        have hc9 := (vis_can (tr l n) (wf_tr hl_ok n hn0 hn1b (ix l (n - 1)).lv (fun _ => rfl)) hcan0).1
        rw [hv] at hc9
        have hd9 := cntP_set dk n.toNat ((findN ok (⟨(ix l (n - 1)).lv, a, b, c, e⟩ : Nd))) (by omega) (by have := hhi n (Int.le_refl _); unfold ix at this; rw [this]; exact h2) (by omega)
        refine ⟨_, rfl, vk, _, ?_, hb25, ?_, hO47, ?_, ?_, ?_, ?_, fun i_ hi_ => ?_, fun e_ => ?_, hF29⟩
        · rw [hv]
        · rw [hv]; exact hO48
        · rw [List.length_set]; exact hdl
        · rw [hv]; exact dinv_set (dinv_mono hdi (by first | exact List.prefix_refl _ | exact List.prefix_append _ _)) hn0 (by omega) hs9
        · rw [hv]; exact hc9
        · rw [hv]; rw [hd9]; simp only; omega
        · rw [ix_set _ _ _ _ hn0 (by omega) (by omega), if_neg (by omega)]; exact hhi i_ (by omega)
        · rw [hemp.1] at e_; cases e_
      refine w_seq (w_region (st (s_move rfl (st (s_loadW row101 rfl (hBx.g0 k20).range rfl (st (s_bslice (ps := [(0, .tmp 69)]) (ccs := [#[.int .i64 ((ix l (n - 1)).lv), .int .i64 a, .int .i64 b, .int .i64 c, .int .i64 e]]) (e := 101) (cells := [.int .i64 ((ix l (n - 1)).lv), .int .i64 a, .int .i64 b, .int .i64 c, .int .i64 e]) rfl rfl (by kernel_rfl) (by decide) nz101 ?_)))))))
      intro g5 w22 hg5 hB6 k21 hs8
      have hb22 := below_g0 hb21 k21
      have hz8 := hb22.size
      have hF26 := hF25.none k21
      have hO41 := hO39.g0 k21
      have hO42 := hO40.g0 k21
      have hS2 := lit_nodes (F := fun _ => False) ([⟨(ix l (n - 1)).lv, a, b, c, e⟩] : List Nd) hB6 (fun h => h) rfl (by first | decide | simp)
      refine st (s_append (K := Kd.node) sl22 rfl rfl hO41 (lit_nodes (F := Out (fun _ => False) vk) ([⟨(ix l (n - 1)).lv, a, b, c, e⟩] : List Nd) hB6 (fun h => h.elim id (fun h => by have h9 := (hO39.lt _ h).2; omega)) rfl (by first | decide | simp)) node_ones (by have := cntP_le dk; simp; omega) (by have := cntP_le dk; simp; omega) (by first | exact Nat.le_refl _ | omega) (fun _ h => h.elim) ?_)
      intro v2 w23 hO43 k22 hr6
      have hn4 := own_app hne hr6 (by have := ((hBx.g0 k20).g0 k21).lt; omega)
      have hb23 := hb22.grown k22 hb22.size (fun k_ hk_ => (hO41.lt k_ hk_).1)
      have hz9 := hb23.size
      have hF27 := hF26.row k22 hr6
      have hO44 := Own.keptF (num_flat _) hO42 k22 (hO42.ne_own hO41 (by decide))
      refine st (s_assign rfl (r_end (n_then (w_region (st (s_move rfl (st (s_len sl22 rfl hO43.sl (st (s_assign rfl ?_))))))))))
      refine r_end (n_then (w_seq (w_region (st (s_move rfl (st (s_move rfl (st (s_move rfl ?_)))))))))
      refine st (s_oidx sl65 rfl rfl hO44 (by omega) (by omega) ?_)
      intro g6 hg6 hl_6 hl_7
      refine st0 (s_ostore one3 rfl rfl rfl rfl hO44 hg6 (by omega) (by omega) ⟨rfl, trivial⟩ ?_)
      intro w24 hO45 k23 hs9
      have hb24 := below_g hb23 k23 (by first | omega | (have h9 := (hb23).size; omega))
      have hF28 := hF27.put k23 (by first | exact .inr (by omega) | exact .inl (by assumption) | exact .inl (.inl rfl) | exact .inl (.inr rfl) | exact .inl (.inr (.inl rfl)) | exact .inl (.inr (.inr rfl)))
      have hO46 := Own.keptF node_flat hO43 k23 (by rw [← hg6]; exact hO43.ne_own hO44 (by decide))
      refine r_end (n_then (w_seq (w_region (st (s_move rfl (st (s_move rfl (st (s_move rfl ?_)))))))))
      refine st (s_assign rfl (st (s_assign rfl (st (s_assign rfl (r_end (n_then (w_ret3 rfl rfl rfl rfl ?_))))))))
      have hv0 : vis (tr l n) o = intr ok (⟨(ix l (n - 1)).lv, a, b, c, e⟩ : Nd) := st4_end hl_ok hn1p hn1b hst (if q : 1 < (ix l (n - 1)).lv then .inl ⟨by omega, q⟩ else .inr ⟨hk.2.2 q, q⟩)
      have hnz : (intr ok (⟨(ix l (n - 1)).lv, a, b, c, e⟩ : Nd)).2 ≠ 0 := by rw [← hv0]; intro e_; have := (vis_zero (tr l n) o).2.2.1 e_; rw [hemp.1] at this; cases this
      have hv : vis (tr l n) o = (ok ++ ([⟨(ix l (n - 1)).lv, a, b, c, e⟩] : List Nd), ((ok ++ ([⟨(ix l (n - 1)).lv, a, b, c, e⟩] : List Nd)).length : Int)) := by rw [hv0, (intr_find hnz).1 h6]; simp
      have hlo : (((ok ++ ([⟨(ix l (n - 1)).lv, a, b, c, e⟩] : List Nd)).length : Nat) : Int) = (ok.length : Int) + 1 := by simp
      have hs9 := vis_self (t := tr l n) o
      rw [hv] at hs9
      have hc9 := (vis_can (tr l n) (wf_tr hl_ok n hn0 hn1b (ix l (n - 1)).lv (fun _ => rfl)) hcan0).1
      rw [hv] at hc9
      have hd9 := cntP_set dk n.toNat (((ok ++ ([⟨(ix l (n - 1)).lv, a, b, c, e⟩] : List Nd)).length : Int)) (by omega) (by have := hhi n (Int.le_refl _); unfold ix at this; rw [this]; exact h2) (by omega)
      refine ⟨_, rfl, v2, _, ?_, hb24, ?_, hO45, ?_, ?_, ?_, ?_, fun i_ hi_ => ?_, fun e_ => ?_, hF28⟩
      · rw [hv]
      · rw [hv]; exact hO46
      · rw [List.length_set]; exact hdl
      · rw [hv]; exact dinv_set (dinv_mono hdi (by first | exact List.prefix_refl _ | exact List.prefix_append _ _)) hn0 (by omega) hs9
      · rw [hv]; exact hc9
      · rw [hv]; rw [hd9]; simp only [List.length_append, List.length_singleton]; omega
      · rw [ix_set _ _ _ _ hn0 (by omega) (by omega), if_neg (by omega)]; exact hhi i_ (by omega)
      · rw [hemp.1] at e_; cases e_
    refine stg (s_faddr fld101_0 rfl (stg (s_load one3 rfl hBx.range (j := 0) rfl (stg (s_gt rfl rfl (st (s_pick rfl rfl (r_end (n_then ?_)))))))))
    refine w_condP rfl (fun h4 => ?_) (fun h4 => ?_)
    · refine w_skip' (n_then (w_seq (w_block (w_region (st (s_move rfl (st (s_move rfl ?_))))))))
      refine st (s_move rfl (st (s_move rfl (st (s_faddr fld101_1 rfl (st (s_iaddr arr99 rfl rfl (by omega) (by omega) (st (s_load4 one3 rfl hBx.range (j := 1) rfl rfl (by omega) (by omega) (st (s_move rfl (st (s_move rfl ?_)))))))))))))
      have hcn : (sel4 a b c e k) = (ix l (n - 1)).kid k := st4_kid hst hk.1 (by omega)
      have hkr2 := hkr (by omega) k hk.1 (by omega)
      refine st (s_call fn39 rfl (ih (n := (sel4 a b c e k)) (by omega) (by omega) (by omega) (hFr.trans hFk) hb13 hOk hDk hdl hdi hcan hcnt) ?_)
      rintro _ w14 ⟨vo1, dn1, rfl, hb14, hO25, hO26, hp1, hp2, hp3, hp4, hp5, hp6, hp7⟩
      have hz3 := hb14.size
      have hB3 := Blk.frm hBx hp7 (fun h_ => hxd h_) hne
      have hn2 := (hp7.2 _ hBx.lt (fun h_ => hxd h_) hne).2
      have hF18 := hFk.trans hp7
      refine st (s_move rfl (st (s_extract rfl rfl (st (s_extract rfl rfl (st (s_extract rfl rfl (st (s_assign rfl (st (s_assign rfl (st (s_faddr fld101_1 rfl ?_)))))))))))))
      refine st (s_iaddr arr99 rfl rfl (by omega) (by omega) (st0 (s_storeK one3 rfl rfl hB3 (by omega) (by omega) ?_)))
      intro w15 hB4 k14 hs4
      have hb15 := below_g hb14 k14 (by first | omega | (have h9 := (hb14).size; omega))
      have hF19 := hF18.put k14 (by first | exact .inr (by omega) | exact .inl (by assumption) | exact .inl (.inl rfl) | exact .inl (.inr rfl) | exact .inl (.inr (.inl rfl)) | exact .inl (.inr (.inr rfl)))
      have hO27 := Own.keptF (num_flat _) hO26 k14 (hO26.ne_blk hB3 (by decide))
      have hO28 := Own.keptN node_flat hO25 k14 hn2
      clear hB3
      refine r_end (n_block (n_then (w_region (st (s_move rfl (st (s_add rfl rfl (by omega) (st (s_assign rfl ?_)))))))))
      refine r_end ?_
      have hcn2 := hcn
      exact n_round (((k + 1)), ((vis (tr l ((sel4 a b c e k))) ok).1), (vo1), (dn1), ((if k = 0 then (vis (tr l ((sel4 a b c e k))) ok).2 else a)), ((if k = 1 then (vis (tr l ((sel4 a b c e k))) ok).2 else b)), ((if k = 2 then (vis (tr l ((sel4 a b c e k))) ok).2 else c)), ((if k = 3 then (vis (tr l ((sel4 a b c e k))) ok).2 else e))) ⟨hb15, by dsimp only; omega, by dsimp only; rw [hcn]; exact st4_step hst hk.1 (by omega) rfl, hB4, hO28, hO27, hp1, hp2, hp3, hp4, fun i_ hi_ => (hp5 i_ (by omega)).trans (hhi i_ hi_), hF19, hn2⟩ (by omega) (by exact ⟨rfl, rfl, rfl, rfl, rfl, rfl, rfl, rfl, rfl, rfl, trivial⟩)
    refine w_exit' (n_then_exit (n_then_exit (n_block_exit (n_then (w_seq (w_region ?_))))))
    refine st (s_move rfl (st (s_loadW row101 rfl hBx.range rfl (st (s_call fn74 rfl (find_any (x := (⟨(ix l (n - 1)).lv, a, b, c, e⟩ : Nd)) hOk.sl) ?_)))))
    rintro _ w16 ⟨hq1, rfl⟩
    have k15 := grown_of_below hq1 none
    have hb16 := below_g0 hb13 k15
    have hz4 := hb16.size
    have hF20 := hFk.none k15
    have hO29 := hOk.g0 k15
    have hO30 := hDk.g0 k15
    refine st (s_assign rfl (r_end (n_then (w_seq (w_seq (w_region (st (s_move rfl ?_))))))))
    refine st (s_eq rfl rfl (r_end (n_then ?_)))
    refine w_condP rfl (fun h5 => ?_) (fun h5 => ?_)
    rotate_left
    · refine w_skip' (n_then (w_seq (w_region (st (s_move rfl (st (s_move rfl (st (s_move rfl ?_)))))))))
      refine st (s_oidx sl65 rfl rfl hO30 (by omega) (by omega) ?_)
      intro g4 hg4 hl_4 hl_5
      refine st0 (s_ostore one3 rfl rfl rfl rfl hO30 hg4 (by omega) (by omega) ⟨rfl, trivial⟩ ?_)
      intro w20 hO37 k19 hs7
      have hb20 := below_g hb16 k19 (by first | omega | (have h9 := (hb16).size; omega))
      have hF24 := hF20.put k19 (by first | exact .inr (by omega) | exact .inl (by assumption) | exact .inl (.inl rfl) | exact .inl (.inr rfl) | exact .inl (.inr (.inl rfl)) | exact .inl (.inr (.inr rfl)))
      have hO38 := Own.keptF node_flat hO29 k19 (by rw [← hg4]; exact hO29.ne_own hO30 (by decide))
      refine r_end (n_then (w_seq (w_region (st (s_move rfl (st (s_move rfl (st (s_move rfl ?_)))))))))
      refine st (s_assign rfl (st (s_assign rfl (st (s_assign rfl (r_end (n_then (w_ret3 rfl rfl rfl rfl ?_))))))))
      have hv0 : vis (tr l n) o = intr ok (⟨(ix l (n - 1)).lv, a, b, c, e⟩ : Nd) := st4_end hl_ok hn1p hn1b hst (if q : 1 < (ix l (n - 1)).lv then .inl ⟨by omega, q⟩ else .inr ⟨hk.2.2 q, q⟩)
      have hnz : (intr ok (⟨(ix l (n - 1)).lv, a, b, c, e⟩ : Nd)).2 ≠ 0 := by rw [← hv0]; intro e_; have := (vis_zero (tr l n) o).2.2.1 e_; rw [hemp.1] at this; cases this
      have hv : vis (tr l n) o = (ok, (findN ok (⟨(ix l (n - 1)).lv, a, b, c, e⟩ : Nd))) := by rw [hv0, (intr_find hnz).2 h5]
      have hlo : 0 ≤ (findN ok (⟨(ix l (n - 1)).lv, a, b, c, e⟩ : Nd)) := find_ge _ _
      have hs9 := vis_self (t := tr l n) o
      rw [hv] at hs9
      have hc9 := (vis_can (tr l n) (wf_tr hl_ok n hn0 hn1b (ix l (n - 1)).lv (fun _ => rfl)) hcan0).1
      rw [hv] at hc9
      have hd9 := cntP_set dk n.toNat ((findN ok (⟨(ix l (n - 1)).lv, a, b, c, e⟩ : Nd))) (by omega) (by have := hhi n (Int.le_refl _); unfold ix at this; rw [this]; exact h2) (by omega)
      refine ⟨_, rfl, vk, _, ?_, hb20, ?_, hO37, ?_, ?_, ?_, ?_, fun i_ hi_ => ?_, fun e_ => ?_, hF24⟩
      · rw [hv]
      · rw [hv]; exact hO38
      · rw [List.length_set]; exact hdl
      · rw [hv]; exact dinv_set (dinv_mono hdi (by first | exact List.prefix_refl _ | exact List.prefix_append _ _)) hn0 (by omega) hs9
      · rw [hv]; exact hc9
      · rw [hv]; rw [hd9]; simp only; omega
      · rw [ix_set _ _ _ _ hn0 (by omega) (by omega), if_neg (by omega)]; exact hhi i_ (by omega)
      · rw [hemp.1] at e_; cases e_
    refine w_seq (w_region (st (s_move rfl (st (s_loadW row101 rfl (hBx.g0 k15).range rfl (st (s_bslice (ps := [(0, .tmp 69)]) (ccs := [#[.int .i64 ((ix l (n - 1)).lv), .int .i64 a, .int .i64 b, .int .i64 c, .int .i64 e]]) (e := 101) (cells := [.int .i64 ((ix l (n - 1)).lv), .int .i64 a, .int .i64 b, .int .i64 c, .int .i64 e]) rfl rfl (by kernel_rfl) (by decide) nz101 ?_)))))))
    intro g2 w17 hg2 hB5 k16 hs5
    have hb17 := below_g0 hb16 k16
    have hz5 := hb17.size
    have hF21 := hF20.none k16
    have hO31 := hO29.g0 k16
    have hO32 := hO30.g0 k16
    have hS1 := lit_nodes (F := fun _ => False) ([⟨(ix l (n - 1)).lv, a, b, c, e⟩] : List Nd) hB5 (fun h => h) rfl (by first | decide | simp)
    refine st (s_append (K := Kd.node) sl22 rfl rfl hO31 (lit_nodes (F := Out (fun _ => False) vk) ([⟨(ix l (n - 1)).lv, a, b, c, e⟩] : List Nd) hB5 (fun h => h.elim id (fun h => by have h9 := (hO29.lt _ h).2; omega)) rfl (by first | decide | simp)) node_ones (by have := cntP_le dk; simp; omega) (by have := cntP_le dk; simp; omega) (by first | exact Nat.le_refl _ | omega) (fun _ h => h.elim) ?_)
    intro v1 w18 hO33 k17 hr5
    have hn3 := own_app hne hr5 (by have := ((hBx.g0 k15).g0 k16).lt; omega)
    have hb18 := hb17.grown k17 hb17.size (fun k_ hk_ => (hO31.lt k_ hk_).1)
    have hz6 := hb18.size
    have hF22 := hF21.row k17 hr5
    have hO34 := Own.keptF (num_flat _) hO32 k17 (hO32.ne_own hO31 (by decide))
    refine st (s_assign rfl (r_end (n_then (w_region (st (s_move rfl (st (s_len sl22 rfl hO33.sl (st (s_assign rfl ?_))))))))))
    refine r_end (n_then (w_seq (w_region (st (s_move rfl (st (s_move rfl (st (s_move rfl ?_)))))))))
    refine st (s_oidx sl65 rfl rfl hO34 (by omega) (by omega) ?_)
    intro g3 hg3 hl_2 hl_3
    refine st0 (s_ostore one3 rfl rfl rfl rfl hO34 hg3 (by omega) (by omega) ⟨rfl, trivial⟩ ?_)
    intro w19 hO35 k18 hs6
    have hb19 := below_g hb18 k18 (by first | omega | (have h9 := (hb18).size; omega))
    have hF23 := hF22.put k18 (by first | exact .inr (by omega) | exact .inl (by assumption) | exact .inl (.inl rfl) | exact .inl (.inr rfl) | exact .inl (.inr (.inl rfl)) | exact .inl (.inr (.inr rfl)))
    have hO36 := Own.keptF node_flat hO33 k18 (by rw [← hg3]; exact hO33.ne_own hO34 (by decide))
    refine r_end (n_then (w_seq (w_region (st (s_move rfl (st (s_move rfl (st (s_move rfl ?_)))))))))
    refine st (s_assign rfl (st (s_assign rfl (st (s_assign rfl (r_end (n_then (w_ret3 rfl rfl rfl rfl ?_))))))))
    have hv0 : vis (tr l n) o = intr ok (⟨(ix l (n - 1)).lv, a, b, c, e⟩ : Nd) := st4_end hl_ok hn1p hn1b hst (if q : 1 < (ix l (n - 1)).lv then .inl ⟨by omega, q⟩ else .inr ⟨hk.2.2 q, q⟩)
    have hnz : (intr ok (⟨(ix l (n - 1)).lv, a, b, c, e⟩ : Nd)).2 ≠ 0 := by rw [← hv0]; intro e_; have := (vis_zero (tr l n) o).2.2.1 e_; rw [hemp.1] at this; cases this
    have hv : vis (tr l n) o = (ok ++ ([⟨(ix l (n - 1)).lv, a, b, c, e⟩] : List Nd), ((ok ++ ([⟨(ix l (n - 1)).lv, a, b, c, e⟩] : List Nd)).length : Int)) := by rw [hv0, (intr_find hnz).1 h5]; simp
    have hlo : (((ok ++ ([⟨(ix l (n - 1)).lv, a, b, c, e⟩] : List Nd)).length : Nat) : Int) = (ok.length : Int) + 1 := by simp
    have hs9 := vis_self (t := tr l n) o
    rw [hv] at hs9
    have hc9 := (vis_can (tr l n) (wf_tr hl_ok n hn0 hn1b (ix l (n - 1)).lv (fun _ => rfl)) hcan0).1
    rw [hv] at hc9
    have hd9 := cntP_set dk n.toNat (((ok ++ ([⟨(ix l (n - 1)).lv, a, b, c, e⟩] : List Nd)).length : Int)) (by omega) (by have := hhi n (Int.le_refl _); unfold ix at this; rw [this]; exact h2) (by omega)
    refine ⟨_, rfl, v1, _, ?_, hb19, ?_, hO35, ?_, ?_, ?_, ?_, fun i_ hi_ => ?_, fun e_ => ?_, hF23⟩
    · rw [hv]
    · rw [hv]; exact hO36
    · rw [List.length_set]; exact hdl
    · rw [hv]; exact dinv_set (dinv_mono hdi (by first | exact List.prefix_refl _ | exact List.prefix_append _ _)) hn0 (by omega) hs9
    · rw [hv]; exact hc9
    · rw [hv]; rw [hd9]; simp only [List.length_append, List.length_singleton]; omega
    · rw [ix_set _ _ _ _ hn0 (by omega) (by omega), if_neg (by omega)]; exact hhi i_ (by omega)
    · rw [hemp.1] at e_; cases e_
end Go.Proofs.Ytfljelnfjbbknaa.Nd

set_option maxRecDepth 20000
set_option linter.unusedSimpArgs false
set_option linter.unusedVariables false
namespace Go.Proofs.Ytfljelnfjbbknaa.Nd
open Go.RowKit Go.Gw
set_option maxHeartbeats 1000000 in
theorem emptiesO_any {va : Value} {l : List Nd} {F : Nat → Prop} {w : World} (hl : Sl Kd.node w F va l) (hl_ok : looseB l = true) (hll : l.length ≤ 1000000) :
    Calls Try.prog 40 [va].toArray w (Pure w fun v w' => Gw.Own Kd.bool 4 w.heap.size w' (fun _ => False) v (emptL l)) := by
  have hb0 := Below.refl w.heap.size w
  have hln1 := hl.lenle
  refine enter Try.func40 rfl rfl (w_seq (w_region (st (s_assign rfl (r_end (n_then (w_seq ?_)))))))
  refine w_region (st (s_move rfl (st (s_len sl22 rfl (hl.at0 hb0) (st (s_add rfl rfl (by omega) (st (s_make (K := Kd.bool) (base := w.heap.size) (F := (fun _ => False)) sl68 rfl (by omega) (by omega) (by omega) (fun _ _ => ⟨rfl, trivial⟩) (by omega) (fun _ h => h.elim) ?_))))))))
  intro v1 w1 hO1 k1
  have hb1 := below_g0 hb0 k1
  have hz1 := hb1.size
  refine st (s_assign rfl (r_end (n_then (w_seq (w_region (st (s_move rfl (st (s_oidx sl68 rfl rfl hO1 (by omega) (by first | (rw [List.length_replicate]; omega) | (rw [partE_length l i hi.1 (by omega)]; omega)) ?_)))))))))
  intro g1 hg1 hl_1 hl_2
  refine st0 (s_ostore one4 rfl rfl rfl rfl hO1 hg1 (by omega) (by first | (rw [List.length_replicate]; omega) | (rw [partE_length l i hi.1 (by omega)]; omega)) ⟨rfl, trivial⟩ ?_)
  intro w2 hO2 k2 hs1
  have hb2 := below_g hb1 k2 (by first | omega | (have h9 := (hb1).size; omega))
  refine r_end (n_then (w_seq (w_seq (w_region (st (s_assign rfl (r_end ?_)))))))
  refine n_then (w_block (w_loop (α := Int) (fun (i : Int) => [(0, va), (2, .slice none 0 0), (3, v1), (4, .int .i64 i)]) (fun (i : Int) W => Below w.heap.size w W ∧ (0 ≤ i ∧ i ≤ l.length) ∧ (Gw.Own Kd.bool 4 w.heap.size W (fun _ => False) v1 (partE l i))) (fun (i : Int) => (l.length - i).toNat) (0) ⟨hb2, by omega, by rw [← partE_zero]; exact hO2⟩ (by exact ⟨rfl, rfl, rfl, rfl, trivial⟩) ?_))
  rintro i w3 ⟨hb3, hi, hO⟩
  have hz2 := hb3.size
  refine w_seq (w_seq (w_region (st (s_move rfl (st (s_move rfl (st (s_len sl22 rfl (hl.at0 hb3) (st (s_lt rfl rfl ?_))))))))))
  refine r_end (n_then ?_)
  refine w_condP rfl (fun h1 => ?_) (fun h1 => ?_)
  rotate_left
  · refine w_exit' (n_then_exit (n_then_exit (n_block_exit (n_then (w_seq (w_region ?_))))))
    refine st (s_move rfl (st (s_assign rfl (r_end (n_then (w_ret1 rfl rfl ?_))))))
    have e : i = (l.length : Int) := by omega
    refine ⟨_, rfl, hb3, ?_⟩
    rw [← partE_end l, ← e]
    exact hO
  have hlt := h1
  refine w_skip' (n_then (w_seq (w_block (w_seq (w_region (st (s_assign rfl ?_)))))))
  refine r_end (n_then (w_seq (w_seq (w_region (st (s_assign rfl (r_end ?_)))))))
  refine n_then (w_block (w_loop (α := Int × Bool) (fun ((k, em) : Int × Bool) => [(0, va), (2, .slice none 0 0), (3, v1), (4, .int .i64 i), (5, .bool em), (6, .int .i64 k)]) (fun ((k, em) : Int × Bool) W => Below w.heap.size w W ∧ (0 ≤ k ∧ k ≤ 4) ∧ (em = emptK (ix l i) (partE l i) k) ∧ (Gw.Own Kd.bool 4 w.heap.size W (fun _ => False) v1 (partE l i))) (fun ((k, em) : Int × Bool) => (4 - k).toNat) ((0), (true)) ⟨hb3, by omega, by rw [emptK_zero], hO⟩ (by exact ⟨rfl, rfl, rfl, rfl, rfl, rfl, trivial⟩) ?_))
  rintro ⟨k, em⟩ w4 ⟨hb4, hk, he, hO2⟩
  dsimp only at *
  have hz3 := hb4.size
  refine w_seq (w_seq (w_region (st (s_move rfl (st (s_lt rfl rfl (r_end (n_then ?_))))))))
  refine w_condP rfl (fun h2 => ?_) (fun h2 => ?_)
  rotate_left
  · refine w_exit' (n_then_exit (n_then_exit (n_block_exit (n_then (w_region (st (s_move rfl ?_)))))))
    refine st (s_move rfl (st (s_add rfl rfl (by omega) (st (s_move rfl (st (s_oidx sl68 rfl rfl hO2 (by omega) (by first | (rw [List.length_replicate]; omega) | (rw [partE_length l i hi.1 (by omega)]; omega)) ?_)))))))
    intro g2 hg2 hl_5 hl_6
    refine st0 (s_ostore one4 rfl rfl rfl rfl hO2 hg2 (by omega) (by first | (rw [List.length_replicate]; omega) | (rw [partE_length l i hi.1 (by omega)]; omega)) ⟨rfl, trivial⟩ ?_)
    intro w5 hO3 k3 hs2
    have hb5 := below_g hb4 k3 (by first | omega | (have h9 := (hb4).size; omega))
    refine r_end (n_block (n_then (w_region (st (s_move rfl (st (s_add rfl rfl (by omega) (st (s_assign rfl ?_)))))))))
    refine r_end ?_
    exact n_round ((i + 1)) ⟨hb5, by omega, by rw [← partE_set l i hi.1 hlt (okAt_kids hl_ok hi.1 hlt) (lv_in hl_ok hi.1 hlt).1, show (4 : Int) = k by omega, ← he]; exact hO3⟩ (by omega) (by exact ⟨rfl, rfl, rfl, rfl, trivial⟩)
  refine w_skip' (n_then (w_seq (w_block (w_seq (w_region (st (s_move rfl ?_)))))))
  refine st (s_move rfl (st (s_move rfl (st (s_idx sl22 rfl rfl (hl.at0 hb4) (by omega) (by omega) ?_)))))
  rintro b1 o1 _ ⟨rfl, _⟩ hc1 hF1 hlt1
  have hl_3 := Loc.lt hF1
  refine st (s_faddr fld101_1 rfl (st (s_iaddr arr99 rfl rfl (by omega) (by omega) (st (s_load4 one3 rfl hc1 (j := 1) rfl rfl (by omega) (by omega) (st (s_assign rfl (r_end (n_then (w_region ?_))))))))))
  refine st (s_move rfl (st (s_move rfl ?_)))
  refine r_case 32 rfl (fun h3 => ?_) (fun h3 => ?_)
  rotate_left
  · refine s_pass rfl rfl (s_pass rfl rfl (s_pass rfl rfl (s_passU rfl rfl (s_passU rfl rfl (s_passU rfl rfl (s_passU rfl rfl ?_))))))
    refine s_passU rfl rfl (s_passU rfl rfl (s_passU rfl rfl (s_passU rfl rfl (s_passU rfl rfl (s_passU rfl rfl (s_passU rfl rfl ?_))))))
    refine s_passU rfl rfl (s_pass rfl rfl (st (s_pick rfl rfl (st (s_assign rfl (r_end (n_block (n_then ?_))))))))
    refine w_region (st (s_move rfl (st (s_add rfl rfl (by omega) (st (s_assign rfl (r_end ?_)))))))
    exact n_round (((k + 1)), (false)) ⟨hb4, by omega, by rw [emptK_step _ _ _ hk.1 (by omega), ← he]; simp [Nd.kid, h1, h2, h3], hO2⟩ (by omega) (by exact ⟨rfl, rfl, rfl, rfl, rfl, rfl, trivial⟩)
  refine stg (s_move rfl (stg (s_eq rfl rfl (stg (s_move rfl ?_)))))
  refine r_caseP 35 rfl (fun h4 => ?_) (fun h4 => ?_)
  · refine s_pass rfl rfl (s_pass rfl rfl (s_pass rfl rfl (s_pass rfl rfl (s_pass rfl rfl (s_pass rfl rfl (s_pass rfl rfl ?_))))))
    refine s_passU rfl rfl (s_passU rfl rfl (s_passU rfl rfl (s_passU rfl rfl (s_pass rfl rfl (stg (s_pick rfl rfl (st (s_pick rfl rfl ?_))))))))
    refine st (s_assign rfl (r_end (n_block (n_then (w_region (st (s_move rfl (st (s_add rfl rfl (by omega) ?_)))))))))
    refine st (s_assign rfl (r_end ?_))
    exact n_round (((k + 1)), (true)) ⟨hb4, by omega, by rw [emptK_step _ _ _ hk.1 (by omega), ← he]; simp [Nd.kid, h1, h2, h3, h4], hO2⟩ (by omega) (by exact ⟨rfl, rfl, rfl, rfl, rfl, rfl, trivial⟩)
  refine stg (s_move rfl (stg (s_move rfl (stg (s_idx sl22 rfl rfl (hl.at0 hb4) (by omega) (by omega) ?_)))))
  rintro b2 o2 _ ⟨rfl, _⟩ hc2 hF2 hlt2
  have hl_4 := Loc.lt hF2
  refine stg (s_faddr fld101_0 rfl (stg (s_load one3 rfl hc2 (j := 0) rfl (stg (s_gt rfl rfl (stg (s_move rfl ?_)))))))
  refine r_caseP 42 rfl (fun h5 => ?_) (fun h5 => ?_)
  rotate_left
  · refine s_pass rfl rfl (s_pass rfl rfl (s_pass rfl rfl (s_pass rfl rfl (stg (s_pick rfl rfl (stg (s_pick rfl rfl (st (s_pick rfl rfl ?_)))))))))
    refine st (s_assign rfl (r_end (n_block (n_then (w_region (st (s_move rfl (st (s_add rfl rfl (by omega) ?_)))))))))
    refine st (s_assign rfl (r_end ?_))
    exact n_round (((k + 1)), (false)) ⟨hb4, by omega, by rw [emptK_step _ _ _ hk.1 (by omega), ← he]; simp [Nd.kid, h2, h3, h4, h5], hO2⟩ (by omega) (by exact ⟨rfl, rfl, rfl, rfl, rfl, rfl, trivial⟩)
  have hkid := kid_in hl_ok (i := i) (k := k) hi.1 hlt hk.1 (by omega) (by omega) (by simpa [Nd.kid] using h4)
  unfold Nd.kid at hkid
  have hpl := partE_length l i hi.1 (by omega)
  refine stg (s_move rfl (stg (s_move rfl (stg (s_idx sl68 rfl rfl hO2.sl (by omega) (by omega) ?_)))))
  rintro b3 o3 _ ⟨rfl, _⟩ hc3 hF3 hlt3
  refine stg (s_load one4 rfl hc3 (j := 0) rfl (stg (s_pick rfl rfl (stg (s_pick rfl rfl (st (s_pick rfl rfl (st (s_assign rfl (r_end (n_block ?_)))))))))))
  refine n_then (w_region (st (s_move rfl (st (s_add rfl rfl (by omega) (st (s_assign rfl (r_end ?_))))))))
  exact n_round (((k + 1)), ((ix (partE l i) (sel4 ((ix l i).k0) ((ix l i).k1) ((ix l i).k2) ((ix l i).k3) k)))) ⟨hb4, by omega, by rw [emptK_step _ _ _ hk.1 (by omega), ← he]; simp [Nd.kid, h2, h3, h4, h5], hO2⟩ (by omega) (by exact ⟨rfl, rfl, rfl, rfl, rfl, rfl, trivial⟩)

set_option maxHeartbeats 1000000 in
theorem rof_any {va : Value} {l : List Nd} {F : Nat → Prop} {w : World} (hl : Sl Kd.node w F va l) {n : Int} (hll : l.length ≤ 100000) :
    Calls Try.prog 11 [va, .int .i64 n].toArray w (Pure w fun v w' => ∃ sv, v = .tuple #[.agg #[sv], .int .i64 (ofL l n).2] ∧ Sl Kd.node w' (fun _ => False) sv (ofL l n).1) := by
  have hb0 := Below.refl w.heap.size w
  have hln1 := hl.lenle
  refine enter Try.func11 rfl rfl (w_seq (w_region (st (s_alloc zero25 ?_))))
  intro g1 w1 hg1 hB1 k1 hs1
  have hz1 := hb0.size
  have hb1 := below_g0 hb0 k1
  refine st (s_assign rfl (r_end (n_then (w_seq (w_seq (w_region (st (s_move rfl ?_))))))))
  refine st (s_call fn37 rfl (rloose_any (hl.at0 hb1)) ?_)
  rintro _ w2 ⟨hq1, rfl⟩
  have k2 := grown_of_below hq1 none
  have hz2 := hq1.size
  have hb2 := below_g0 hb1 k2
  have hz3 := hb2.size
  refine st (s_not rfl (st (s_move rfl ?_)))
  refine r_case 14 rfl (fun h1 => ?_) (fun h1 => ?_)
  · refine s_pass rfl rfl (s_pass rfl rfl (st (s_pick rfl rfl (st (s_move rfl (s_pass rfl rfl (s_pass rfl rfl (s_pass rfl rfl ?_))))))))
    refine s_pass rfl rfl (st (s_pick rfl rfl (r_end (n_then (w_condT rfl (w_seq (w_region ?_)))))))
    refine st (s_build (ps := []) (ccs := []) (cells := [.slice none 0 0]) rfl rfl (by kernel_rfl) (st0 (s_storeN row25 rfl rfl (hB1.g0 k2) rfl rfl rfl ?_)))
    intro w3 hB2 k3 hs2
    have hb3 := below_g hb2 k3 (by first | omega | (have h9 := (hb2).size; omega))
    refine st (s_assign rfl (r_end (n_then (w_retc2 rfl row25 rfl rfl hB2.range rfl ?_))))
    refine ⟨_, rfl, hb3, .slice none 0 0, ?_, ?_⟩
    · rw [of_no (by first | exact .inl (by simpa using h1) | exact .inr (by omega))]
    · rw [of_no (by first | exact .inl (by simpa using h1) | exact .inr (by omega))]; exact (Own.nil Kd.node 101 0 _ _).sl
  have hl_ok : looseB l = true := by simpa using h1
  refine stg (s_move rfl (stg (s_lt rfl rfl (st (s_pick rfl rfl (st (s_move rfl ?_)))))))
  refine r_caseP 18 rfl (fun h2 => ?_) (fun h2 => ?_)
  · refine s_pass rfl rfl (s_pass rfl rfl (s_pass rfl rfl (s_pass rfl rfl (st (s_pick rfl rfl (r_end (n_then ?_)))))))
    refine w_condT rfl (w_seq (w_region (st (s_build (ps := []) (ccs := []) (cells := [.slice none 0 0]) rfl rfl (by kernel_rfl) (st0 (s_storeN row25 rfl rfl (hB1.g0 k2) rfl rfl rfl ?_))))))
    intro w4 hB3 k4 hs3
    have hb4 := below_g hb2 k4 (by first | omega | (have h9 := (hb2).size; omega))
    refine st (s_assign rfl (r_end (n_then (w_retc2 rfl row25 rfl rfl hB3.range rfl ?_))))
    refine ⟨_, rfl, hb4, .slice none 0 0, ?_, ?_⟩
    · rw [of_no (by first | exact .inl (by simpa using h1) | exact .inr (by omega))]
    · rw [of_no (by first | exact .inl (by simpa using h1) | exact .inr (by omega))]; exact (Own.nil Kd.node 101 0 _ _).sl
  refine stg (s_move rfl (stg (s_move rfl (stg (s_len sl22 rfl (hl.at0 hb2) (stg (s_gt rfl rfl (st (s_pick rfl rfl (r_end (n_then ?_)))))))))))
  refine w_condP rfl (fun h3 => ?_) (fun h3 => ?_)
  · refine w_seq (w_region (st (s_build (ps := []) (ccs := []) (cells := [.slice none 0 0]) rfl rfl (by kernel_rfl) (st0 (s_storeN row25 rfl rfl (hB1.g0 k2) rfl rfl rfl ?_)))))
    intro w5 hB4 k5 hs4
    have hb5 := below_g hb2 k5 (by first | omega | (have h9 := (hb2).size; omega))
    refine st (s_assign rfl (r_end (n_then (w_retc2 rfl row25 rfl rfl hB4.range rfl ?_))))
    refine ⟨_, rfl, hb5, .slice none 0 0, ?_, ?_⟩
    · rw [of_no (by first | exact .inl (by simpa using h1) | exact .inr (by omega))]
    · rw [of_no (by first | exact .inl (by simpa using h1) | exact .inr (by omega))]; exact (Own.nil Kd.node 101 0 _ _).sl
  refine w_skip' (n_then (w_seq (w_region (st (s_move rfl (st (s_move rfl (st (s_call fn38 rfl (rshrink_any (n0 := n) (hl.at0 hb2) hl_ok hll (by omega) (by omega)) ?_)))))))))
  rintro _ w6 ⟨hq2, L1, n1, v1, rfl, hS1, hLok1, hn1, hn2, hT1, hH1, hLl1⟩
  have k6 := grown_of_below hq2 none
  have hz4 := hq2.size
  have hO1 := Own.rebase hS1 hb2.size
  have hb6 := below_g0 hb2 k6
  have hz5 := hb6.size
  have hlen9 := emptL_length L1
  refine st (s_move rfl (st (s_extract rfl rfl (st (s_extract rfl rfl (st (s_assign rfl (st (s_assign rfl (r_end (n_then ?_)))))))))))
  refine w_seq ?_
  refine w_drawC 15 (fun a b => Below w6.heap.size a b) (Big0 w6.heap.size) (fun a b => Below w6.heap.size a b) [(some 32, fun v _ => v = v1), (some 33, fun v _ => v = v1), (some 34, fun v W => Gw.Own Kd.bool 4 w6.heap.size W (fun _ => False) v (emptL L1)), (some 35, fun v _ => v = .int .i64 n1), (some 36, fun v _ => v = v1), (some 37, fun v _ => v = .int .i64 (L1.length : Int)), (some 38, fun v _ => v = .int .i64 ((L1.length : Int) + 1)), (some 39, fun v W => Gw.Own (Kd.num .i64) 3 w6.heap.size W (fun _ => False) v (List.replicate (((L1.length : Int) + 1)).toNat 0)), (some 40, fun v W => ∃ s_ d_, v = .tuple #[s_, d_, .int .i64 (vis (tr L1 n1) []).2] ∧ Gw.Own Kd.node 101 w6.heap.size W (fun _ => False) s_ (vis (tr L1 n1) []).1), (some 31, fun v W => ∃ s_ d_, v = .tuple #[s_, d_, .int .i64 (vis (tr L1 n1) []).2] ∧ Gw.Own Kd.node 101 w6.heap.size W (fun _ => False) s_ (vis (tr L1 n1) []).1), (some 41, fun v W => Gw.Own Kd.node 101 w6.heap.size W (fun _ => False) v ((vis (tr L1 n1) []).1)), (some 42, fun _ _ => True), (some 43, fun v _ => v = .int .i64 (vis (tr L1 n1) []).2), (some 8, fun v W => Gw.Own Kd.node 101 w6.heap.size W (fun _ => False) v ((vis (tr L1 n1) []).1)), (some 9, fun _ _ => True)] [[], [], [1], [], [], [4], [5], [6], [0, 2, 3, 7], [8], [9], [9], [9], [10], [11]] [[], [], [], [], [], [], [], [], [], [8], [9, 8], [], [], [10, 9, 8], []] [[], [], [8], [], [], [], [], [8], [], [], [], [], [], [], []] [false, false, false, false, false, false, false, false, true, false, false, false, false, false, false] [true, true, false, true, true, true, true, false, false, false, false, true, true, false, true] [(4, .pointer (some ⟨g1, 0, none⟩)), (5, .int .i64 0), (6, v1), (7, .int .i64 n1)] (by exact ⟨rfl, rfl, rfl, rfl, trivial⟩) (by kernel_rfl) (by kernel_rfl) (by kernel_rfl) rfl (Below.refl _) (fun _ _ _ h k => h.trans k) (fun _ _ h => h.below) (fun _ _ h => h) ⟨fun _ _ _ h _ => by exact h, fun _ _ _ h _ => by exact h, fun _ _ _ h _ => by exact h, fun _ _ _ h _ => by exact h, fun _ _ _ h k => h.g0 k.2, fun _ _ _ h _ => by exact h, fun _ _ _ h _ => by exact h, fun _ _ _ h _ => by exact h, fun _ _ _ h _ => by exact h, fun _ _ _ h _ => by exact h, fun _ _ _ h _ => by exact h, fun _ _ _ h _ => by exact h, fun _ _ _ h _ => by exact h, fun _ _ _ h k => h.g0 k.2, fun _ _ _ h k => by obtain ⟨s_, d_, e_, h_⟩ := h; exact ⟨s_, d_, e_, h_.g0 k.2⟩, fun _ _ _ h k => by obtain ⟨s_, d_, e_, h_⟩ := h; exact ⟨s_, d_, e_, h_.g0 k.2⟩, fun _ _ _ h k => h.g0 k.2, fun _ _ _ h _ => by exact h, fun _ _ _ h _ => by exact h, fun _ _ _ h _ => by exact h, fun _ _ _ h _ => by exact h, fun _ _ _ h k => h.g0 k.2, fun _ _ _ h _ => by exact h, fun _ _ _ h _ => by exact h, trivial⟩ ?_
  intro w7 k7 hs5
  have hb7 := below_g0 hb6 k7
  have hO2 := hO1.g0 k7
  refine ⟨⟨?_, ?_, ?_, ?_, ?_, ?_, ?_, ?_, ?_, ?_, ?_, ?_, ?_, ?_, ?_, trivial⟩, ?_⟩
  · intro w8z_ kb_
    have kg_ := grown_of_below (show Below w7.heap.size w7 w8z_ by rw [hs5]; exact kb_) none
    have hb_ := below_g0 hb7 kg_
    have hz_ := hb_.size
    have he_ := kb_.size
    exact op1 (s_move rfl ⟨rfl, ⟨by omega, World.grownBy.refl _ _⟩⟩)
  · intro w8z_ kb_
    have kg_ := grown_of_below (show Below w7.heap.size w7 w8z_ by rw [hs5]; exact kb_) none
    have hb_ := below_g0 hb7 kg_
    have hz_ := hb_.size
    have he_ := kb_.size
    exact op1 (s_move rfl ⟨rfl, ⟨by omega, World.grownBy.refl _ _⟩⟩)
  · intro w8z_ kb_
    have kg_ := grown_of_below (show Below w7.heap.size w7 w8z_ by rw [hs5]; exact kb_) none
    have hb_ := below_g0 hb7 kg_
    have hz_ := hb_.size
    have he_ := kb_.size
    intro v_ hv_; subst v_
    refine op1 (s_call fn40 rfl (emptiesO_any (hO2.g0 kg_).sl hLok1 (by omega)) ?_)
    rintro vz_ wz_ ⟨hqz_, hSz_⟩
    exact ⟨hSz_.rebase (by omega), ⟨by omega, grown_of_below hqz_ none⟩⟩
  · intro w8z_ kb_
    have kg_ := grown_of_below (show Below w7.heap.size w7 w8z_ by rw [hs5]; exact kb_) none
    have hb_ := below_g0 hb7 kg_
    have hz_ := hb_.size
    have he_ := kb_.size
    exact op1 (s_move rfl ⟨rfl, ⟨by omega, World.grownBy.refl _ _⟩⟩)
  · intro w8z_ kb_
    have kg_ := grown_of_below (show Below w7.heap.size w7 w8z_ by rw [hs5]; exact kb_) none
    have hb_ := below_g0 hb7 kg_
    have hz_ := hb_.size
    have he_ := kb_.size
    exact op1 (s_move rfl ⟨rfl, ⟨by omega, World.grownBy.refl _ _⟩⟩)
  · intro w8z_ kb_
    have kg_ := grown_of_below (show Below w7.heap.size w7 w8z_ by rw [hs5]; exact kb_) none
    have hb_ := below_g0 hb7 kg_
    have hz_ := hb_.size
    have he_ := kb_.size
    intro v_ hv_; subst v_
    exact op1 (s_len sl22 rfl (hO2.g0 kg_).sl ⟨rfl, ⟨by omega, World.grownBy.refl _ _⟩⟩)
  · intro w8z_ kb_
    have kg_ := grown_of_below (show Below w7.heap.size w7 w8z_ by rw [hs5]; exact kb_) none
    have hb_ := below_g0 hb7 kg_
    have hz_ := hb_.size
    have he_ := kb_.size
    rintro _ rfl
    exact op1 (s_add rfl rfl (by omega) ⟨rfl, ⟨by omega, World.grownBy.refl _ _⟩⟩)
  · intro w8z_ kb_
    have kg_ := grown_of_below (show Below w7.heap.size w7 w8z_ by rw [hs5]; exact kb_) none
    have hb_ := below_g0 hb7 kg_
    have hz_ := hb_.size
    have he_ := kb_.size
    rintro _ rfl
    refine op1 (s_make (K := (Kd.num .i64)) (base := w6.heap.size) (F := fun _ => False) sl65 rfl (by omega) (by omega) (by omega) (fun _ _ => ⟨rfl, trivial⟩) (by omega) (fun _ h => h.elim) ?_)
    intro vz_ wz_ hz_ kz_
    exact ⟨hz_, ⟨by omega, kz_⟩⟩
  · intro w8z_ kb_
    have kg_ := grown_of_below (show Below w7.heap.size w7 w8z_ by rw [hs5]; exact kb_) none
    have hb_ := below_g0 hb7 kg_
    have hz_ := hb_.size
    have he_ := kb_.size
    intro v_ hv_; subst v_
    rintro vez_ hez_ _ rfl vdz_ hdz_
    refine op1 (s_call fn39 rfl (visit_any (a0 := w7) (a1 := w8z_) hO2.sl (hez_.sl_ne bool_flat (hez_.ne_own hdz_ (by decide))) hLok1 (by omega) (L1.length + 1) (n := n1) (by omega) (by omega) (by omega) (Frm.refl _ _ _) (by rw [hs5]; exact kb_) (Own.nil _ _ _ _ _) (by rw [hs5]; exact hdz_) (by rw [List.length_replicate]; omega) (dinv_none _ _) can_nil (Nat.zero_le _)) ?_)
    rintro _ wz_ ⟨vz_, dz_, rfl, hbz_, hOz_, _, _, _, _, _, _, _, hfz_⟩
    have hsz_ := hfz_.1
    rw [hs5] at hbz_ hOz_
    exact ⟨⟨vz_, _, rfl, hOz_⟩, below_of kb_ hbz_⟩
  · intro w8z_ kb_
    have kg_ := grown_of_below (show Below w7.heap.size w7 w8z_ by rw [hs5]; exact kb_) none
    have hb_ := below_g0 hb7 kg_
    have hz_ := hb_.size
    have he_ := kb_.size
    intro vz_ hz_
    exact op1 (s_move rfl ⟨hz_, ⟨by omega, World.grownBy.refl _ _⟩⟩)
  · intro w8z_ kb_
    have kg_ := grown_of_below (show Below w7.heap.size w7 w8z_ by rw [hs5]; exact kb_) none
    have hb_ := below_g0 hb7 kg_
    have hz_ := hb_.size
    have he_ := kb_.size
    rintro _ ⟨s_, d_, rfl, hO_⟩
    exact op1 (s_extract rfl rfl ⟨hO_, ⟨by omega, World.grownBy.refl _ _⟩⟩)
  · intro w8z_ kb_
    have kg_ := grown_of_below (show Below w7.heap.size w7 w8z_ by rw [hs5]; exact kb_) none
    have hb_ := below_g0 hb7 kg_
    have hz_ := hb_.size
    have he_ := kb_.size
    rintro _ ⟨s_, d_, rfl, hO_⟩
    exact op1 (s_extract rfl rfl ⟨trivial, ⟨by omega, World.grownBy.refl _ _⟩⟩)
  · intro w8z_ kb_
    have kg_ := grown_of_below (show Below w7.heap.size w7 w8z_ by rw [hs5]; exact kb_) none
    have hb_ := below_g0 hb7 kg_
    have hz_ := hb_.size
    have he_ := kb_.size
    rintro _ ⟨s_, d_, rfl, hO_⟩
    exact op1 (s_extract rfl rfl ⟨rfl, ⟨by omega, World.grownBy.refl _ _⟩⟩)
  · intro w8z_ kb_
    have kg_ := grown_of_below (show Below w7.heap.size w7 w8z_ by rw [hs5]; exact kb_) none
    have hb_ := below_g0 hb7 kg_
    have hz_ := hb_.size
    have he_ := kb_.size
    intro vz_ hz_
    exact op1 (s_assign rfl ⟨hz_, ⟨by omega, World.grownBy.refl _ _⟩⟩)
  · intro w8z_ kb_
    have kg_ := grown_of_below (show Below w7.heap.size w7 w8z_ by rw [hs5]; exact kb_) none
    have hb_ := below_g0 hb7 kg_
    have hz_ := hb_.size
    have he_ := kb_.size
    intro vz_ _
    exact op1 (s_assign rfl ⟨trivial, ⟨by omega, World.grownBy.refl _ _⟩⟩)
  intro w8 kb
  have k8 := grown_of_below (show Below w7.heap.size w7 w8 by rw [hs5]; exact kb) none
  have hb8 := below_g0 hb7 k8
  have hz6 := hb8.size
  intro v_ hv_; subst v_
  intro v_ hv_; subst v_
  rintro v42 _ _ rfl
  intro v_ hv_; subst v_
  rintro _ rfl _ rfl v43 _ v44 h44 v45 h45 v46 h46 v47 _ _ rfl v48 h48 v49 _
  refine st (s_assign rfl (r_end (n_then (w_seq (w_region (st (s_move rfl (st (s_build (ps := [(0, .tmp 44)]) (ccs := [#[v48]]) (cells := [v48]) rfl (by simp only [List.map_cons, List.map_nil, h48.cells1] <;> rfl) (by kernel_rfl) ?_)))))))))
  refine st0 (s_storeN row25 rfl rfl ((((hB1.g0 k2).g0 k6).g0 k7).g0 k8) (by simp only [List.all_cons, List.all_nil, h48.one, Bool.and_true, Bool.and_self] <;> rfl) rfl rfl ?_)
  intro w9 hB5 k9 hs6
  have hb9 := below_g hb8 k9 (by first | omega | (have h9 := (hb8).size; omega))
  have hO3 := Own.keptF node_flat h48 k9 (h48.ne_blk ((((hB1.g0 k2).g0 k6).g0 k7).g0 k8) (by decide))
  refine st (s_assign rfl (r_end (n_then (w_retc2 rfl row25 rfl rfl hB5.range rfl ?_))))
  refine ⟨_, rfl, hb9, v48, ?_, ?_⟩
  · rw [of_yes hl_ok (by omega) (by omega)]
  · rw [of_yes hl_ok (by omega) (by omega), canT, ← hT1]; exact hO3.sl
end Go.Proofs.Ytfljelnfjbbknaa.Nd

set_option maxRecDepth 20000
set_option linter.unusedSimpArgs false
set_option linter.unusedVariables false
namespace Go.Proofs.Ytfljelnfjbbknaa.Lm
open Go.RowKit Go.Gw
set_option maxHeartbeats 1000000 in
theorem of7_any {w : World} {F : Nat → Prop} {va : Value} {l : List RCl} {n0 : Nat} (hn0 : n0 ≤ w.heap.size) (hl : Sl (Kd.rcell 83 n0) w F va l) (hcb : CBd (l.map toCl)) (hll : l.length ≤ 75) :
    Calls Try.prog 36 [va].toArray w (Pure w fun r W => ∃ sv, r = .tuple #[.agg #[sv], .int .i64 (ofR l).2] ∧ Sl Kd.node W (fun _ => False) sv (ofR l).1) := by
  have hb0 := Below.refl w.heap.size w
  have hln1 := hl.lenle
  refine enter Try.func36 rfl rfl (w_seq (w_region (st (s_alloc zero25 ?_))))
  intro g1 w1 hg1 hB1 k1 hs1
  have hz1 := hb0.size
  have hb1 := below_g0 hb0 k1
  refine st (s_assign rfl (r_end (n_then (w_seq (w_seq (w_region (st (s_assign rfl ?_))))))))
  refine r_end (n_then (w_block (w_loop (α := Int) (fun (i : Int) => [(0, va), (2, .pointer (some ⟨g1, 0, none⟩)), (4, .int .i64 i)]) (fun (i : Int) W => Below w.heap.size w W ∧ (0 ≤ i ∧ i ≤ l.length) ∧ (∀ j : Int, 0 ≤ j → j < i → rightR (ix l j) = true) ∧ (Blk W g1 25 [.slice none 0 0].toArray)) (fun (i : Int) => (l.length - i).toNat) (0) ⟨hb1, by omega, fun j _ _ => by omega, hB1⟩ (by exact ⟨rfl, rfl, rfl, trivial⟩) ?_)))
  rintro i w2 ⟨hb2, hi, hr, hBl1⟩
  have hz2 := hb2.size
  refine w_seq (w_seq (w_region (st (s_move rfl (st (s_move rfl (st (s_len sl39 rfl (hl.at0 hb2) (st (s_lt rfl rfl ?_))))))))))
  refine r_end (n_then ?_)
  refine w_condP rfl (fun h1 => ?_) (fun h1 => ?_)
  · have hlti := h1
    refine w_skip' (n_then (w_seq (w_block (w_seq (w_region (st (s_move rfl ?_)))))))
    refine st (s_move rfl (st (s_idx sl39 rfl rfl (hl.at0 hb2) (by omega) (by omega) ?_)))
    rintro b1 o1 _ ⟨ca1, cb1, rfl, hca1, hcb1, hcs1⟩ hc1 hF1 hlt1
    replace hca1 := hca1.ofGF
    replace hcb1 := hcb1.ofGF
    have hl_1 := Loc.lt hF1
    refine st (s_faddr fld47_0 rfl (st (s_loadN (us := [.bool ((ix l i).xn), ca1]) row31 rfl hc1 (j := 0) rfl rfl (st (s_call fn27 rfl (rbright_any (hca1).none) ?_)))))
    rintro _ w3 ⟨hq1, rfl⟩
    have k2 := grown_of_below hq1 none
    have hz3 := hq1.size
    have hb3 := below_g0 hb2 k2
    have hz4 := hb3.size
    refine st (s_not rfl (st (s_move rfl ?_)))
    refine r_case 24 rfl (fun h2 => ?_) (fun h2 => ?_)
    · refine s_pass rfl rfl (s_pass rfl rfl (s_pass rfl rfl (s_pass rfl rfl (s_pass rfl rfl (s_pass rfl rfl (s_pass rfl rfl ?_))))))
      refine st (s_pick rfl rfl (r_end (n_then (w_condT rfl (w_seq (w_region (st (s_build (ps := []) (ccs := []) (cells := [.slice none 0 0]) rfl rfl (by kernel_rfl) ?_))))))))
      refine st0 (s_storeN row25 rfl rfl (hBl1.g0 k2) rfl rfl rfl ?_)
      intro w4 hB2 k3 hs2
      have hb4 := below_g hb3 k3 (by first | omega | (have h9 := (hb3).size; omega))
      refine st (s_assign rfl (r_end (n_then (w_retc2 rfl row25 rfl rfl hB2.range rfl ?_))))
      refine ⟨_, rfl, hb4, ?_⟩
      have hbad : rightR (ix l i) = false := by unfold rightR; simp_all
      rw [show ofR l = ([], 1) from by unfold ofR; rw [if_neg (fun h9_ => by have := List.all_eq_true.1 h9_ _ (ix_memR hi.1 hlti); rw [hbad] at this; cases this)]]
      exact ⟨_, rfl, Sl.nil0⟩
    refine stg (s_move rfl (stg (s_move rfl (stg (s_idx sl39 rfl rfl (hl.at0 hb3) (by omega) (by omega) ?_)))))
    rintro b2 o2 _ ⟨ca2, cb2, rfl, hca2, hcb2, hcs2⟩ hc2 hF2 hlt2
    replace hca2 := hca2.ofGF
    replace hcb2 := hcb2.ofGF
    have hl_2 := Loc.lt hF2
    refine stg (s_faddr fld47_1 rfl (stg (s_loadN (us := [.bool ((ix l i).yn), cb2]) row31 rfl hc2 (j := 2) rfl rfl (stg (s_call fn27 rfl (rbright_any (hcb2).none) ?_)))))
    rintro _ w5 ⟨hq2, rfl⟩
    have k4 := grown_of_below hq2 none
    have hz5 := hq2.size
    have hb5 := below_g0 hb3 k4
    have hz6 := hb5.size
    refine stg (s_not rfl (st (s_pick rfl rfl (r_end (n_then ?_)))))
    refine w_cond rfl (fun h3 => ?_) (fun h3 => ?_)
    rotate_left
    · refine w_skip' (n_block (n_then (w_region (st (s_move rfl (st (s_add rfl rfl (by omega) (st (s_assign rfl ?_)))))))))
      refine r_end ?_
      exact n_round ((i + 1)) ⟨hb5, by omega, fun j j0 j1 => if e : j = i then by rw [e]; unfold rightR; simp_all else hr j j0 (by omega), ((hBl1.g0 k2).g0 k4)⟩ (by omega) (by exact ⟨rfl, rfl, rfl, trivial⟩)
    refine w_seq (w_region (st (s_build (ps := []) (ccs := []) (cells := [.slice none 0 0]) rfl rfl (by kernel_rfl) (st0 (s_storeN row25 rfl rfl ((hBl1.g0 k2).g0 k4) rfl rfl rfl ?_)))))
    intro w6 hB3 k5 hs3
    have hb6 := below_g hb5 k5 (by first | omega | (have h9 := (hb5).size; omega))
    refine st (s_assign rfl (r_end (n_then (w_retc2 rfl row25 rfl rfl hB3.range rfl ?_))))
    refine ⟨_, rfl, hb6, ?_⟩
    have hbad : rightR (ix l i) = false := by unfold rightR; simp_all
    rw [show ofR l = ([], 1) from by unfold ofR; rw [if_neg (fun h9_ => by have := List.all_eq_true.1 h9_ _ (ix_memR hi.1 hlti); rw [hbad] at this; cases this)]]
    exact ⟨_, rfl, Sl.nil0⟩
  refine w_exit' (n_then_exit (n_then_exit (n_block_exit (n_then (w_seq (w_region ?_))))))
  refine st (s_move rfl ?_)
  have hall := all_right (by omega : i = (l.length : Int)) hr
  have hlc := cells_right hl hall
  refine st (s_call fn19 rfl (last_any (n0 := n0) (below_n0 hn0 hb2) (hlc.at0 hb2) hcb (by simp; omega)) ?_)
  rintro v1 w7 ⟨hq3, hO1⟩
  have k6 := grown_of_below hq3 none
  have hz7 := hq3.size
  have hb7 := below_g0 hb2 k6
  have hz8 := hb7.size
  have hO2 := hO1.rebase (b' := w.heap.size) hb2.size
  have hcs := cbd_lastL hcb
  have hls := lastL_len (l.map toCl)
  rw [List.length_map] at hls
  refine st (s_assign rfl (r_end (n_then (w_seq (w_region (st (s_assign rfl (r_end ?_))))))))
  refine n_then (w_seq (w_seq (w_region (st (s_assign rfl (r_end (n_then ?_)))))))
  refine w_block (w_loop (α := Int × Int) (fun ((m, u) : Int × Int) => [(2, .pointer (some ⟨g1, 0, none⟩)), (5, v1), (6, .int .i64 u), (7, .int .i64 m)]) (fun ((m, u) : Int × Int) W => Below w.heap.size w W ∧ (0 ≤ m ∧ m ≤ (lastL (l.map toCl)).length) ∧ (Gw.Own (Kd.cell 83 n0) 47 w.heap.size W (fun _ => False) v1 (lastL (l.map toCl))) ∧ (u = levelC ((lastL (l.map toCl)).take m.toNat)) ∧ (1 ≤ u ∧ u ≤ 1330) ∧ (Blk W g1 25 [.slice none 0 0].toArray)) (fun ((m, u) : Int × Int) => ((lastL (l.map toCl)).length - m).toNat) ((0), (1)) ⟨hb7, by omega, hO2, rfl, by omega, (hBl1.g0 k6)⟩ (by exact ⟨rfl, rfl, rfl, rfl, trivial⟩) ?_)
  rintro ⟨m, u⟩ w8 ⟨hb8, hm, hOs, hu, hu2, hbm0⟩
  dsimp only at *
  have hz9 := hb8.size
  refine w_seq (w_seq (w_region (st (s_move rfl (st (s_move rfl (st (s_len sl39 rfl hOs.sl.loc (st (s_lt rfl rfl ?_))))))))))
  refine r_end (n_then ?_)
  refine w_condP rfl (fun h4 => ?_) (fun h4 => ?_)
  · have hlt := h4
    refine w_skip' (n_then (w_seq (w_block (w_block (w_loop (α := Int) (fun (v : Int) => [(2, .pointer (some ⟨g1, 0, none⟩)), (5, v1), (6, .int .i64 v), (7, .int .i64 m)]) (fun (v : Int) W => Below w.heap.size w W ∧ (u ≤ v ∧ v ≤ 1330) ∧ (Gw.Own (Kd.cell 83 n0) 47 w.heap.size W (fun _ => False) v1 (lastL (l.map toCl))) ∧ (∀ j : Int, u ≤ j → j < v → j ≤ 1329 ∧ inC (ix (lastL (l.map toCl)) m) j = false) ∧ (Blk W g1 25 [.slice none 0 0].toArray)) (fun (v : Int) => (1330 - v).toNat) (u) ⟨hb8, by omega, hOs, fun j _ _ => by omega, hbm0⟩ (by exact ⟨rfl, rfl, rfl, rfl, trivial⟩) ?_)))))
    rintro v w9 ⟨hb9, hv, hOv, hb, hbv0⟩
    have hz10 := hb9.size
    refine w_seq (w_seq (w_region (st (s_move rfl (st (s_le rfl rfl (st (s_move rfl ?_))))))))
    refine r_caseP 44 rfl (fun h5 => ?_) (fun h5 => ?_)
    rotate_left
    · refine s_pass rfl rfl (s_pass rfl rfl (s_pass rfl rfl (s_pass rfl rfl (s_pass rfl rfl (s_pass rfl rfl (s_pass rfl rfl ?_))))))
      refine st (s_pick rfl rfl (r_end (n_then (w_condF rfl (w_exit' (n_then_exit (n_then_exit ?_)))))))
      refine n_block_exit (n_block (n_then (w_region (st (s_move rfl (st (s_add rfl rfl (by omega) (st (s_assign rfl ?_)))))))))
      refine r_end ?_
      exact n_round (((m + 1)), (v)) ⟨hb9, by omega, hOv, levelC_step hm.1 hlt hu hu2 hv hb (by omega), by omega, hbv0⟩ (by dsimp only; omega) (by exact ⟨rfl, rfl, rfl, rfl, trivial⟩)
    refine stg (s_move rfl (stg (s_move rfl (stg (s_idx sl39 rfl rfl hOv.sl.loc (by omega) (by omega) ?_)))))
    rintro b3 o3 _ ⟨ca3, cb3, rfl, hca3, hcb3, hcs3⟩ hc3 hF3 hlt3
    replace hca3 := hca3.ofGF
    replace hcb3 := hcb3.ofGF
    refine stg (s_loadW row47 rfl hc3 rfl (stg (s_move rfl (stg (s_call fn70 rfl (inc_any (c := (ix (lastL (l.map toCl)) m)) (n0 := n0) (below_n0 hn0 hb9) hca3 hcb3 (Bd.le (cbd_ix hcs (by omega) (by omega)).1 (show 50 ≤ 50 by decide)) (Bd.le (cbd_ix hcs (by omega) (by omega)).2 (show 50 ≤ 50 by decide)) (by omega)) ?_)))))
    rintro _ w10 ⟨hq4, rfl⟩
    have k7 := grown_of_below hq4 none
    have hz11 := hq4.size
    have hb10 := below_g0 hb9 k7
    have hz12 := hb10.size
    have hO3 := hOv.g0 k7
    refine stg (s_not rfl (st (s_pick rfl rfl (r_end (n_then ?_)))))
    refine w_cond rfl (fun h6 => ?_) (fun h6 => ?_)
    · refine w_skip' (n_then (w_block (w_region (st (s_move rfl (st (s_add rfl rfl (by omega) (st (s_assign rfl ?_)))))))))
      refine r_end (n_block ?_)
      exact n_round ((v + 1)) ⟨hb10, by omega, hO3, fun j j0 j1 => if e : j = v then by rw [e]; exact ⟨by omega, by simp_all⟩ else hb j j0 (by omega), (hbv0.g0 k7)⟩ (by omega) (by exact ⟨rfl, rfl, rfl, rfl, trivial⟩)
    refine w_exit' (n_then_exit (n_then_exit (n_block_exit (n_block (n_then (w_region ?_))))))
    refine st (s_move rfl (st (s_add rfl rfl (by omega) (st (s_assign rfl (r_end ?_))))))
    exact n_round (((m + 1)), (v)) ⟨hb10, by omega, hO3, levelC_step hm.1 hlt hu hu2 hv hb (by rintro ⟨_, q_⟩; simp_all), by omega, (hbv0.g0 k7)⟩ (by dsimp only; omega) (by exact ⟨rfl, rfl, rfl, rfl, trivial⟩)
  refine w_exit' (n_then_exit (n_then_exit (n_block_exit (n_then (w_seq (w_seq ?_))))))
  refine w_region (st (s_move rfl (st (s_gt rfl rfl (r_end (n_then ?_))))))
  refine w_condP rfl (fun h7 => ?_) (fun h7 => ?_)
  · have hlvl : u = levelC (lastL (l.map toCl)) := by rw [hu, List.take_of_length_le (by omega)]
    refine w_seq (w_region (st (s_build (ps := []) (ccs := []) (cells := [.slice none 0 0]) rfl rfl (by kernel_rfl) (st0 (s_storeN row25 rfl rfl hbm0 rfl rfl rfl ?_)))))
    intro w11 hB4 k8 hs4
    have hb11 := below_g hb8 k8 (by first | omega | (have h9 := (hb8).size; omega))
    refine st (s_assign rfl (r_end (n_then (w_retc2 rfl row25 rfl rfl hB4.range rfl ?_))))
    refine ⟨_, rfl, hb11, ?_⟩
    rw [show ofR l = ofCells (l.map toCl) from by unfold ofR; rw [if_pos (List.all_eq_true.2 hall)]]
    unfold ofCells
    rw [← hlvl, if_pos h7]
    exact ⟨_, rfl, Sl.nil0⟩
  have hlvl : u = levelC (lastL (l.map toCl)) := by rw [hu, List.take_of_length_le (by omega)]
  refine w_skip' (n_then (w_seq (w_region (st (s_move rfl (st (s_sub rfl rfl (by omega) (st (s_call fn47 rfl (rbpow_any (n0 := n0) (below_n0 hn0 hb8)) ?_)))))))))
  rintro v3 w12 ⟨hq5, hv1⟩
  rw [show (shlN 1 (u - 1)) = (hf u) from (shl_hf (by omega))] at hv1
  obtain ⟨v2, rfl, hS1⟩ := hv1
  have k9 := grown_of_below hq5 none
  have hz13 := hq5.size
  have hb12 := below_g0 hb8 k9
  have hz14 := hb12.size
  have hO5 := hOs.g0 k9
  refine st (s_call fn48 rfl (rminus_any (n0 := n0) (below_n0 hn0 hb12) (big_of rfl hS1) (Bd.le (bd_hf (by omega)) (show 42 ≤ 90000 by decide))) ?_)
  rintro _ w13 ⟨hq6, v4, rfl, hS2⟩
  have k10 := grown_of_below hq6 none
  have hz15 := hq6.size
  have hb13 := below_g0 hb12 k10
  have hz16 := hb13.size
  have hO6 := hO5.g0 k10
  have hlt_1 := (((hbm0.g0 k9).g0 k10)).lt
  refine st (s_alloc zero31 ?_)
  intro g2 w14 hg2 hB5 k11 hs5
  have hz17 := hb13.size
  have hb14 := below_g0 hb13 k11
  have hO7 := hO6.g0 k11
  refine st0 (s_storeN row31 rfl rfl hB5 (by simp only [List.all_cons, List.all_nil, hS2.one, Bool.and_true, Bool.and_self] <;> rfl) rfl rfl ?_)
  intro w15 hB6 k12 hs6
  have hb15 := below_g hb14 k12 (by first | omega | (have h9 := (hb14).size; omega))
  have hO8 := Own.keptG (cell_gk 83 n0) hO7 k12 (Blk.isG hB5 (by decide) (by omega)) (hO7.neB hB5 (by decide))
  refine r_end (n_then (w_seq (w_region (st (s_move rfl (st (s_loadW row31 rfl hB6.range rfl (st (s_loadW row31 rfl hB6.range rfl ?_)))))))))
  refine st (s_move rfl (st (s_call fn71 rfl (place_any (a0 := w15) (n0 := n0) (below_n0 hn0 hb15) u.toNat (lv := u) (by omega) (by omega) (pb_corner (by omega)) (pb_corner (by omega)) hcs (by omega) (by have := Nat.mul_le_mul (show u.toNat ≤ 1329 by omega) hls; simp; omega) (Below.refl _ _) (Own.nil _ _ _ _ _) ((hS2.gg0 k11).ggB k12 hB5 (by decide) (by omega)) ((hS2.gg0 k11).ggB k12 hB5 (by decide) (by omega)) (hO8.sl.weak (fun _ _ h_ => by simp [Value.ownBlock] at h_))) ?_)))
  rintro _ w16 ⟨v5, rfl, hb16, hO9, hF4⟩
  have k13 := frm_nil hF4 (Below.refl _ _) hb16
  have hb17 := below_g0 hb15 k13
  have hz18 := hb17.size
  have hO10 := hO9.rebase (b' := w.heap.size) hb15.size
  have hpl := place_len u.toNat ((-(hf u))) ((-(hf u))) (lastL (l.map toCl)) []
  have hpm := Nat.mul_le_mul (show u.toNat ≤ 1329 by omega) hls
  simp only [List.length_nil, Nat.zero_add] at hpl
  refine st (s_move rfl (st (s_extract rfl rfl (st (s_extract rfl rfl (st (s_assign rfl (st (s_assign rfl (r_end (n_then ?_)))))))))))
  refine w_seq (w_region (st (s_move rfl (st (s_move rfl (st (s_call fn11 rfl (Nd.rof_any (n := (placeN u.toNat ((-(hf u))) ((-(hf u))) (lastL (l.map toCl)) []).2) hO10.sl (by omega)) ?_)))))))
  rintro _ w17 ⟨hq7, sv1, rfl, hS3⟩
  have k14 := grown_of_below hq7 none
  have hz19 := hq7.size
  have hb18 := below_g0 hb17 k14
  have hz20 := hb18.size
  refine st (s_extract rfl rfl (st (s_extract rfl rfl (st0 (s_storeN row25 rfl rfl ((((((hbm0.g0 k9).g0 k10).g0 k11).gne k12 (by omega)).g0 k13).g0 k14) (by simp only [List.all_cons, List.all_nil, hS3.one, Bool.and_true, Bool.and_self] <;> rfl) rfl rfl ?_)))))
  intro w18 hB7 k15 hs7
  have hb19 := below_g hb18 k15 (by first | omega | (have h9 := (hb18).size; omega))
  refine st (s_assign rfl (r_end (n_then (w_retc2 rfl row25 rfl rfl hB7.range rfl ?_))))
  refine ⟨_, rfl, hb19, ?_⟩
  rw [show ofR l = ofCells (l.map toCl) from by unfold ofR; rw [if_pos (List.all_eq_true.2 hall)]]
  unfold ofCells
  rw [← hlvl, if_neg h7]
  exact ⟨_, rfl, (Sl.gSmall node_flat hS3 k15 ((((((hbm0.g0 k9).g0 k10).g0 k11).gne k12 (by omega)).g0 k13).g0 k14) (by decide))⟩
end Go.Proofs.Ytfljelnfjbbknaa.Lm

set_option maxRecDepth 20000
set_option linter.unusedSimpArgs false
set_option linter.unusedVariables false
namespace Go.Proofs.Ytfljelnfjbbknaa.Lm
open Go.RowKit Go.Gw
set_option maxHeartbeats 1000000 in
theorem great_any {w : World} {F : Nat → Prop} {va : Value} {l : List RCl} {m n0 : _} (hl : Sl (Kd.rcell 83 n0) w F va l) :
    Calls Try.prog 26 [va, .int .i64 m].toArray w (Pure w fun v _ => v = .bool (greatB l m)) := by
  have hb0 := Below.refl w.heap.size w
  have hln1 := hl.lenle
  refine enter Try.func26 rfl rfl (w_seq (w_region (st (s_assign rfl (r_end (n_then (w_seq ?_)))))))
  refine w_seq (w_region (st (s_move rfl (st (s_len sl39 rfl (hl.at0 hb0) (st (s_move rfl (st (s_gt rfl rfl (r_end ?_))))))))))
  refine n_then ?_
  refine w_condP rfl (fun h1 => ?_) (fun h1 => ?_)
  · refine w_seq (w_region (st (s_assign rfl (r_end (n_then (w_ret1 rfl rfl ?_))))))
    exact ⟨_, rfl, hb0, by unfold greatB; rw [decide_eq_true h1]; rfl⟩
  refine w_skip' (n_then (w_seq (w_seq (w_region (st (s_assign rfl (r_end ?_)))))))
  refine n_then (w_block (w_loop (α := Int) (fun (i : Int) => [(0, va), (5, .int .i64 i)]) (fun (i : Int) W => Below w.heap.size w W ∧ (0 ≤ i ∧ i ≤ l.length) ∧ (∀ j : Int, 0 ≤ j → j < i → greatC (ix l j) = false)) (fun (i : Int) => (l.length - i).toNat) (0) ⟨hb0, by omega, fun j _ _ => by omega⟩ (by exact ⟨rfl, rfl, trivial⟩) ?_))
  rintro i w1 ⟨hb1, hi, hr⟩
  have hz1 := hb1.size
  refine w_seq (w_seq (w_region (st (s_move rfl (st (s_move rfl (st (s_len sl39 rfl (hl.at0 hb1) (st (s_lt rfl rfl ?_))))))))))
  refine r_end (n_then ?_)
  refine w_condP rfl (fun h2 => ?_) (fun h2 => ?_)
  rotate_left
  · refine w_exit' (n_then_exit (n_then_exit (n_block_exit (n_then (w_seq (w_region ?_))))))
    refine st (s_assign rfl (r_end (n_then (w_ret1 rfl rfl ?_))))
    exact ⟨_, rfl, hb1, by rw [great_none h1 (by omega : i = (l.length : Int)) hr]⟩
  refine w_skip' (n_then (w_seq (w_block (w_seq (w_region (st (s_move rfl ?_)))))))
  refine st (s_move rfl (st (s_idx sl39 rfl rfl (hl.at0 hb1) (by omega) (by omega) ?_)))
  rintro b1 o1 _ ⟨ca1, cb1, rfl, hca1, hcb1, hcs1⟩ hc1 hF1 hlt1
  replace hca1 := hca1.ofGF
  replace hcb1 := hcb1.ofGF
  have hl_1 := Loc.lt hF1
  refine st (s_faddr fld47_0 rfl (st (s_faddr fld31_1 rfl (st (s_load one29 rfl hc1 (j := 1) rfl (st (s_len sl29 rfl hca1 (st (s_gt rfl rfl (st (s_move rfl ?_)))))))))))
  refine r_caseP 24 rfl (fun h3 => ?_) (fun h3 => ?_)
  · refine s_pass rfl rfl (s_pass rfl rfl (s_pass rfl rfl (s_pass rfl rfl (s_pass rfl rfl (s_pass rfl rfl (s_pass rfl rfl ?_))))))
    refine s_pass rfl rfl (st (s_pick rfl rfl (r_end (n_then (w_condT rfl (w_seq (w_region ?_)))))))
    refine st (s_assign rfl (r_end (n_then (w_ret1 rfl rfl ?_))))
    exact ⟨_, rfl, hb1, by rw [great_yes hi.1 (by omega) (by unfold greatC; simp [h3])]⟩
  refine stg (s_move rfl (stg (s_move rfl (stg (s_idx sl39 rfl rfl (hl.at0 hb1) (by omega) (by omega) ?_)))))
  rintro b2 o2 _ ⟨ca2, cb2, rfl, hca2, hcb2, hcs2⟩ hc2 hF2 hlt2
  replace hca2 := hca2.ofGF
  replace hcb2 := hcb2.ofGF
  have hl_2 := Loc.lt hF2
  refine stg (s_faddr fld47_1 rfl (stg (s_faddr fld31_1 rfl (stg (s_load one29 rfl hc2 (j := 3) rfl (stg (s_len sl29 rfl hcb2 (stg (s_gt rfl rfl (st (s_pick rfl rfl (r_end ?_))))))))))))
  refine n_then ?_
  refine w_condP rfl (fun h4 => ?_) (fun h4 => ?_)
  · refine w_seq (w_region (st (s_assign rfl (r_end (n_then (w_ret1 rfl rfl ?_))))))
    exact ⟨_, rfl, hb1, by rw [great_yes hi.1 (by omega) (by unfold greatC; simp [h3, h4])]⟩
  refine w_skip' (n_block (n_then (w_region (st (s_move rfl (st (s_add rfl rfl (by omega) (st (s_assign rfl ?_)))))))))
  refine r_end ?_
  exact n_round ((i + 1)) ⟨hb1, by omega, fun j j0 j1 => if e : j = i then by rw [e]; unfold greatC; simp [h3, h4] else hr j j0 (by omega)⟩ (by omega) (by exact ⟨rfl, rfl, trivial⟩)

set_option maxHeartbeats 1000000 in
theorem quad_any {w : World} {F : Nat → Prop} {va : Value} {l : List RCl} {m : Int} {n0 : Nat} (hn0 : n0 ≤ w.heap.size) (hl : Sl (Kd.rcell 83 n0) w F va l) (hm : m ≤ 75) :
    Calls Try.prog 18 [va, .int .i64 m].toArray w (Pure w fun r W => ∃ sv, r = .tuple #[.agg #[sv], .bool (quadR l m).2] ∧ Sl Kd.node W (fun _ => False) sv (quadR l m).1) := by
  have hb0 := Below.refl w.heap.size w
  have hln1 := hl.lenle
  refine enter Try.func18 rfl rfl (w_seq (w_region (st (s_alloc zero25 ?_))))
  intro g1 w1 hg1 hB1 k1 hs1
  have hz1 := hb0.size
  have hb1 := below_g0 hb0 k1
  refine st (s_assign rfl (r_end (n_then (w_seq (w_seq (w_region (st (s_move rfl ?_))))))))
  refine st (s_move rfl (st (s_call fn26 rfl (great_any (hl.at0 hb1)) ?_)))
  rintro _ w2 ⟨hq1, rfl⟩
  have k2 := grown_of_below hq1 none
  have hz2 := hq1.size
  have hb2 := below_g0 hb1 k2
  have hz3 := hb2.size
  refine r_end (n_then ?_)
  refine w_cond rfl (fun h1 => ?_) (fun h1 => ?_)
  · refine w_seq (w_region (st (s_build (ps := []) (ccs := []) (cells := [.slice none 0 0]) rfl rfl (by kernel_rfl) (st0 (s_storeN row25 rfl rfl (hB1.g0 k2) rfl rfl rfl ?_)))))
    intro w3 hB2 k3 hs2
    have hb3 := below_g hb2 k3 (by first | omega | (have h9 := (hb2).size; omega))
    refine st (s_assign rfl (r_end (n_then (w_retc2 rfl row25 rfl rfl hB2.range rfl ?_))))
    refine ⟨_, rfl, hb3, ?_⟩
    rw [show quadR l m = ([], false) from by unfold quadR; rw [if_pos (by simpa using h1)]]
    exact ⟨_, rfl, Sl.nil0⟩
  obtain ⟨hlm, hcb⟩ := great_out hl (by simpa using h1)
  refine w_skip' (n_then (w_seq (w_region (st (s_move rfl (st (s_call fn36 rfl (of7_any (n0 := n0) (below_n0 hn0 hb2) (hl.at0 hb2) hcb (by omega)) ?_)))))))
  rintro _ w4 ⟨hq2, sv1, rfl, hS1⟩
  have hS2 := hS1.loc
  have k4 := grown_of_below hq2 none
  have hz4 := hq2.size
  have hb4 := below_g0 hb2 k4
  have hz5 := hb4.size
  refine st (s_move rfl (st (s_extract rfl rfl (st (s_extract rfl rfl ?_)))))
  have hlt_1 := (((hB1.g0 k2).g0 k4)).lt
  refine st (s_alloc zero25 ?_)
  intro g2 w5 hg2 hB3 k5 hs3
  have hz6 := hb4.size
  have hb5 := below_g0 hb4 k5
  refine st0 (s_storeN row25 rfl rfl hB3 (by simp only [List.all_cons, List.all_nil, hS2.one, Bool.and_true, Bool.and_self] <;> rfl) rfl rfl ?_)
  intro w6 hB4 k6 hs4
  have hb6 := below_g hb5 k6 (by first | omega | (have h9 := (hb5).size; omega))
  refine st (s_assign rfl (r_end (n_then (w_seq (w_region (st (s_loadW row25 rfl hB4.range rfl (st (s_move rfl ?_)))))))))
  refine st (s_eq rfl rfl (st0 (s_storeN row25 rfl rfl ((((hB1.g0 k2).g0 k4).g0 k5).gne k6 (by omega)) (by simp only [List.all_cons, List.all_nil, hS2.one, Bool.and_true, Bool.and_self] <;> rfl) rfl rfl ?_)))
  intro w7 hB5 k7 hs5
  have hb7 := below_g hb6 k7 (by first | omega | (have h9 := (hb6).size; omega))
  refine st (s_assign rfl (r_end (n_then (w_retc2 rfl row25 rfl rfl hB5.range rfl ?_))))
  refine ⟨_, rfl, hb7, ?_⟩
  rw [show quadR l m = ((ofR l).1, decide ((ofR l).2 = 0)) from by unfold quadR; rw [if_neg (by simpa using h1)]]
  exact ⟨_, rfl, ((Sl.gSmall node_flat (Sl.gSmall node_flat (hS2.g0 k5) k6 hB3 (by decide)) k7 ((((hB1.g0 k2).g0 k4).g0 k5).gne k6 (by omega)) (by decide))).none⟩
end Go.Proofs.Ytfljelnfjbbknaa.Lm

set_option maxRecDepth 20000
set_option linter.unusedSimpArgs false
set_option linter.unusedVariables false
namespace Go.Proofs.Ytfljelnfjbbknaa.Lm
open Go.RowKit Go.Gw
set_option maxHeartbeats 1000000 in
theorem alive9_any {w : World} {n0 : Nat} (hn0 : n0 ≤ w.heap.size)  :
    Calls Try.prog 10 [].toArray w (Pure w fun v _ => v = .bool true) := by
  have hb0 := Below.refl w.heap.size w
  refine enter Try.func10 rfl rfl (w_seq (w_region (st (s_assign rfl (r_end (n_then (w_seq ?_)))))))
  refine w_region (st (s_assign rfl (r_end (n_then (w_seq (w_region (st (s_move rfl ?_))))))))
  refine st (s_callc (first := []) (caps := []) fn20 rfl rfl (rof2_any (n0 := n0) (below_n0 hn0 hb0) (by omega)) ?_)
  rintro _ w1 ⟨hq1, v1, rfl, hS1⟩
  have k1 := grown_of_below hq1 none
  have hz1 := hq1.size
  have hb1 := below_g0 hb0 k1
  have hz2 := hb1.size
  refine st (s_move rfl (st (s_callc (first := []) (caps := []) fn20 rfl rfl (rof2_any (n0 := n0) (below_n0 hn0 hb1) (by omega)) ?_)))
  rintro _ w2 ⟨hq2, v2, rfl, hS2⟩
  have k2 := grown_of_below hq2 none
  have hz3 := hq2.size
  have hb2 := below_g0 hb1 k2
  have hz4 := hb2.size
  refine st (s_build (ps := [(0, .tmp 10), (1, .tmp 12), (2, .const (.int .u8 1))]) (ccs := [#[.bool (decide ((2 : Int) < 0)), v1], #[.bool (decide ((3 : Int) < 0)), v2], #[.int .u8 1]]) (cells := [.bool (decide ((2 : Int) < 0)), v1, .bool (decide ((3 : Int) < 0)), v2, .int .u8 1]) rfl rfl (by kernel_rfl) (st (s_move rfl (st (s_callc (first := []) (caps := []) fn20 rfl rfl (rof2_any (n0 := n0) (below_n0 hn0 hb2) (by omega)) ?_)))))
  rintro _ w3 ⟨hq3, v3, rfl, hS3⟩
  have k3 := grown_of_below hq3 none
  have hz5 := hq3.size
  have hb3 := below_g0 hb2 k3
  have hz6 := hb3.size
  refine st (s_move rfl (st (s_callc (first := []) (caps := []) fn20 rfl rfl (rof2_any (n0 := n0) (below_n0 hn0 hb3) (by omega)) ?_)))
  rintro _ w4 ⟨hq4, v4, rfl, hS4⟩
  have k4 := grown_of_below hq4 none
  have hz7 := hq4.size
  have hb4 := below_g0 hb3 k4
  have hz8 := hb4.size
  refine st (s_build (ps := [(0, .tmp 15), (1, .tmp 17), (2, .const (.int .u8 9))]) (ccs := [#[.bool (decide ((5 : Int) < 0)), v3], #[.bool (decide ((3 : Int) < 0)), v4], #[.int .u8 9]]) (cells := [.bool (decide ((5 : Int) < 0)), v3, .bool (decide ((3 : Int) < 0)), v4, .int .u8 9]) rfl rfl (by kernel_rfl) ?_)
  refine st (s_bslice (ps := [(0, .tmp 13), (1, .tmp 18)]) (ccs := [#[.bool (decide ((2 : Int) < 0)), v1, .bool (decide ((3 : Int) < 0)), v2, .int .u8 1], #[.bool (decide ((5 : Int) < 0)), v3, .bool (decide ((3 : Int) < 0)), v4, .int .u8 9]]) (e := 47) (cells := [.bool (decide ((2 : Int) < 0)), v1, .bool (decide ((3 : Int) < 0)), v2, .int .u8 1, .bool (decide ((5 : Int) < 0)), v3, .bool (decide ((3 : Int) < 0)), v4, .int .u8 9]) rfl rfl (by kernel_rfl) (by decide) nz47 ?_)
  intro g1 w5 hg1 hB1 k5 hs1
  have hb5 := below_g0 hb4 k5
  have hz9 := hb5.size
  have hS5 : Sl (Kd.rcell 83 n0) w5 (fun _ => False) (.slice (some ⟨g1, 0, none⟩) 2 2) [rcl ⟨(2 : Int), (3 : Int), 1⟩, rcl ⟨(5 : Int), (3 : Int), 9⟩] := lit_rcell2 (c := rcl ⟨(2 : Int), (3 : Int), 1⟩) (d := rcl ⟨(5 : Int), (3 : Int), 9⟩) hB1 ((((hS1.gg0 k2).gg0 k3).gg0 k4).gg0 k5) (((hS2.gg0 k3).gg0 k4).gg0 k5) ((hS3.gg0 k4).gg0 k5) (hS4.gg0 k5) (by decide) (by decide)
  refine st (s_call fn36 rfl (of7_any (n0 := n0) (below_n0 hn0 hb5) hS5 cbd9 (by decide)) ?_)
  rintro _ w6 ⟨hq5, sv1, rfl, hS6⟩
  have hS7 := hS6.loc
  rw [show (ofR [rcl ⟨2, 3, 1⟩, rcl ⟨5, 3, 9⟩]).1 = Q9 from by rw [q9_ofR]] at hS7
  have k6 := grown_of_below hq5 none
  have hz10 := hq5.size
  have hb6 := below_g0 hb5 k6
  have hz11 := hb6.size
  refine st (s_move rfl (st (s_extract rfl rfl (st (s_extract rfl rfl ?_)))))
  have hlt_1 := ((hB1.g0 k6)).lt
  refine st (s_alloc zero25 ?_)
  intro g2 w7 hg2 hB2 k7 hs2
  have hz12 := hb6.size
  have hb7 := below_g0 hb6 k7
  refine st0 (s_storeN row25 rfl rfl hB2 (by simp only [List.all_cons, List.all_nil, hS7.one, Bool.and_true, Bool.and_self] <;> rfl) rfl rfl ?_)
  intro w8 hB3 k8 hs3
  have hb8 := below_g hb7 k8 (by first | omega | (have h9 := (hb7).size; omega))
  refine st (s_assign rfl (r_end (n_then (w_seq (w_region (st (s_loadW row25 rfl hB3.range rfl (st (s_call fn12 rfl (bof_any (n0 := n0) (below_n0 hn0 hb8) (Sl.gSmall node_flat (hS7.g0 k7) k8 hB2 (by decide)) q9_ok (by decide)) ?_)))))))))
  rintro _ w9 ⟨hq6, _, rfl, v5, v6, v7, v8, rfl, hS8, hS9, hS10, hS11⟩
  have k9 := grown_of_below hq6 none
  have hz13 := hq6.size
  have hb9 := below_g0 hb8 k9
  have hz14 := hb9.size
  refine st (s_move rfl (st (s_extract rfl rfl (st (s_extract rfl rfl ?_)))))
  have hlt_2 := (((((hB1.g0 k6).g0 k7).gne k8 (by omega)).g0 k9)).lt
  have hlt_3 := ((hB3.g0 k9)).lt
  refine st (s_alloc zero33 ?_)
  intro g3 w10 hg3 hB4 k10 hs4
  have hz15 := hb9.size
  have hb10 := below_g0 hb9 k10
  refine st0 (s_storeN row33 rfl rfl hB4 (by simp only [List.all_cons, List.all_nil, hS8.one, hS9.one, hS10.one, hS11.one, Bool.and_true, Bool.and_self] <;> rfl) rfl rfl ?_)
  intro w11 hB5 k11 hs5
  have hb11 := below_g hb10 k11 (by first | omega | (have h9 := (hb10).size; omega))
  refine st (s_assign rfl (r_end (n_then (w_seq (w_region (st (s_build (ps := []) (ccs := []) (cells := [.slice none 0 0]) rfl rfl (by kernel_rfl) (st (s_call fn12 rfl (bof_any (n0 := n0) (below_n0 hn0 hb11) ((Sl.nil0 (K := Kd.node) (F := fun _ => False)).at0 hb11) looseB_nil (by decide)) ?_)))))))))
  rintro _ w12 ⟨hq7, _, rfl, v9, v10, v11, v12, rfl, hS12, hS13, hS14, hS15⟩
  have k12 := grown_of_below hq7 none
  have hz16 := hq7.size
  have hb12 := below_g0 hb11 k12
  have hz17 := hb12.size
  refine st (s_move rfl (st (s_extract rfl rfl (st (s_extract rfl rfl ?_)))))
  have hlt_4 := ((((((((hB1.g0 k6).g0 k7).gne k8 (by omega)).g0 k9).g0 k10).gne k11 (by omega)).g0 k12)).lt
  have hlt_5 := (((((hB3.g0 k9).g0 k10).gne k11 (by omega)).g0 k12)).lt
  have hlt_6 := ((hB5.g0 k12)).lt
  refine st (s_alloc zero33 ?_)
  intro g4 w13 hg4 hB6 k13 hs6
  have hz18 := hb12.size
  have hb13 := below_g0 hb12 k13
  refine st0 (s_storeN row33 rfl rfl hB6 (by simp only [List.all_cons, List.all_nil, hS12.one, hS13.one, hS14.one, hS15.one, Bool.and_true, Bool.and_self] <;> rfl) rfl rfl ?_)
  intro w14 hB7 k14 hs7
  have hb14 := below_g hb13 k14 (by first | omega | (have h9 := (hb13).size; omega))
  refine st (s_assign rfl (r_end (n_then (w_seq ?_))))
  have h1 : ((bxs Q9).some) = true := (Bool.eq_false_or_eq_true _).elim (fun h1 => h1) (fun h1 => absurd (q9_some.symm.trans h1) (by decide))
  have h2 : ((!((bxs ([] : List Nd)).some))) = true := (Bool.eq_false_or_eq_true _).elim (fun h2 => h2) (fun h2 => absurd ((show (!(bxs ([] : List Nd)).some) = true from rfl).symm.trans h2) (by decide))
  refine w_draw 47 (fun a b => a.grownBy b none) [(some 33, Is <| .bool ((bxs Q9).some)), (some 34, Is <| .bool true), (some 35, Is <| .bool ((bxs ([] : List Nd)).some)), (some 36, Is <| .bool (!((bxs ([] : List Nd)).some))), (some 37, Is <| .bool (!((bxs ([] : List Nd)).some))), (some 38, Is <| .bool true), (some 39, Is <| .agg [.bool (decide ((bxOf Q9).x < 0)), v5, .bool (decide ((bxOf Q9).y < 0)), v6, .bool (decide ((bxOf Q9).w < 0)), v7, .bool (decide ((bxOf Q9).h < 0)), v8].toArray), (some 40, Is <| .func (.func 20) #[] #[]), (some 41, fun v W => IsBig 83 n0 W v ((2 : Int))), (some 42, Is <| .func (.func 20) #[] #[]), (some 43, fun v W => IsBig 83 n0 W v ((3 : Int))), (some 44, Is <| .func (.func 20) #[] #[]), (some 45, fun v W => IsBig 83 n0 W v ((4 : Int))), (some 46, Is <| .func (.func 20) #[] #[]), (some 47, fun v W => IsBig 83 n0 W v ((1 : Int))), (some 48, fun v W => ∃ v13 v14 v15 v16 : Value, v = .agg [.bool (decide ((2 : Int) < 0)), v13, .bool (decide ((3 : Int) < 0)), v14, .bool (decide ((4 : Int) < 0)), v15, .bool (decide ((1 : Int) < 0)), v16].toArray ∧ Sl Kd.u32 W (G 83 n0 W) v13 (ml (2 : Int)) ∧ Sl Kd.u32 W (G 83 n0 W) v14 (ml (3 : Int)) ∧ Sl Kd.u32 W (G 83 n0 W) v15 (ml (4 : Int)) ∧ Sl Kd.u32 W (G 83 n0 W) v16 (ml (1 : Int))), (some 49, Is <| .bool true), (some 50, Is <| .bool true), (some 51, Is <| .bool true), (some 52, Is <| .agg [sv1].toArray), (some 53, Is <| .bool true), (some 54, Is <| .bool true), (some 55, Is <| .bool true), (some 56, Is <| .agg [sv1].toArray), (some 57, Is <| .bool false), (some 58, Is <| .bool true), (some 59, Is <| .bool true), (some 60, Is <| .bool true), (some 61, Is <| .agg [.slice none 0 0].toArray), (some 62, Is <| .bool true), (some 63, Is <| .bool true), (some 64, Is <| .bool true), (some 65, Is <| .agg [.slice none 0 0].toArray), (some 66, Is <| .bool false), (some 67, Is <| .bool true), (some 68, Is <| .bool true), (some 69, Is <| .bool true), (some 70, Is <| .agg [.bool (decide ((bxOf Q9).x < 0)), v5, .bool (decide ((bxOf Q9).y < 0)), v6, .bool (decide ((bxOf Q9).w < 0)), v7, .bool (decide ((bxOf Q9).h < 0)), v8].toArray), (some 71, Is <| .agg [.bool (decide ((bxOf Q9).x < 0)), v5, .bool (decide ((bxOf Q9).y < 0)), v6, .bool (decide ((bxOf Q9).w < 0)), v7, .bool (decide ((bxOf Q9).h < 0)), v8].toArray), (some 72, Is <| .bool true), (some 73, Is <| .bool true), (some 74, Is <| .bool true), (some 75, Is <| .agg [.bool (decide ((bxOf Q9).x < 0)), v5, .bool (decide ((bxOf Q9).y < 0)), v6, .bool (decide ((bxOf Q9).w < 0)), v7, .bool (decide ((bxOf Q9).h < 0)), v8].toArray), (some 76, Is <| .agg [.bool false, .slice none 0 0, .bool false, .slice none 0 0, .bool false, .slice none 0 0, .bool false, .slice none 0 0].toArray), (some 77, Is <| .bool false), (some 78, Is <| .bool true), (some 79, Is <| .bool true)] [[], [0], [1], [1, 2], [1, 3], [4], [5], [5], [5, 7], [5], [5, 9], [5], [5, 11], [5], [5, 13], [5, 8, 10, 12, 14], [5, 6, 15], [5, 16], [17], [18], [18, 19], [18, 20], [21], [22], [22, 23], [22, 24], [22, 25], [26], [27], [27, 28], [27, 29], [30], [31], [31, 32], [31, 33], [31, 34], [35], [36], [36], [36, 37, 38], [36, 39], [40], [41], [41], [41, 42, 43], [41, 44], [41, 45]] [(0, .bool false), (1, .func (.func 20) #[] #[]), (2, .pointer (some ⟨g2, 0, none⟩)), (4, .pointer (some ⟨g3, 0, none⟩)), (5, .bool ((bxs Q9).some)), (7, .bool ((bxs ([] : List Nd)).some))] (by exact ⟨rfl, rfl, rfl, rfl, rfl, rfl, trivial⟩) (by kernel_rfl) (by kernel_rfl) grown_none_refl (fun _ _ _ => grown_none_trans) ⟨kv, kv, kv, kv, kv, kv, kv, kv, fun _ _ _ h k => h.g0 k, kv, fun _ _ _ h k => h.g0 k, kv, fun _ _ _ h k => h.g0 k, kv, fun _ _ _ h k => h.g0 k, fun _ _ _ h k => by obtain ⟨v13, v14, v15, v16, e, h0, h1, h2, h3⟩ := h; exact ⟨v13, v14, v15, v16, e, h0.gg0 k, h1.gg0 k, h2.gg0 k, h3.gg0 k⟩, kv, kv, kv, kv, kv, kv, kv, kv, kv, kv, kv, kv, kv, kv, kv, kv, kv, kv, kv, kv, kv, kv, kv, kv, kv, kv, kv, kv, kv, kv, kv, trivial⟩ ?_
  intro w26 k26 hs8
  have hb15 := below_g0 hb14 k26
  refine ⟨⟨?_, ?_, ?_, ?_, ?_, ?_, ?_, ?_, ?_, ?_, ?_, ?_, ?_, ?_, ?_, ?_, ?_, ?_, ?_, ?_, ?_, ?_, ?_, ?_, ?_, ?_, ?_, ?_, ?_, ?_, ?_, ?_, ?_, ?_, ?_, ?_, ?_, ?_, ?_, ?_, ?_, ?_, ?_, ?_, ?_, ?_, ?_, trivial⟩, ?_⟩
  · intro w27 k27
    refine op1 (s_move rfl ?_)
    exact ⟨rfl, grown_none_refl _⟩
  · intro w28 k28
    rintro _ rfl
    refine op1 (s_move rfl ?_)
    exact ⟨(by rw [h1]), grown_none_refl _⟩
  · intro w29 k29
    rintro _ rfl
    refine op1g (s_move rfl ?_)
    exact ⟨rfl, grown_none_refl _⟩
  · intro w30 k30
    rintro _ rfl _ rfl
    refine op1g (s_not rfl ?_)
    exact ⟨rfl, grown_none_refl _⟩
  · intro w31 k31
    rintro _ rfl _ rfl
    refine op1 (s_pick rfl rfl ?_)
    exact ⟨rfl, grown_none_refl _⟩
  · intro w32 k32
    rintro _ rfl
    refine op1 (s_move rfl ?_)
    exact ⟨(by rw [h2]), grown_none_refl _⟩
  · intro w33 k33
    rintro _ rfl
    refine op1g (s_loadW row33 rfl (((((hB5.g0 k12).g0 k13).gne k14 (by omega)).g0 k26).g0 k33).range rfl ?_)
    exact ⟨rfl, grown_none_refl _⟩
  · intro w34 k34
    rintro _ rfl
    refine op1g (s_move rfl ?_)
    exact ⟨rfl, grown_none_refl _⟩
  · intro w35 k35
    have hb24 := below_g0 hb15 k35
    rintro _ rfl _ rfl
    refine op1g (s_callc (first := []) (caps := []) fn20 rfl rfl (rof2_any (n0 := n0) (below_n0 hn0 hb24) (by omega)) ?_)
    rintro _ w36 ⟨hq19, v24, rfl, hS20⟩
    have k36 := grown_of_below hq19 none
    have hz19 := hq19.size
    have hb25 := below_g0 hb24 k36
    have hz20 := hb25.size
    exact ⟨⟨_, rfl, hS20⟩, k36⟩
  · intro w37 k37
    rintro _ rfl
    refine op1g (s_move rfl ?_)
    exact ⟨rfl, grown_none_refl _⟩
  · intro w38 k38
    have hb27 := below_g0 hb15 k38
    rintro _ rfl _ rfl
    refine op1g (s_callc (first := []) (caps := []) fn20 rfl rfl (rof2_any (n0 := n0) (below_n0 hn0 hb27) (by omega)) ?_)
    rintro _ w39 ⟨hq20, v25, rfl, hS21⟩
    have k39 := grown_of_below hq20 none
    have hz21 := hq20.size
    have hb28 := below_g0 hb27 k39
    have hz22 := hb28.size
    exact ⟨⟨_, rfl, hS21⟩, k39⟩
  · intro w40 k40
    rintro _ rfl
    refine op1g (s_move rfl ?_)
    exact ⟨rfl, grown_none_refl _⟩
  · intro w41 k41
    have hb30 := below_g0 hb15 k41
    rintro _ rfl _ rfl
    refine op1g (s_callc (first := []) (caps := []) fn20 rfl rfl (rof2_any (n0 := n0) (below_n0 hn0 hb30) (by omega)) ?_)
    rintro _ w42 ⟨hq21, v26, rfl, hS22⟩
    have k42 := grown_of_below hq21 none
    have hz23 := hq21.size
    have hb31 := below_g0 hb30 k42
    have hz24 := hb31.size
    exact ⟨⟨_, rfl, hS22⟩, k42⟩
  · intro w43 k43
    rintro _ rfl
    refine op1g (s_move rfl ?_)
    exact ⟨rfl, grown_none_refl _⟩
  · intro w44 k44
    have hb33 := below_g0 hb15 k44
    rintro _ rfl _ rfl
    refine op1g (s_callc (first := []) (caps := []) fn20 rfl rfl (rof2_any (n0 := n0) (below_n0 hn0 hb33) (by omega)) ?_)
    rintro _ w45 ⟨hq22, v27, rfl, hS23⟩
    have k45 := grown_of_below hq22 none
    have hz25 := hq22.size
    have hb34 := below_g0 hb33 k45
    have hz26 := hb34.size
    exact ⟨⟨_, rfl, hS23⟩, k45⟩
  · intro w46 k46
    rintro _ rfl _ ⟨v28, rfl, hS24⟩ _ ⟨v29, rfl, hS25⟩ _ ⟨v30, rfl, hS26⟩ _ ⟨v31, rfl, hS27⟩
    refine op1g (s_build (ps := [(0, .tmp 41), (1, .tmp 43), (2, .tmp 45), (3, .tmp 47)]) (ccs := [#[.bool (decide ((2 : Int) < 0)), v28], #[.bool (decide ((3 : Int) < 0)), v29], #[.bool (decide ((4 : Int) < 0)), v30], #[.bool (decide ((1 : Int) < 0)), v31]]) (cells := [.bool (decide ((2 : Int) < 0)), v28, .bool (decide ((3 : Int) < 0)), v29, .bool (decide ((4 : Int) < 0)), v30, .bool (decide ((1 : Int) < 0)), v31]) rfl rfl (by kernel_rfl) ?_)
    exact ⟨⟨_, _, _, _, rfl, hS24, hS25, hS26, hS27⟩, grown_none_refl _⟩
  · intro w47 k47
    have hb36 := below_g0 hb15 k47
    rintro _ rfl _ rfl _ ⟨v32, v33, v34, v35, rfl, hS28, hS29, hS30, hS31⟩
    refine op1g (s_call fn14 rfl (rbxsame_any (a := (bxOf Q9)) (b := (⟨(2 : Int), (3 : Int), (4 : Int), (1 : Int)⟩ : Bx)) ((((((((hS8.gg0 k10).ggB k11 hB4 (by decide) (by omega)).gg0 k12).gg0 k13).ggB k14 hB6 (by decide) (by omega)).gg0 k26).gg0 k47)).none ((((((((hS9.gg0 k10).ggB k11 hB4 (by decide) (by omega)).gg0 k12).gg0 k13).ggB k14 hB6 (by decide) (by omega)).gg0 k26).gg0 k47)).none ((((((((hS10.gg0 k10).ggB k11 hB4 (by decide) (by omega)).gg0 k12).gg0 k13).ggB k14 hB6 (by decide) (by omega)).gg0 k26).gg0 k47)).none ((((((((hS11.gg0 k10).ggB k11 hB4 (by decide) (by omega)).gg0 k12).gg0 k13).ggB k14 hB6 (by decide) (by omega)).gg0 k26).gg0 k47)).none (hS28).none (hS29).none (hS30).none (hS31).none) ?_)
    rintro v36 w48 ⟨hq23, hv8⟩
    rw [show (decide ((bxOf Q9) = (⟨(2 : Int), (3 : Int), (4 : Int), (1 : Int)⟩ : Bx))) = true from (by decide +kernel)] at hv8
    subst hv8
    have k48 := grown_of_below hq23 none
    have hz27 := hq23.size
    have hb37 := below_g0 hb36 k48
    have hz28 := hb37.size
    exact ⟨rfl, k48⟩
  · intro w49 k49
    rintro _ rfl _ rfl
    refine op1 (s_pick rfl rfl ?_)
    exact ⟨rfl, grown_none_refl _⟩
  · intro w50 k50
    rintro _ rfl
    refine op1 (s_move rfl ?_)
    exact ⟨rfl, grown_none_refl _⟩
  · intro w51 k51
    rintro _ rfl
    refine op1g (s_loadW row25 rfl ((((((((hB3.g0 k9).g0 k10).gne k11 (by omega)).g0 k12).g0 k13).gne k14 (by omega)).g0 k26).g0 k51).range rfl ?_)
    exact ⟨rfl, grown_none_refl _⟩
  · intro w52 k52
    have hb41 := below_g0 hb15 k52
    rintro _ rfl _ rfl
    refine op1g (s_call fn15 rfl (within_any (n0 := n0) (below_n0 hn0 hb41) (((((((((Sl.gSmall node_flat (hS7.g0 k7) k8 hB2 (by decide)).g0 k9).g0 k10).g k11 (.inr (by omega))).g0 k12).g0 k13).g k14 (.inr (by omega))).g0 k26).g0 k52) q9_ok (by decide) (by omega)) ?_)
    rintro v37 w53 ⟨hq24, hv9⟩
    rw [show (withinB (bxOf Q9) 4) = true from (by decide +kernel)] at hv9
    subst hv9
    have k53 := grown_of_below hq24 none
    have hz29 := hq24.size
    have hb42 := below_g0 hb41 k53
    have hz30 := hb42.size
    exact ⟨rfl, k53⟩
  · intro w54 k54
    rintro _ rfl _ rfl
    refine op1 (s_pick rfl rfl ?_)
    exact ⟨rfl, grown_none_refl _⟩
  · intro w55 k55
    rintro _ rfl
    refine op1 (s_move rfl ?_)
    exact ⟨rfl, grown_none_refl _⟩
  · intro w56 k56
    rintro _ rfl
    refine op1g (s_loadW row25 rfl ((((((((hB3.g0 k9).g0 k10).gne k11 (by omega)).g0 k12).g0 k13).gne k14 (by omega)).g0 k26).g0 k56).range rfl ?_)
    exact ⟨rfl, grown_none_refl _⟩
  · intro w57 k57
    have hb46 := below_g0 hb15 k57
    rintro _ rfl _ rfl
    refine op1g (s_call fn15 rfl (within_any (n0 := n0) (below_n0 hn0 hb46) (((((((((Sl.gSmall node_flat (hS7.g0 k7) k8 hB2 (by decide)).g0 k9).g0 k10).g k11 (.inr (by omega))).g0 k12).g0 k13).g k14 (.inr (by omega))).g0 k26).g0 k57) q9_ok (by decide) (by omega)) ?_)
    rintro v38 w58 ⟨hq25, hv10⟩
    rw [show (withinB (bxOf Q9) 3) = false from (by decide +kernel)] at hv10
    subst hv10
    have k58 := grown_of_below hq25 none
    have hz31 := hq25.size
    have hb47 := below_g0 hb46 k58
    have hz32 := hb47.size
    exact ⟨rfl, k58⟩
  · intro w59 k59
    rintro _ rfl _ rfl
    refine op1g (s_not rfl ?_)
    exact ⟨rfl, grown_none_refl _⟩
  · intro w60 k60
    rintro _ rfl _ rfl
    refine op1 (s_pick rfl rfl ?_)
    exact ⟨rfl, grown_none_refl _⟩
  · intro w61 k61
    rintro _ rfl
    refine op1 (s_move rfl ?_)
    exact ⟨rfl, grown_none_refl _⟩
  · intro w62 k62
    rintro _ rfl
    refine op1g (s_build (ps := []) (ccs := []) (cells := [.slice none 0 0]) rfl rfl (by kernel_rfl) ?_)
    exact ⟨rfl, grown_none_refl _⟩
  · intro w63 k63
    have hb52 := below_g0 hb15 k63
    rintro _ rfl _ rfl
    refine op1g (s_call fn15 rfl (within_any (n0 := n0) (below_n0 hn0 hb52) ((Sl.nil0 (K := Kd.node) (F := fun _ => False)).at0 hb52) looseB_nil (by decide) (by omega)) ?_)
    rintro v39 w64 ⟨hq26, hv11⟩
    rw [show (withinB (bxOf ([] : List Nd)) 0) = true from (by decide +kernel)] at hv11
    subst hv11
    have k64 := grown_of_below hq26 none
    have hz33 := hq26.size
    have hb53 := below_g0 hb52 k64
    have hz34 := hb53.size
    exact ⟨rfl, k64⟩
  · intro w65 k65
    rintro _ rfl _ rfl
    refine op1 (s_pick rfl rfl ?_)
    exact ⟨rfl, grown_none_refl _⟩
  · intro w66 k66
    rintro _ rfl
    refine op1 (s_move rfl ?_)
    exact ⟨rfl, grown_none_refl _⟩
  · intro w67 k67
    rintro _ rfl
    refine op1g (s_build (ps := []) (ccs := []) (cells := [.slice none 0 0]) rfl rfl (by kernel_rfl) ?_)
    exact ⟨rfl, grown_none_refl _⟩
  · intro w68 k68
    have hb57 := below_g0 hb15 k68
    rintro _ rfl _ rfl
    refine op1g (s_call fn15 rfl (within_any (n0 := n0) (below_n0 hn0 hb57) ((Sl.nil0 (K := Kd.node) (F := fun _ => False)).at0 hb57) looseB_nil (by decide) (by omega)) ?_)
    rintro v40 w69 ⟨hq27, hv12⟩
    rw [show (withinB (bxOf ([] : List Nd)) (-1)) = false from (by decide +kernel)] at hv12
    subst hv12
    have k69 := grown_of_below hq27 none
    have hz35 := hq27.size
    have hb58 := below_g0 hb57 k69
    have hz36 := hb58.size
    exact ⟨rfl, k69⟩
  · intro w70 k70
    rintro _ rfl _ rfl
    refine op1g (s_not rfl ?_)
    exact ⟨rfl, grown_none_refl _⟩
  · intro w71 k71
    rintro _ rfl _ rfl
    refine op1 (s_pick rfl rfl ?_)
    exact ⟨rfl, grown_none_refl _⟩
  · intro w72 k72
    rintro _ rfl
    refine op1 (s_move rfl ?_)
    exact ⟨rfl, grown_none_refl _⟩
  · intro w73 k73
    rintro _ rfl
    refine op1g (s_loadW row33 rfl (((((hB5.g0 k12).g0 k13).gne k14 (by omega)).g0 k26).g0 k73).range rfl ?_)
    exact ⟨rfl, grown_none_refl _⟩
  · intro w74 k74
    rintro _ rfl
    refine op1g (s_loadW row33 rfl (((((hB5.g0 k12).g0 k13).gne k14 (by omega)).g0 k26).g0 k74).range rfl ?_)
    exact ⟨rfl, grown_none_refl _⟩
  · intro w75 k75
    have hb64 := below_g0 hb15 k75
    rintro _ rfl _ rfl _ rfl
    refine op1g (s_call fn17 rfl (bxsame_any (a := (bxOf Q9)) (b := (bxOf Q9)) ((((((((hS8.gg0 k10).ggB k11 hB4 (by decide) (by omega)).gg0 k12).gg0 k13).ggB k14 hB6 (by decide) (by omega)).gg0 k26).gg0 k75)).none ((((((((hS9.gg0 k10).ggB k11 hB4 (by decide) (by omega)).gg0 k12).gg0 k13).ggB k14 hB6 (by decide) (by omega)).gg0 k26).gg0 k75)).none ((((((((hS10.gg0 k10).ggB k11 hB4 (by decide) (by omega)).gg0 k12).gg0 k13).ggB k14 hB6 (by decide) (by omega)).gg0 k26).gg0 k75)).none ((((((((hS11.gg0 k10).ggB k11 hB4 (by decide) (by omega)).gg0 k12).gg0 k13).ggB k14 hB6 (by decide) (by omega)).gg0 k26).gg0 k75)).none ((((((((hS8.gg0 k10).ggB k11 hB4 (by decide) (by omega)).gg0 k12).gg0 k13).ggB k14 hB6 (by decide) (by omega)).gg0 k26).gg0 k75)).none ((((((((hS9.gg0 k10).ggB k11 hB4 (by decide) (by omega)).gg0 k12).gg0 k13).ggB k14 hB6 (by decide) (by omega)).gg0 k26).gg0 k75)).none ((((((((hS10.gg0 k10).ggB k11 hB4 (by decide) (by omega)).gg0 k12).gg0 k13).ggB k14 hB6 (by decide) (by omega)).gg0 k26).gg0 k75)).none ((((((((hS11.gg0 k10).ggB k11 hB4 (by decide) (by omega)).gg0 k12).gg0 k13).ggB k14 hB6 (by decide) (by omega)).gg0 k26).gg0 k75)).none) ?_)
    rintro v41 w76 ⟨hq28, hv13⟩
    rw [show (decide ((bxOf Q9) = (bxOf Q9))) = true from decide_eq_true rfl] at hv13
    subst hv13
    have k76 := grown_of_below hq28 none
    have hz37 := hq28.size
    have hb65 := below_g0 hb64 k76
    have hz38 := hb65.size
    exact ⟨rfl, k76⟩
  · intro w77 k77
    rintro _ rfl _ rfl
    refine op1 (s_pick rfl rfl ?_)
    exact ⟨rfl, grown_none_refl _⟩
  · intro w78 k78
    rintro _ rfl
    refine op1 (s_move rfl ?_)
    exact ⟨rfl, grown_none_refl _⟩
  · intro w79 k79
    rintro _ rfl
    refine op1g (s_loadW row33 rfl (((((hB5.g0 k12).g0 k13).gne k14 (by omega)).g0 k26).g0 k79).range rfl ?_)
    exact ⟨rfl, grown_none_refl _⟩
  · intro w80 k80
    rintro _ rfl
    refine op1g (s_build (ps := []) (ccs := []) (cells := [.bool false, .slice none 0 0, .bool false, .slice none 0 0, .bool false, .slice none 0 0, .bool false, .slice none 0 0]) rfl rfl (by kernel_rfl) ?_)
    exact ⟨rfl, grown_none_refl _⟩
  · intro w81 k81
    have hb70 := below_g0 hb15 k81
    rintro _ rfl _ rfl _ rfl
    refine op1g (s_call fn17 rfl (bxsame_any (a := (bxOf Q9)) (b := (⟨0, 0, 0, 0⟩ : Bx)) ((((((((hS8.gg0 k10).ggB k11 hB4 (by decide) (by omega)).gg0 k12).gg0 k13).ggB k14 hB6 (by decide) (by omega)).gg0 k26).gg0 k81)).none ((((((((hS9.gg0 k10).ggB k11 hB4 (by decide) (by omega)).gg0 k12).gg0 k13).ggB k14 hB6 (by decide) (by omega)).gg0 k26).gg0 k81)).none ((((((((hS10.gg0 k10).ggB k11 hB4 (by decide) (by omega)).gg0 k12).gg0 k13).ggB k14 hB6 (by decide) (by omega)).gg0 k26).gg0 k81)).none ((((((((hS11.gg0 k10).ggB k11 hB4 (by decide) (by omega)).gg0 k12).gg0 k13).ggB k14 hB6 (by decide) (by omega)).gg0 k26).gg0 k81)).none (show Sl Kd.u32 _ (fun _ => False) (.slice none 0 0) (ml 0) by rw [ml_zero]; exact ⟨none, 0, rfl, by simp, by simp [maxLen], fun i x hx => by simp at hx⟩) (show Sl Kd.u32 _ (fun _ => False) (.slice none 0 0) (ml 0) by rw [ml_zero]; exact ⟨none, 0, rfl, by simp, by simp [maxLen], fun i x hx => by simp at hx⟩) (show Sl Kd.u32 _ (fun _ => False) (.slice none 0 0) (ml 0) by rw [ml_zero]; exact ⟨none, 0, rfl, by simp, by simp [maxLen], fun i x hx => by simp at hx⟩) (show Sl Kd.u32 _ (fun _ => False) (.slice none 0 0) (ml 0) by rw [ml_zero]; exact ⟨none, 0, rfl, by simp, by simp [maxLen], fun i x hx => by simp at hx⟩)) ?_)
    rintro v42 w82 ⟨hq29, hv14⟩
    rw [show (decide ((bxOf Q9) = (⟨0, 0, 0, 0⟩ : Bx))) = false from (by decide +kernel)] at hv14
    subst hv14
    have k82 := grown_of_below hq29 none
    have hz39 := hq29.size
    have hb71 := below_g0 hb70 k82
    have hz40 := hb71.size
    exact ⟨rfl, k82⟩
  · intro w83 k83
    rintro _ rfl _ rfl
    refine op1g (s_not rfl ?_)
    exact ⟨rfl, grown_none_refl _⟩
  · intro w84 k84
    rintro _ rfl _ rfl
    refine op1 (s_pick rfl rfl ?_)
    exact ⟨rfl, grown_none_refl _⟩
  intro w85 k85
  have hb74 := below_g0 hb15 k85
  rintro _ rfl _ rfl _ rfl _ rfl _ rfl _ rfl _ rfl _ rfl _ ⟨v43, rfl, hS32⟩ _ rfl _ ⟨v44, rfl, hS33⟩ _ rfl _ ⟨v45, rfl, hS34⟩ _ rfl _ ⟨v46, rfl, hS35⟩ _ ⟨v47, v48, v49, v50, rfl, hS36, hS37, hS38, hS39⟩ _ rfl _ rfl _ rfl _ rfl _ rfl _ rfl _ rfl _ rfl _ rfl _ rfl _ rfl _ rfl _ rfl _ rfl _ rfl _ rfl _ rfl
  rintro _ rfl _ rfl _ rfl _ rfl _ rfl _ rfl _ rfl _ rfl _ rfl _ rfl _ rfl _ rfl _ rfl _ rfl
  refine st (s_assign rfl (r_end (n_then (w_ret1 rfl rfl ?_))))
  exact ⟨_, rfl, hb74, rfl⟩
end Go.Proofs.Ytfljelnfjbbknaa.Lm

set_option linter.unusedSimpArgs false
set_option linter.unusedVariables false
/-! ### How many nodes a quad has -/
namespace Go.Gw
open Go.RowKit
def settled (l o : List Nd) (i : Int) : Bool := decide ((vis (tr l i) o).1 = o)
theorem settled_up {l o p : List Nd} {i : Int} (h : settled l o i = true) (hp : o <+: p) : settled l p i = true := by
  unfold settled at *
  rw [decide_eq_true_eq] at *
  rw [vis_stay (tr l i) (by rw [h]; exact hp)]
def cntS (l o : List Nd) : Nat := (List.range (l.length + 1)).countP fun (i : Nat) => settled l o i
theorem countP_le {α : Type} {p q : α → Bool} : ∀ {xs : List α}, (∀ x, p x = true → q x = true) → xs.countP p ≤ xs.countP q
  | [], _ => Nat.le_refl _
  | x :: r, h => by
    have ih := countP_le (xs := r) h
    rw [List.countP_cons, List.countP_cons]
    by_cases hp : p x = true
    · rw [if_pos hp, if_pos (h x hp)]; omega
    · rw [if_neg hp]; omega
theorem countP_lt {α : Type} {p q : α → Bool} : ∀ {xs : List α}, (∀ x, p x = true → q x = true) → (∃ x ∈ xs, p x = false ∧ q x = true) → xs.countP p + 1 ≤ xs.countP q
  | [], _, h => by obtain ⟨x, hx, _⟩ := h; cases hx
  | y :: r, h, he => by
    rw [List.countP_cons, List.countP_cons]
    obtain ⟨x, hx, h1, h2⟩ := he
    rcases List.mem_cons.1 hx with rfl | hx
    · have := countP_le (xs := r) h
      rw [if_neg (by rw [h1]; decide), if_pos h2]; omega
    · have ih := countP_lt (xs := r) h ⟨x, hx, h1, h2⟩
      by_cases hp : p y = true
      · rw [if_pos hp, if_pos (h y hp)]; omega
      · rw [if_neg hp]; omega
theorem cntS_lt {l o p : List Nd} {n : Int} (hp : o <+: p) (h0 : 0 ≤ n) (h1 : n ≤ l.length) (hn : settled l o n = false) (hs : settled l p n = true) : cntS l o + 1 ≤ cntS l p :=
  countP_lt (fun i h => settled_up h hp) ⟨n.toNat, by rw [List.mem_range]; omega, by rw [show ((n.toNat : Nat) : Int) = n by omega]; exact hn, by rw [show ((n.toNat : Nat) : Int) = n by omega]; exact hs⟩
theorem vis_cnt {l : List Nd} (hl : looseB l = true) : ∀ n : Int, 0 ≤ n → n ≤ l.length → ∀ o : List Nd, (vis (tr l n) o).1.length + cntS l o ≤ o.length + cntS l (vis (tr l n) o).1 := by
  have self : ∀ (n : Int) (o : List Nd), settled l (vis (tr l n) o).1 n = true := fun n o => by unfold settled; rw [vis_self]; exact decide_eq_true rfl
  have stay : ∀ {n : Int} {o : List Nd}, settled l o n = true → (vis (tr l n) o).1.length + cntS l o ≤ o.length + cntS l (vis (tr l n) o).1 := fun {n o} h => by
    unfold settled at h; rw [decide_eq_true_eq] at h; rw [h]; exact Nat.le_refl _
  refine nodes_ind hl _ (fun o => by rw [tr_zero]; exact Nat.le_refl _) (fun n h0 h1 hv o => ?_) (fun n h0 h1 hv q0 q1 q2 q3 o => ?_)
  · by_cases hs : settled l o n = true
    · exact stay hs
    · have c := cntS_lt (vis_pre (tr l n) o) (by omega) h1 (by simpa using hs) (self n o)
      have e : (vis (tr l n) o).1.length ≤ o.length + 1 := by rw [tr_leaf hl h0 h1 hv]; exact intr_len _ _
      omega
  · by_cases hs : settled l o n = true
    · exact stay hs
    · have p0 := vis_pre (tr l (ix l (n - 1)).k0) o
      have c0 := q0 o
      have p1 := vis_pre (tr l (ix l (n - 1)).k1) (vis (tr l (ix l (n - 1)).k0) o).1
      have c1 := q1 (vis (tr l (ix l (n - 1)).k0) o).1
      have p2 := vis_pre (tr l (ix l (n - 1)).k2) (vis (tr l (ix l (n - 1)).k1) (vis (tr l (ix l (n - 1)).k0) o).1).1
      have c2 := q2 (vis (tr l (ix l (n - 1)).k1) (vis (tr l (ix l (n - 1)).k0) o).1).1
      have p3 := vis_pre (tr l (ix l (n - 1)).k3) (vis (tr l (ix l (n - 1)).k2) (vis (tr l (ix l (n - 1)).k1) (vis (tr l (ix l (n - 1)).k0) o).1).1).1
      have c3 := q3 (vis (tr l (ix l (n - 1)).k2) (vis (tr l (ix l (n - 1)).k1) (vis (tr l (ix l (n - 1)).k0) o).1).1).1
      have sf := self n o
      rw [tr_nd hl h0 h1 hv] at sf ⊢
      simp only [vis] at sf ⊢
      revert p3 c3 sf
      generalize hO : (vis (tr l (ix l (n - 1)).k3) (vis (tr l (ix l (n - 1)).k2) (vis (tr l (ix l (n - 1)).k1) (vis (tr l (ix l (n - 1)).k0) o).1).1).1).1 = O4
      intro p3 c3 sf
      by_cases h4 : settled l O4 n = true
      · -- settled on the way: nothing is laid for it
        have pre := p0.trans (p1.trans (p2.trans p3))
        have e4 : (vis (tr l n) O4).1 = O4 := by unfold settled at h4; simpa using h4
        rw [tr_nd hl h0 h1 hv] at e4
        simp only [vis] at e4
        have s0 := vis_stay (tr l (ix l (n - 1)).k0) (o := o) (p := O4) (p1.trans (p2.trans p3))
        have s1 := vis_stay (tr l (ix l (n - 1)).k1) (o := (vis (tr l (ix l (n - 1)).k0) o).1) (p := O4) (p2.trans p3)
        have s2 := vis_stay (tr l (ix l (n - 1)).k2) (o := (vis (tr l (ix l (n - 1)).k1) (vis (tr l (ix l (n - 1)).k0) o).1).1) (p := O4) p3
        have s3 := vis_stay (tr l (ix l (n - 1)).k3) (o := (vis (tr l (ix l (n - 1)).k2) (vis (tr l (ix l (n - 1)).k1) (vis (tr l (ix l (n - 1)).k0) o).1).1).1) (p := O4) (by rw [hO]; exact List.prefix_refl _)
        rw [s0] at e4; simp only at e4
        rw [s1] at e4; simp only at e4
        rw [s2] at e4; simp only at e4
        rw [s3] at e4; simp only at e4
        rw [e4]
        omega
      · have c := cntS_lt (n := n) (intr_pre O4 _) (by omega) h1 (by simpa using h4) sf
        have e := intr_len O4 (⟨(ix l (n - 1)).lv, (vis (tr l (ix l (n - 1)).k0) o).2, (vis (tr l (ix l (n - 1)).k1) (vis (tr l (ix l (n - 1)).k0) o).1).2, (vis (tr l (ix l (n - 1)).k2) (vis (tr l (ix l (n - 1)).k1) (vis (tr l (ix l (n - 1)).k0) o).1).1).2, (vis (tr l (ix l (n - 1)).k3) (vis (tr l (ix l (n - 1)).k2) (vis (tr l (ix l (n - 1)).k1) (vis (tr l (ix l (n - 1)).k0) o).1).1).1).2⟩ : Nd)
        omega
theorem canT_len {l : List Nd} (hl : looseB l = true) {n : Int} (h0 : 0 ≤ n) (h1 : n ≤ l.length) : (canT (tr l n)).length ≤ l.length := by
  have h := vis_cnt hl n h0 h1 []
  unfold canT
  have c : cntS l (vis (tr l n) []).1 ≤ l.length + 1 := by unfold cntS; have := List.countP_le_length (p := fun i : Nat => settled l (vis (tr l n) []).1 i) (l := List.range (l.length + 1)); rwa [List.length_range] at this
  have z : 1 ≤ cntS l [] := by
    have := countP_lt (p := fun _ : Nat => false) (q := fun i : Nat => settled l [] i) (xs := List.range (l.length + 1)) (fun _ h => by cases h) ⟨0, by rw [List.mem_range]; omega, rfl, by
      show settled l [] ((0 : Nat) : Int) = true
      unfold settled; rw [show ((0 : Nat) : Int) = 0 from rfl, tr_zero]; rfl⟩
    unfold cntS; omega
  simp only [List.length_nil] at h
  omega
theorem shrF_laid : ∀ (f : Nat) {l : List Nd} {n : Int}, looseB l = true → 0 ≤ n → n ≤ l.length → lvT (tr l n) ≤ f → ∃ (L : List Nd) (m : Int), looseB L = true ∧ (0 ≤ m ∧ m ≤ L.length) ∧ tr L m = shrF f (tr l n) ∧ L.length ≤ l.length + f
  | 0, l, n, hl, h0, h1, _ => ⟨l, n, hl, ⟨h0, h1⟩, rfl, Nat.le_refl _⟩
  | f + 1, l, n, hl, h0, h1, hf => by
    unfold shrF
    by_cases hh : hol (tr l n) = true
    · rw [if_pos hh]
      have hn : 1 ≤ n := by
        have : n ≠ 0 := fun e => by rw [e, tr_zero] at hh; cases hh
        omega
      have hv : (ix l (n - 1)).lv ≠ 1 := fun e => by rw [tr_leaf hl hn h1 e] at hh; cases hh
      have e := inn_tr hl hn h1 hv
      have hlv := lv_in hl (i := n - 1) (by omega) (by omega)
      have hl2 : lvT (tr (l ++ [innX l n]) ((l.length : Int) + 1)) ≤ f := by
        rw [e, tr_nd hl hn h1 hv]
        rw [tr_nd hl hn h1 hv] at hf
        simp only [lvT] at hf
        by_cases h2 : (ix l (n - 1)).lv = 2
        · simp only [inn, if_pos h2, lvT]; omega
        · simp only [inn, if_neg h2, lvT]; omega
      obtain ⟨L, m, a, b, c, d⟩ := shrF_laid f (inn_loose hl hn h1 hv) (by omega) (by simp) hl2
      exact ⟨L, m, a, b, by rw [c, e], by simp at d; omega⟩
    · rw [if_neg hh]
      exact ⟨l, n, hl, ⟨h0, h1⟩, rfl, by omega⟩
theorem lvT_le {t : Tr} {v : Int} (h : wf v t) : lvT t ≤ 1329 := by
  cases t with
  | no => exact Nat.zero_le _
  | leaf a b c d => show 1 ≤ 1329; omega
  | nd u a b c d => obtain ⟨rfl, _, h3, _⟩ := h; simp only [lvT]; omega
theorem ofL_len (l : List Nd) (n : Int) : (ofL l n).1.length ≤ l.length + 1330 := by
  unfold ofL
  split
  · rename_i hc
    obtain ⟨hl, h0, h1⟩ := hc
    show (canT (shr0 (tr l n))).length ≤ _
    unfold shr0
    split
    · show ([] : List Nd).length ≤ _; simp
    · have hw := lvT_le (wf_tr hl n h0 h1 _ (fun _ => rfl))
      obtain ⟨L, m, a, b, c, d⟩ := shrF_laid (lvT (tr l n)) hl h0 h1 (Nat.le_refl _)
      unfold shr
      rw [← c]
      have := canT_len a b.1 b.2
      omega
  · simp
theorem ofCells_len (cs : List Cl) : (ofCells cs).1.length ≤ 1329 * cs.length + 1330 := by
  unfold ofCells
  split
  · simp
  · rename_i h
    have h1 := ofL_len (placeN (levelC (lastL cs)).toNat (-(hf (levelC (lastL cs)))) (-(hf (levelC (lastL cs)))) (lastL cs) []).1 (placeN (levelC (lastL cs)).toNat (-(hf (levelC (lastL cs)))) (-(hf (levelC (lastL cs)))) (lastL cs) []).2
    have h2 := place_len (levelC (lastL cs)).toNat (-(hf (levelC (lastL cs)))) (-(hf (levelC (lastL cs)))) (lastL cs) []
    have h3 := Nat.mul_le_mul (show (levelC (lastL cs)).toNat ≤ 1329 by omega) (lastL_len cs)
    simp only [List.length_nil] at h2
    omega
end Go.Gw

set_option maxRecDepth 20000
set_option linter.unusedSimpArgs false
set_option linter.unusedVariables false
namespace Go.Proofs.Ytfljelnfjbbknaa.Lm
open Go.RowKit Go.Gw
end Go.Proofs.Ytfljelnfjbbknaa.Lm

set_option linter.unusedSimpArgs false
set_option linter.unusedVariables false
/-! ### The laws of the box: the plain law -/
namespace Go.Gw
open Go.RowKit
theorem rcell_st {U n0 : Nat} {w : World} {F : Nat → Prop} {va : Value} {l : List RCl} (h : Sl (Kd.rcell U n0) w F va l) : StB (l.map toCl) := by
  intro c hc
  obtain ⟨r, hr, rfl⟩ := List.mem_map.1 hc
  obtain ⟨i, hi, rfl⟩ := List.getElem_of_mem hr
  obtain ⟨A, m, e, h1, h2, h3⟩ := h
  obtain ⟨g, o, us, _, _, _, ⟨a, b, _, _, _, h4, h5⟩, _⟩ := h3 i _ (List.getElem?_eq_getElem hi)
  exact ⟨h4, h5⟩
/-- What is known of a quad of cells that may be. -/
structure QuadOk (l : List RCl) (m : Int) : Prop where
  can : Can (quadR l m).1
  cel : ∀ X Y : Int, celQ (quadR l m).1 X Y = stL (l.map toCl) X Y
  all : ∀ c ∈ l, rightR c = true
  cb : CBd (l.map toCl)
  len : (l.length : Int) ≤ m
  nodes : (quadR l m).1.length ≤ 1329 * l.length + 1330
  st : StB (l.map toCl)
  fit : levelC (lastL (l.map toCl)) ≤ 1329
theorem quad_can {U n0 : Nat} {w : World} {F : Nat → Prop} {va : Value} {l : List RCl} {m : Int} (hl : Sl (Kd.rcell U n0) w F va l) : Can (quadR l m).1 := by
  unfold quadR
  split
  · exact can_nil_q
  · unfold ofR
    split
    · exact (ofCells_sem (rcell_st hl)).1
    · exact can_nil_q
theorem quad_ok {U n0 : Nat} {w : World} {F : Nat → Prop} {va : Value} {l : List RCl} {m : Int} (hl : Sl (Kd.rcell U n0) w F va l) (h : (quadR l m).2 = true) : QuadOk l m := by
  have hst := rcell_st hl
  have hs := ofCells_sem hst
  have hlen := ofCells_len (l.map toCl)
  have hc := quad_can (m := m) hl
  unfold quadR at h hc
  by_cases hg : greatB l m = true
  · rw [if_pos hg] at h; cases h
  · rw [if_neg hg] at h hc
    obtain ⟨g1, g2⟩ := great_out hl (by simpa using hg)
    have h := of_decide_eq_true h
    have e : (quadR l m).1 = (ofR l).1 := by unfold quadR; rw [if_neg hg]
    by_cases ha : l.all rightR = true
    · have e2 : ofR l = ofCells (l.map toCl) := by unfold ofR; rw [if_pos ha]
      rw [e2] at h
      refine ⟨by rw [e, e2]; exact hs.1, fun X Y => by rw [e, e2]; exact (hs.2.1 h).2 X Y, List.all_eq_true.1 ha, g2, g1, by rw [e, e2]; rw [List.length_map] at hlen; exact hlen, hst, (hs.2.1 h).1⟩
    · exfalso; unfold ofR at h; rw [if_neg ha] at h; cases h
variable {l : List RCl} {m : Int}
theorem QuadOk.last (h : QuadOk l m) (X Y : Int) : celQ (quadR l m).1 X Y = stA (lastL (l.map toCl)) X Y := by rw [h.cel, (lastL_sem (l.map toCl)).2.2]
theorem QuadOk.at (h : QuadOk l m) {c : Cl} (hc : c ∈ lastL (l.map toCl)) : celQ (quadR l m).1 c.x c.y ≠ 0 := by
  obtain ⟨s1, s2, _⟩ := lastL_sem (l.map toCl)
  rw [h.last, stA_mem s1 hc]; exact s2 c hc
theorem QuadOk.nil (h : QuadOk l m) (h0 : ((lastL (l.map toCl)).length : Int) = 0) : (quadR l m).1 = [] := by
  refine celQ_zero h.can fun X Y => ?_
  rw [h.last, List.eq_nil_of_length_eq_zero (show (lastL (l.map toCl)).length = 0 by omega)]; rfl
theorem QuadOk.some (h : QuadOk l m) (h0 : ¬ ((lastL (l.map toCl)).length : Int) = 0) : (bxs (quadR l m).1).some = true := by
  refine Classical.byContradiction fun hn => ?_
  have hq := box_no h.can (by simpa using hn)
  have := h.at (ix_memC (l := lastL (l.map toCl)) (i := 0) (by omega) (by omega))
  rw [hq, celQ_nil] at this; exact this rfl
theorem QuadOk.rng (h : QuadOk l m) {b : Bx} (ha : Around (celQ (quadR l m).1) b) {i : Int} (h0 : 0 ≤ i) (h1 : i < (lastL (l.map toCl)).length) : (b.x ≤ (ix (lastL (l.map toCl)) i).x ∧ (ix (lastL (l.map toCl)) i).x < b.x + b.w) ∧ b.y ≤ (ix (lastL (l.map toCl)) i).y ∧ (ix (lastL (l.map toCl)) i).y < b.y + b.h :=
  ha.rng _ _ (h.at (ix_memC h0 h1))
theorem QuadOk.any (h : QuadOk l m) {p : Cl → Bool} (he : ∃ X Y, celQ (quadR l m).1 X Y ≠ 0 ∧ ∀ c : Cl, c.x = X → c.y = Y → p c = true) : (lastL (l.map toCl)).any p = true := by
  obtain ⟨X, Y, hc, hp⟩ := he
  rw [h.last] at hc
  obtain ⟨c, hm, e1, e2⟩ := stA_is hc
  exact List.any_eq_true.2 ⟨c, hm, hp c e1 e2⟩
theorem QuadOk.west (h : QuadOk l m) {b : Bx} (ha : Around (celQ (quadR l m).1) b) : (lastL (l.map toCl)).any (fun c => decide (c.x = b.x)) = true := by
  obtain ⟨Y, hY⟩ := ha.west; exact h.any ⟨_, _, hY, fun c e _ => decide_eq_true e⟩
theorem QuadOk.east (h : QuadOk l m) {b : Bx} (ha : Around (celQ (quadR l m).1) b) : (lastL (l.map toCl)).any (fun c => decide (c.x = b.x + b.w - 1)) = true := by
  obtain ⟨Y, hY⟩ := ha.east; exact h.any ⟨_, _, hY, fun c e _ => decide_eq_true e⟩
theorem QuadOk.north (h : QuadOk l m) {b : Bx} (ha : Around (celQ (quadR l m).1) b) : (lastL (l.map toCl)).any (fun c => decide (c.y = b.y)) = true := by
  obtain ⟨Y, hY⟩ := ha.north; exact h.any ⟨_, _, hY, fun c _ e => decide_eq_true e⟩
theorem QuadOk.south (h : QuadOk l m) {b : Bx} (ha : Around (celQ (quadR l m).1) b) : (lastL (l.map toCl)).any (fun c => decide (c.y = b.y + b.h - 1)) = true := by
  obtain ⟨Y, hY⟩ := ha.south; exact h.any ⟨_, _, hY, fun c _ e => decide_eq_true e⟩
/-! #### one cell more -/
theorem more_cel {c : RCl} {n : Int} (h : QuadOk l m) (k : QuadOk (l ++ [c]) n) (X Y : Int) : celQ (quadR (l ++ [c]) n).1 X Y = if (toCl c).x = X ∧ (toCl c).y = Y then (toCl c).st else celQ (quadR l m).1 X Y := by
  rw [k.cel, h.cel, List.map_append]
  exact stL_snoc _ _ _ _
theorem more_at {c : RCl} {n : Int} (h : QuadOk l m) (k : QuadOk (l ++ [c]) n) (hs : c.st ≠ 0) : celQ (quadR (l ++ [c]) n).1 (toCl c).x (toCl c).y ≠ 0 := by
  rw [more_cel h k, if_pos ⟨rfl, rfl⟩]; exact hs
theorem more_some {c : RCl} {n : Int} (h : QuadOk l m) (k : QuadOk (l ++ [c]) n) (hs : c.st ≠ 0) : (bxs (quadR (l ++ [c]) n).1).some = true := by
  refine Classical.byContradiction fun hn => ?_
  have hq := box_no k.can (by simpa using hn)
  have := more_at h k hs
  rw [hq, celQ_nil] at this; exact this rfl
theorem more_up {c : RCl} {n : Int} (h : QuadOk l m) (k : QuadOk (l ++ [c]) n) (hs : c.st ≠ 0) {X Y : Int} (hc : celQ (quadR l m).1 X Y ≠ 0) : celQ (quadR (l ++ [c]) n).1 X Y ≠ 0 := by
  rw [more_cel h k]; split
  · exact hs
  · exact hc
theorem more_in {c : RCl} {n : Int} (h : QuadOk l m) (k : QuadOk (l ++ [c]) n) (hs : c.st ≠ 0) : ((bxOf (quadR (l ++ [c]) n).1).x ≤ (toCl c).x ∧ (toCl c).x < (bxOf (quadR (l ++ [c]) n).1).x + (bxOf (quadR (l ++ [c]) n).1).w) ∧ (bxOf (quadR (l ++ [c]) n).1).y ≤ (toCl c).y ∧ (toCl c).y < (bxOf (quadR (l ++ [c]) n).1).y + (bxOf (quadR (l ++ [c]) n).1).h :=
  (box_around k.can (more_some h k hs)).rng _ _ (more_at h k hs)
theorem more_one {c : RCl} {n : Int} (h : QuadOk l m) (k : QuadOk (l ++ [c]) n) (hs : c.st ≠ 0) (h0 : (bxs (quadR l m).1).some = false) : (bxOf (quadR (l ++ [c]) n).1).w = 1 ∧ (bxOf (quadR (l ++ [c]) n).1).h = 1 := by
  have ha := box_around k.can (more_some h k hs)
  have hq := box_no h.can h0
  have one : ∀ {X Y : Int}, celQ (quadR (l ++ [c]) n).1 X Y ≠ 0 → (toCl c).x = X ∧ (toCl c).y = Y := fun {X Y} hc => Classical.byContradiction fun hn => by
    rw [more_cel h k, if_neg hn, hq, celQ_nil] at hc; exact hc rfl
  obtain ⟨_, w⟩ := ha.west; obtain ⟨_, e⟩ := ha.east; obtain ⟨_, n'⟩ := ha.north; obtain ⟨_, s⟩ := ha.south
  have := one w; have := one e; have := one n'; have := one s
  omega
theorem more_le {c : RCl} {n : Int} (h : QuadOk l m) (k : QuadOk (l ++ [c]) n) (hs : c.st ≠ 0) (h0 : (bxs (quadR l m).1).some = true) :
    ((bxOf (quadR (l ++ [c]) n).1).x ≤ (bxOf (quadR l m).1).x ∧ (bxOf (quadR (l ++ [c]) n).1).y ≤ (bxOf (quadR l m).1).y) ∧
    (bxOf (quadR l m).1).x + (bxOf (quadR l m).1).w ≤ (bxOf (quadR (l ++ [c]) n).1).x + (bxOf (quadR (l ++ [c]) n).1).w ∧ (bxOf (quadR l m).1).y + (bxOf (quadR l m).1).h ≤ (bxOf (quadR (l ++ [c]) n).1).y + (bxOf (quadR (l ++ [c]) n).1).h := by
  have hb := box_around k.can (more_some h k hs)
  have ha := box_around h.can h0
  obtain ⟨_, w⟩ := ha.west; obtain ⟨_, e⟩ := ha.east; obtain ⟨_, n'⟩ := ha.north; obtain ⟨_, s⟩ := ha.south
  have := hb.rng _ _ (more_up h k hs w); have := hb.rng _ _ (more_up h k hs e); have := hb.rng _ _ (more_up h k hs n'); have := hb.rng _ _ (more_up h k hs s)
  omega
end Go.Gw

set_option maxRecDepth 20000
set_option linter.unusedSimpArgs false
set_option linter.unusedVariables false
namespace Go.Proofs.Ytfljelnfjbbknaa.Lm
open Go.RowKit Go.Gw
end Go.Proofs.Ytfljelnfjbbknaa.Lm
