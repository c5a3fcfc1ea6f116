/- Part of the proof that is named in YtdeiiagkbbimhaaNRowCanJust: a library for walks, or a function's walk. -/
import Derived.Test.YtdeiiagkbbimhaaNJ
import Derived.Test.YtdeiiagkbbimhaaCanAll
import Derived.Test.YtdeiiagkbbimhaaGw20
set_option maxRecDepth 20000
set_option linter.unusedSimpArgs false
set_option linter.unusedVariables false
namespace Go.Proofs.Ytdeiiagkbbimhaa
open Go.RowKit Go.Gw
theorem inner_any {va : Value} {l : List Nd} {F : Nat → Prop} {w : World} (hl : Sl Kd.node w F va l) {n k : Int} (hl_ok : looseB l = true) (h0 : 1 ≤ n) (h1 : n ≤ l.length) (hv : (ix l (n - 1)).lv ≠ 1) (k0 : 0 ≤ k) (k1 : k < 4) :
    Calls Try.prog 43 [va, .int .i64 n, .int .i64 k].toArray w (Pure w fun v _ => v = .int .i64 (innN l n k)) := by
  have hb0 := Below.refl w.heap.size w
  have hln1 := hl.lenle
  have hkid : (ix l (n - 1)).kid k ≠ 0 → _ := fun e => kid_in hl_ok (i := n - 1) (k := k) (by omega) (by omega) k0 k1 hv e
  have hkr := kid_rng hl_ok (i := n - 1) (by omega) (by omega) hv k k0 k1
  unfold Nd.kid at hkid hkr
  refine enter Try.func43 rfl rfl ?_
  refine w_seq ?_
  refine w_region ?_
  refine st (s_assign rfl ?_)
  refine r_end ?_
  refine n_then ?_
  refine w_seq ?_
  refine w_seq ?_
  refine w_region ?_
  refine st (s_move rfl ?_)
  refine st (s_move rfl ?_)
  refine st (s_sub rfl rfl (by omega) ?_)
  refine st (s_move rfl ?_)
  refine st (s_idx sl22 rfl rfl (hl.at0 hb0) (by omega) (by omega) ?_)
  rintro b1 o1 _ ⟨rfl, _⟩ hc1 hF1 hlt1
  have hl_1 := Loc.lt hF1
  refine st (s_faddr fld35_1 rfl ?_)
  refine st (s_iaddr arr33 rfl rfl (by omega) (by omega) ?_)
  refine st (s_load4 one3 rfl hc1 (j := 1) rfl rfl (by omega) (by omega) ?_)
  refine st (s_assign rfl ?_)
  refine r_end ?_
  refine n_then ?_
  refine w_seq ?_
  refine w_region ?_
  refine st (s_move rfl ?_)
  refine st (s_gt rfl rfl ?_)
  refine r_end ?_
  refine n_then ?_
  refine w_condP rfl (fun h1 => ?_) (fun h1 => ?_)
  · refine w_seq ?_
    refine w_region ?_
    refine st (s_move rfl ?_)
    refine st (s_move rfl ?_)
    refine st (s_sub rfl rfl (by omega) ?_)
    refine st (s_move rfl ?_)
    refine st (s_sub rfl rfl (by omega) ?_)
    refine st (s_idx sl22 rfl rfl (hl.at0 hb0) (by omega) (by omega) ?_)
    rintro b2 o2 _ ⟨rfl, _⟩ hc2 hF2 hlt2
    have hl_2 := Loc.lt hF2
    refine st (s_faddr fld35_1 rfl ?_)
    refine st (s_iaddr arr33 rfl rfl (by omega) (by omega) ?_)
    refine st (s_load4 one3 rfl hc2 (j := 1) rfl rfl (by omega) (by omega) ?_)
    refine st (s_assign rfl ?_)
    refine r_end ?_
    refine n_then ?_
    refine w_ret1 rfl rfl ?_
    exact ⟨_, rfl, hb0, by unfold innN Nd.kid; rw [if_pos (by omega)]⟩
  · refine w_skip' ?_
    refine n_then ?_
    refine w_seq ?_
    refine w_region ?_
    refine st (s_assign rfl ?_)
    refine r_end ?_
    refine n_then ?_
    refine w_ret1 rfl rfl ?_
    exact ⟨_, rfl, hb0, by unfold innN Nd.kid; rw [if_neg (by omega)]⟩

theorem rinner_any {va : Value} {l : List Nd} {F : Nat → Prop} {w : World} (hl : Sl Kd.node w F va l) {n k : Int} (hl_ok : looseB l = true) (h0 : 1 ≤ n) (h1 : n ≤ l.length) (hv : (ix l (n - 1)).lv ≠ 1) (k0 : 0 ≤ k) (k1 : k < 4) :
    Calls Try.prog 44 [va, .int .i64 n, .int .i64 k].toArray w (Pure w fun v _ => v = .int .i64 (innN l n k)) := by
  have hb0 := Below.refl w.heap.size w
  have hln1 := hl.lenle
  have hkid : (ix l (n - 1)).kid k ≠ 0 → _ := fun e => kid_in hl_ok (i := n - 1) (k := k) (by omega) (by omega) k0 k1 hv e
  have hkr := kid_rng hl_ok (i := n - 1) (by omega) (by omega) hv k k0 k1
  unfold Nd.kid at hkid hkr
  refine enter Try.func44 rfl rfl ?_
  refine w_seq ?_
  refine w_region ?_
  refine st (s_assign rfl ?_)
  refine r_end ?_
  refine n_then ?_
  refine w_seq ?_
  refine w_region ?_
  refine st (s_move rfl ?_)
  refine st (s_move rfl ?_)
  refine st (s_sub rfl rfl (by omega) ?_)
  refine st (s_move rfl ?_)
  refine st (s_idx sl22 rfl rfl (hl.at0 hb0) (by omega) (by omega) ?_)
  rintro b1 o1 _ ⟨rfl, _⟩ hc1 hF1 hlt1
  have hl_1 := Loc.lt hF1
  refine st (s_faddr fld35_1 rfl ?_)
  refine st (s_iaddr arr33 rfl rfl (by omega) (by omega) ?_)
  refine st (s_load4 one3 rfl hc1 (j := 1) rfl rfl (by omega) (by omega) ?_)
  refine st (s_assign rfl ?_)
  refine r_end ?_
  refine n_then ?_
  refine w_seq ?_
  refine w_seq ?_
  refine w_region ?_
  refine st (s_move rfl ?_)
  refine st (s_eq rfl rfl ?_)
  refine r_end ?_
  refine n_then ?_
  refine w_condP rfl (fun h1 => ?_) (fun h1 => ?_)
  · refine w_seq ?_
    refine w_region ?_
    refine st (s_assign rfl ?_)
    refine r_end ?_
    refine n_then ?_
    refine w_ret1 rfl rfl ?_
    exact ⟨_, rfl, hb0, by unfold innN Nd.kid; rw [if_neg (by omega)]⟩
  · refine w_skip' ?_
    refine n_then ?_
    refine w_seq ?_
    refine w_region ?_
    refine st (s_move rfl ?_)
    refine st (s_move rfl ?_)
    refine st (s_sub rfl rfl (by omega) ?_)
    refine st (s_move rfl ?_)
    refine st (s_sub rfl rfl (by omega) ?_)
    refine st (s_idx sl22 rfl rfl (hl.at0 hb0) (by omega) (by omega) ?_)
    rintro b2 o2 _ ⟨rfl, _⟩ hc2 hF2 hlt2
    have hl_2 := Loc.lt hF2
    refine st (s_faddr fld35_1 rfl ?_)
    refine st (s_iaddr arr33 rfl rfl (by omega) (by omega) ?_)
    refine st (s_load4 one3 rfl hc2 (j := 1) rfl rfl (by omega) (by omega) ?_)
    refine st (s_assign rfl ?_)
    refine r_end ?_
    refine n_then ?_
    refine w_ret1 rfl rfl ?_
    exact ⟨_, rfl, hb0, by unfold innN Nd.kid; rw [if_pos (by omega)]⟩

theorem clone_any {va : Value} {l : List Nd} {F : Nat → Prop} {w : World} (hl : Sl Kd.node w F va l) (hll : l.length ≤ 1000000) :
    Calls Try.prog 42 [va].toArray w (Pure w fun v w' => Own Kd.node 35 w.heap.size w' (fun _ => False) v (l)) := by
  have hb0 := Below.refl w.heap.size w
  have hln1 := hl.lenle
  refine enter Try.func42 rfl rfl ?_
  refine w_seq ?_
  refine w_region ?_
  refine st (s_assign rfl ?_)
  refine r_end ?_
  refine n_then ?_
  refine w_seq ?_
  refine w_seq ?_
  refine w_region ?_
  refine st (s_move rfl ?_)
  refine st (s_slnil sl22 rfl rfl (hl.at0 hb0) ?_)
  refine r_end ?_
  refine n_then ?_
  refine w_cond rfl (fun h1 => ?_) (fun h1 => ?_)
  · refine w_seq ?_
    refine w_region ?_
    refine st (s_assign rfl ?_)
    refine r_end ?_
    refine n_then ?_
    refine w_ret1 rfl rfl ?_
    have e := nil_of_nilS (hl.at0 hb0) h1
    subst e
    exact ⟨_, rfl, hb0, Own.nil _ _ _ _ _⟩
  · refine w_skip' ?_
    refine n_then ?_
    refine w_seq ?_
    refine w_region ?_
    refine st (s_bslice0 (K := Kd.node) (base := w.heap.size) (F := (fun _ => False)) sl22 (by omega) (fun _ h => h.elim) ?_)
    intro v1 w1 hO1 k1
    have hb1 := below_g0 hb0 k1
    have hz1 := hb1.size
    refine st (s_move rfl ?_)
    refine st (s_append (K := Kd.node) sl22 rfl rfl hO1 ((hl.at0 hb1).weak (fun k hk h => h.elim (fun h => by first | exact h.elim | exact h | exact Or.inl h) (fun h => by have h9 := (hO1.lt k h).1; first | exact Or.inr h9 | (simp [Loc]; omega)))) node_ones (by simp; omega) (by simp; omega) (by first | exact Nat.le_refl _ | omega) (fun _ h => h.elim) ?_)
    intro v2 w2 hO2 k2 hr1
    rw [List.nil_append] at hO2
    have hb2 := hb1.grown k2 hb1.size (fun k_ hk_ => (hO1.lt k_ hk_).1)
    have hz2 := hb2.size
    refine st (s_assign rfl ?_)
    refine r_end ?_
    refine n_then ?_
    refine w_ret1 rfl rfl ?_
    exact ⟨_, rfl, hb2, hO2⟩

theorem shrink_any {va : Value} {l : List Nd} {F : Nat → Prop} {w : World} (hl : Sl Kd.node w F va l) {n0 : Int} (hl_ok : looseB l = true) (hll : l.length ≤ 100000) (q0 : 0 ≤ n0) (q1 : n0 ≤ l.length) :
    Calls Try.prog 33 [va, .int .i64 n0].toArray w (Pure w fun v w' => ∃ L n sv, v = .tuple #[sv, .int .i64 n] ∧ Own Kd.node 35 w.heap.size w' (fun _ => False) sv (L) ∧ looseB L = true ∧ 0 ≤ n ∧ n ≤ L.length ∧ tr L n = shr0 (tr l n0) ∧ hol (tr L n) = false ∧ L.length ≤ l.length + 1329) := by
  have hb0 := Below.refl w.heap.size w
  have hln1 := hl.lenle
  have hlen := hasL_length l
  refine enter Try.func33 rfl rfl ?_
  refine w_seq ?_
  refine w_region ?_
  refine st (s_assign rfl ?_)
  refine st (s_assign rfl ?_)
  refine r_end ?_
  refine n_then ?_
  refine w_seq ?_
  refine w_region ?_
  refine st (s_move rfl ?_)
  refine st (s_call fn42 rfl (clone_any (hl.at0 hb0) (by omega)) ?_)
  rintro v1 w1 ⟨hq1, hS1⟩
  have k1 := grown_of_below hq1 none
  have hO1 := Own.rebase hS1 hb0.size
  have hb1 := below_g0 hb0 k1
  have hz1 := hb1.size
  refine st (s_assign rfl ?_)
  refine r_end ?_
  refine n_then ?_
  refine w_seq ?_
  refine w_seq ?_
  refine w_region ?_
  refine st (s_move rfl ?_)
  refine st (s_move rfl ?_)
  refine st (s_call fn15 rfl (empty_any hO1.sl hl_ok (by omega) (by omega) (by omega)) ?_)
  rintro _ w2 ⟨hq2, rfl⟩
  have k2 := grown_of_below hq2 none
  have hz2 := hq2.size
  have hb2 := below_g0 hb1 k2
  have hz3 := hb2.size
  have hO2 := hO1.g0 k2
  refine r_end ?_
  refine n_then ?_
  refine w_cond rfl (fun h1 => ?_) (fun h1 => ?_)
  · refine w_seq ?_
    refine w_region ?_
    refine st (s_move rfl ?_)
    refine st (s_assign rfl ?_)
    refine st (s_assign rfl ?_)
    refine r_end ?_
    refine n_then ?_
    refine w_ret2 rfl rfl rfl ?_
    obtain ⟨e1, e2⟩ := shr_nil hl_ok q0 q1 (by simpa using h1)
    exact ⟨_, rfl, hb2, _, _, _, rfl, hO2, hl_ok, by omega, by omega, e1, e2, by omega⟩
  · have hemp := emp_has hl_ok q0 q1 (by simpa using h1)
    have hn1 := hemp.2
    refine w_skip' ?_
    refine n_then ?_
    refine w_seq ?_
    refine w_block ?_
    refine w_loop (α := Int × List Nd × Value) (fun ((n, L, vk) : Int × List Nd × Value) => [(0, vk), (1, .int .i64 n), (4, .slice none 0 0), (5, .int .i64 0)]) (fun ((n, L, vk) : Int × List Nd × Value) W => Below w.heap.size w W ∧ (1 ≤ n ∧ n ≤ L.length) ∧ (looseB L = true) ∧ (shr (tr L n) = shr (tr l n0)) ∧ ((L.length : Int) + (ix L (n - 1)).lv ≤ l.length + 1329) ∧ (Own Kd.node 35 w.heap.size W (fun _ => False) vk (L))) (fun ((n, L, vk) : Int × List Nd × Value) => ((ix L (n - 1)).lv).toNat) ((n0), (l), (v1)) ⟨hb2, by omega, hl_ok, rfl, by have := lv_in hl_ok (i := n0 - 1) (by omega) (by omega); omega, hO2⟩ (by exact ⟨rfl, rfl, rfl, rfl, trivial⟩) ?_
    rintro ⟨n, L, vk⟩ w3 ⟨hb3, hn, hLok, hT, hLl, hOk⟩
    dsimp only at *
    have hz4 := hb3.size
    have hlenL := hasL_length L
    have hlv := lv_in hLok (i := n - 1) (by omega) (by omega)
    refine w_seq ?_
    refine w_seq ?_
    refine w_region ?_
    refine st (s_move rfl ?_)
    refine st (s_move rfl ?_)
    refine st (s_call fn17 rfl (hollow_any hOk.sl hLok (by omega) (by omega) (by omega)) ?_)
    rintro _ w4 ⟨hq3, rfl⟩
    have k3 := grown_of_below hq3 none
    have hz5 := hq3.size
    have hb4 := below_g0 hb3 k3
    have hz6 := hb4.size
    have hO3 := hOk.g0 k3
    refine r_end ?_
    refine n_then ?_
    refine w_cond rfl (fun h2 => ?_) (fun h2 => ?_)
    · have hLv := ((hollowB_iff L n).1 h2).2.1
      refine w_skip' ?_
      refine n_then ?_
      refine w_block ?_
      refine w_seq ?_
      refine w_region ?_
      refine st (s_move rfl ?_)
      refine st (s_move rfl ?_)
      refine st (s_sub rfl rfl (by omega) ?_)
      refine st (s_idx sl22 rfl rfl hO3.sl (by omega) (by omega) ?_)
      rintro b1 o1 _ ⟨rfl, _⟩ hc1 hF1 hlt1
      refine st (s_faddr fld35_0 rfl ?_)
      refine st (s_load one3 rfl hc1 (j := 0) rfl ?_)
      refine st (s_sub rfl rfl (by omega) ?_)
      refine st (s_build (ps := [(0, .tmp 23)]) (ccs := [#[.int .i64 ((ix L (n - 1)).lv - 1)]]) (cells := [.int .i64 ((ix L (n - 1)).lv - 1), .int .i64 0, .int .i64 0, .int .i64 0, .int .i64 0]) rfl rfl (by kernel_rfl) ?_)
      refine st (s_alloc zero35 ?_)
      intro g1 w5 hg1 hB1 k4 hs1
      have hn1 := own_new hO3 hg1
      have hb5 := below_g0 hb4 k4
      have hO4 := hO3.g0 k4
      refine st0 (s_storeN row35 rfl rfl hB1 rfl rfl rfl ?_)
      intro w6 hB2 k5 hs2
      have hb6 := below_g hb5 k5 (by omega)
      have hO5 := Own.keptN node_flat hO4 k5 hn1
      clear hB1
      refine r_end ?_
      refine n_then ?_
      refine w_seq ?_
      refine w_seq ?_
      refine w_region ?_
      refine st (s_move rfl ?_)
      refine r_end ?_
      refine n_then ?_
      refine w_block ?_
      refine w_loop (α := Int × Int × Int × Int × Int) (fun ((k, a, b, c, e) : Int × Int × Int × Int × Int) => [(0, vk), (1, .int .i64 n), (4, .slice none 0 0), (5, .int .i64 0), (6, .pointer (some ⟨g1, 0, none⟩)), (25, .int .i64 k)]) (fun ((k, a, b, c, e) : Int × Int × Int × Int × Int) W => Below w.heap.size w W ∧ (0 ≤ k ∧ k ≤ 4) ∧ (∀ j : Int, 0 ≤ j → j < k → sel4 a b c e j = innN L n j) ∧ (Blk W g1 35 [.int .i64 ((ix L (n - 1)).lv - 1), .int .i64 a, .int .i64 b, .int .i64 c, .int .i64 e].toArray) ∧ (Own Kd.node 35 w.heap.size W (fun _ => False) vk (L))) (fun ((k, a, b, c, e) : Int × Int × Int × Int × Int) => (4 - k).toNat) ((0), (0), (0), (0), (0)) ⟨hb6, by omega, fun j _ _ => by omega, hB2, hO5⟩ (by exact ⟨rfl, rfl, rfl, rfl, rfl, rfl, trivial⟩) ?_
      rintro ⟨k, a, b, c, e⟩ w7 ⟨hb7, hk, ha, hBj, hOj⟩
      dsimp only at *
      have hz7 := hb7.size
      refine w_seq ?_
      refine w_region ?_
      refine st (s_lt rfl rfl ?_)
      refine r_end ?_
      refine n_then ?_
      refine w_seq ?_
      refine w_condP rfl (fun h3 => ?_) (fun h3 => ?_)
      · refine w_skip' ?_
        refine n_then ?_
        refine w_seq ?_
        refine w_block ?_
        refine w_seq ?_
        refine w_region ?_
        refine st (s_move rfl ?_)
        refine st (s_assign rfl ?_)
        refine r_end ?_
        refine n_then ?_
        refine w_region ?_
        refine st (s_move rfl ?_)
        refine st (s_move rfl ?_)
        refine st (s_move rfl ?_)
        refine st (s_move rfl ?_)
        refine st (s_call fn43 rfl (inner_any hOj.sl hLok (by omega) (by omega) hLv (by omega) (by omega)) ?_)
        rintro _ w8 ⟨hq4, rfl⟩
        have k6 := grown_of_below hq4 none
        have hz8 := hq4.size
        have hb8 := below_g0 hb7 k6
        have hz9 := hb8.size
        have hO6 := hOj.g0 k6
        refine st (s_faddr fld35_1 rfl ?_)
        refine st (s_iaddr arr33 rfl rfl (by omega) (by omega) ?_)
        refine st0 (s_storeK one3 rfl rfl (hBj.g0 k6) (by omega) (by omega) ?_)
        intro w9 hB3 k7 hs3
        have hb9 := below_g hb8 k7 (by omega)
        have hO7 := Own.keptN node_flat hO6 k7 hn1
        refine r_end ?_
        refine n_block ?_
        refine n_then ?_
        refine w_region ?_
        refine st (s_add rfl rfl (by omega) ?_)
        refine st (s_move rfl ?_)
        refine r_end ?_
        exact n_round (((k + 1)), ((if k = 0 then innN L n k else a)), ((if k = 1 then innN L n k else b)), ((if k = 2 then innN L n k else c)), ((if k = 3 then innN L n k else e))) ⟨hb9, by omega, sel4_step (by omega) (by omega) ha rfl, hB3, hO7⟩ (by omega) (by exact ⟨rfl, rfl, rfl, rfl, rfl, rfl, trivial⟩)
      · refine w_exit' ?_
        refine n_then_exit ?_
        refine n_then_exit ?_
        refine n_block_exit ?_
        refine n_then ?_
        refine w_seq ?_
        refine w_region ?_
        refine st (s_move rfl ?_)
        refine st (s_loadW row35 rfl hBj.range rfl ?_)
        refine st (s_bslice (ps := [(0, .tmp 37)]) (ccs := [#[.int .i64 ((ix L (n - 1)).lv - 1), .int .i64 a, .int .i64 b, .int .i64 c, .int .i64 e]]) (e := 35) (cells := [.int .i64 ((ix L (n - 1)).lv - 1), .int .i64 a, .int .i64 b, .int .i64 c, .int .i64 e]) rfl rfl (by kernel_rfl) (by decide) nz35 ?_)
        intro g2 w10 hg2 hB4 k8 hs4
        have hb10 := below_g0 hb7 k8
        have hz10 := hb10.size
        have hO8 := hOj.g0 k8
        have hS2 := lit_nodes (F := fun _ => False) ([⟨((ix L (n - 1)).lv - 1), a, b, c, e⟩] : List Nd) hB4 (fun h => h) rfl (by first | decide | simp)
        refine st (s_append (K := Kd.node) sl22 rfl rfl hO8 (lit_nodes (F := Out (fun _ => False) vk) ([⟨((ix L (n - 1)).lv - 1), a, b, c, e⟩] : List Nd) hB4 (fun h => h.elim id (fun h => by have h9 := (hOj.lt _ h).2; omega)) rfl (by first | decide | simp)) node_ones (by simp; omega) (by simp; omega) (by first | exact Nat.le_refl _ | omega) (fun _ h => h.elim) ?_)
        intro v2 w11 hO9 k9 hr2
        have hn2 := own_app hn1 hr2 (by have := (hBj.g0 k8).lt; omega)
        have hb11 := hb10.grown k9 hb10.size (fun k_ hk_ => (hO8.lt k_ hk_).1)
        have hz11 := hb11.size
        refine st (s_assign rfl ?_)
        refine r_end ?_
        refine n_then ?_
        refine w_region ?_
        refine st (s_move rfl ?_)
        refine st (s_len sl22 rfl hO9.sl ?_)
        refine st (s_assign rfl ?_)
        refine r_end ?_
        refine n_block ?_
        have hX : (⟨(ix L (n - 1)).lv - 1, a, b, c, e⟩ : Nd) = innX L n := innX_eq (fun j j0 j1 => ha j j0 (by omega))
        have hL9 := inn_loose hLok (by omega) (by omega) hLv
        have hl9 : ((L ++ [innX L n]).length : Int) = L.length + 1 := by simp
        have hi9 : (ix (L ++ [innX L n]) ((L.length : Int) + 1 - 1)) = innX L n := by rw [show (L.length : Int) + 1 - 1 = L.length by omega]; unfold ix; simp
        have hx9 : (innX L n).lv = (ix L (n - 1)).lv - 1 := rfl
        exact n_round ((((L ++ ([⟨((ix L (n - 1)).lv - 1), a, b, c, e⟩] : List Nd)).length : Int)), (L ++ ([⟨((ix L (n - 1)).lv - 1), a, b, c, e⟩] : List Nd)), (v2)) ⟨hb11, by dsimp only; rw [hX]; omega, by dsimp only; rw [hX]; exact hL9, by dsimp only; rw [hX, shr_step hLok (by omega) (by omega) h2, hT], by dsimp only; rw [hX, hl9, hi9, hx9]; omega, hO9⟩ (by dsimp only; rw [hX, hl9, hi9, hx9]; omega) (by exact ⟨rfl, rfl, rfl, rfl, trivial⟩)
    · refine w_exit' ?_
      refine n_then_exit ?_
      refine n_then_exit ?_
      refine n_block_exit ?_
      refine n_then ?_
      refine w_seq ?_
      refine w_region ?_
      refine st (s_move rfl ?_)
      refine st (s_move rfl ?_)
      refine st (s_assign rfl ?_)
      refine st (s_assign rfl ?_)
      refine r_end ?_
      refine n_then ?_
      refine w_ret2 rfl rfl rfl ?_
      obtain ⟨e1, e2⟩ := shr_end hLok (by omega) (by omega) h2 hT hemp.1
      exact ⟨_, rfl, hb4, _, _, _, rfl, hO3, hLok, by omega, by omega, e1, e2, by omega⟩

theorem rshrink_any {va : Value} {l : List Nd} {F : Nat → Prop} {w : World} (hl : Sl Kd.node w F va l) {n0 : Int} (hl_ok : looseB l = true) (hll : l.length ≤ 100000) (q0 : 0 ≤ n0) (q1 : n0 ≤ l.length) :
    Calls Try.prog 36 [va, .int .i64 n0].toArray w (Pure w fun v w' => ∃ L n sv, v = .tuple #[sv, .int .i64 n] ∧ Own Kd.node 35 w.heap.size w' (fun _ => False) sv (L) ∧ looseB L = true ∧ 0 ≤ n ∧ n ≤ L.length ∧ tr L n = shr0 (tr l n0) ∧ hol (tr L n) = false ∧ L.length ≤ l.length + 1329) := by
  have hb0 := Below.refl w.heap.size w
  have hln1 := hl.lenle
  have hlen := hasL_length l
  refine enter Try.func36 rfl rfl ?_
  refine w_seq ?_
  refine w_region ?_
  refine st (s_assign rfl ?_)
  refine st (s_assign rfl ?_)
  refine r_end ?_
  refine n_then ?_
  refine w_seq ?_
  refine w_region ?_
  refine st (s_bslice0 (K := Kd.node) (base := w.heap.size) (F := (fun _ => False)) sl22 (by omega) (fun _ h => h.elim) ?_)
  intro v1 w1 hO1 k1
  have hb1 := below_g0 hb0 k1
  have hz1 := hb1.size
  refine st (s_move rfl ?_)
  refine st (s_append (K := Kd.node) sl22 rfl rfl hO1 ((hl.at0 hb1).weak (fun k hk h => h.elim (fun h => by first | exact h.elim | exact h | exact Or.inl h) (fun h => by have h9 := (hO1.lt k h).1; first | exact Or.inr h9 | (simp [Loc]; omega)))) node_ones (by simp; omega) (by simp; omega) (by first | exact Nat.le_refl _ | omega) (fun _ h => h.elim) ?_)
  intro v2 w2 hO2 k2 hr1
  rw [List.nil_append] at hO2
  have hb2 := hb1.grown k2 hb1.size (fun k_ hk_ => (hO1.lt k_ hk_).1)
  have hz2 := hb2.size
  refine st (s_assign rfl ?_)
  refine r_end ?_
  refine n_then ?_
  refine w_seq ?_
  refine w_seq ?_
  refine w_region ?_
  refine st (s_move rfl ?_)
  refine st (s_move rfl ?_)
  refine st (s_call fn16 rfl (rempty_any hO2.sl hl_ok (by omega) (by omega) (by omega)) ?_)
  rintro _ w3 ⟨hq1, rfl⟩
  have k3 := grown_of_below hq1 none
  have hz3 := hq1.size
  have hb3 := below_g0 hb2 k3
  have hz4 := hb3.size
  have hO3 := hO2.g0 k3
  refine r_end ?_
  refine n_then ?_
  refine w_cond rfl (fun h1 => ?_) (fun h1 => ?_)
  · refine w_seq ?_
    refine w_region ?_
    refine st (s_move rfl ?_)
    refine st (s_assign rfl ?_)
    refine st (s_assign rfl ?_)
    refine r_end ?_
    refine n_then ?_
    refine w_ret2 rfl rfl rfl ?_
    obtain ⟨e1, e2⟩ := shr_nil hl_ok q0 q1 (by simpa using h1)
    exact ⟨_, rfl, hb3, _, _, _, rfl, hO3, hl_ok, by omega, by omega, e1, e2, by omega⟩
  · have hemp := emp_has hl_ok q0 q1 (by simpa using h1)
    have hn1 := hemp.2
    refine w_skip' ?_
    refine n_then ?_
    refine w_seq ?_
    refine w_block ?_
    refine w_loop (α := Int × List Nd × Value) (fun ((n, L, vk) : Int × List Nd × Value) => [(1, .int .i64 n), (4, .slice none 0 0), (5, .int .i64 0), (6, vk)]) (fun ((n, L, vk) : Int × List Nd × Value) W => Below w.heap.size w W ∧ (1 ≤ n ∧ n ≤ L.length) ∧ (looseB L = true) ∧ (shr (tr L n) = shr (tr l n0)) ∧ ((L.length : Int) + (ix L (n - 1)).lv ≤ l.length + 1329) ∧ (Own Kd.node 35 w.heap.size W (fun _ => False) vk (L))) (fun ((n, L, vk) : Int × List Nd × Value) => ((ix L (n - 1)).lv).toNat) ((n0), (l), (v2)) ⟨hb3, by omega, hl_ok, rfl, by have := lv_in hl_ok (i := n0 - 1) (by omega) (by omega); omega, hO3⟩ (by exact ⟨rfl, rfl, rfl, rfl, trivial⟩) ?_
    rintro ⟨n, L, vk⟩ w4 ⟨hb4, hn, hLok, hT, hLl, hOk⟩
    dsimp only at *
    have hz5 := hb4.size
    have hlenL := hasL_length L
    have hlv := lv_in hLok (i := n - 1) (by omega) (by omega)
    refine w_seq ?_
    refine w_seq ?_
    refine w_region ?_
    refine st (s_move rfl ?_)
    refine st (s_move rfl ?_)
    refine st (s_call fn18 rfl (rhollow_any hOk.sl hLok (by omega) (by omega) (by omega)) ?_)
    rintro _ w5 ⟨hq2, rfl⟩
    have k4 := grown_of_below hq2 none
    have hz6 := hq2.size
    have hb5 := below_g0 hb4 k4
    have hz7 := hb5.size
    have hO4 := hOk.g0 k4
    refine r_end ?_
    refine n_then ?_
    refine w_cond rfl (fun h2 => ?_) (fun h2 => ?_)
    · have hLv := ((hollowB_iff L n).1 h2).2.1
      refine w_skip' ?_
      refine n_then ?_
      refine w_block ?_
      refine w_seq ?_
      refine w_region ?_
      refine st (s_move rfl ?_)
      refine st (s_move rfl ?_)
      refine st (s_sub rfl rfl (by omega) ?_)
      refine st (s_idx sl22 rfl rfl hO4.sl (by omega) (by omega) ?_)
      rintro b1 o1 _ ⟨rfl, _⟩ hc1 hF1 hlt1
      refine st (s_faddr fld35_0 rfl ?_)
      refine st (s_load one3 rfl hc1 (j := 0) rfl ?_)
      refine st (s_sub rfl rfl (by omega) ?_)
      refine st (s_build (ps := [(0, .tmp 25)]) (ccs := [#[.int .i64 ((ix L (n - 1)).lv - 1)]]) (cells := [.int .i64 ((ix L (n - 1)).lv - 1), .int .i64 0, .int .i64 0, .int .i64 0, .int .i64 0]) rfl rfl (by kernel_rfl) ?_)
      refine st (s_alloc zero35 ?_)
      intro g1 w6 hg1 hB1 k5 hs1
      have hn1 := own_new hO4 hg1
      have hb6 := below_g0 hb5 k5
      have hO5 := hO4.g0 k5
      refine st0 (s_storeN row35 rfl rfl hB1 rfl rfl rfl ?_)
      intro w7 hB2 k6 hs2
      have hb7 := below_g hb6 k6 (by omega)
      have hO6 := Own.keptN node_flat hO5 k6 hn1
      clear hB1
      refine r_end ?_
      refine n_then ?_
      refine w_seq ?_
      refine w_seq ?_
      refine w_region ?_
      refine st (s_assign rfl ?_)
      refine r_end ?_
      refine n_then ?_
      refine w_block ?_
      refine w_loop (α := Int × Int × Int × Int × Int) (fun ((k, a, b, c, e) : Int × Int × Int × Int × Int) => [(1, .int .i64 n), (4, .slice none 0 0), (5, .int .i64 0), (6, vk), (7, .pointer (some ⟨g1, 0, none⟩)), (8, .int .i64 k)]) (fun ((k, a, b, c, e) : Int × Int × Int × Int × Int) W => Below w.heap.size w W ∧ (0 ≤ k ∧ k ≤ 4) ∧ (∀ j : Int, 0 ≤ j → j < k → sel4 a b c e j = innN L n j) ∧ (Blk W g1 35 [.int .i64 ((ix L (n - 1)).lv - 1), .int .i64 a, .int .i64 b, .int .i64 c, .int .i64 e].toArray) ∧ (Own Kd.node 35 w.heap.size W (fun _ => False) vk (L))) (fun ((k, a, b, c, e) : Int × Int × Int × Int × Int) => (4 - k).toNat) ((0), (0), (0), (0), (0)) ⟨hb7, by omega, fun j _ _ => by omega, hB2, hO6⟩ (by exact ⟨rfl, rfl, rfl, rfl, rfl, rfl, trivial⟩) ?_
      rintro ⟨k, a, b, c, e⟩ w8 ⟨hb8, hk, ha, hBj, hOj⟩
      dsimp only at *
      have hz8 := hb8.size
      refine w_seq ?_
      refine w_seq ?_
      refine w_region ?_
      refine st (s_move rfl ?_)
      refine st (s_lt rfl rfl ?_)
      refine r_end ?_
      refine n_then ?_
      refine w_condP rfl (fun h3 => ?_) (fun h3 => ?_)
      · refine w_skip' ?_
        refine n_then ?_
        refine w_seq ?_
        refine w_block ?_
        refine w_region ?_
        refine st (s_move rfl ?_)
        refine st (s_move rfl ?_)
        refine st (s_move rfl ?_)
        refine st (s_move rfl ?_)
        refine st (s_call fn44 rfl (rinner_any hOj.sl hLok (by omega) (by omega) hLv (by omega) (by omega)) ?_)
        rintro _ w9 ⟨hq3, rfl⟩
        have k7 := grown_of_below hq3 none
        have hz9 := hq3.size
        have hb9 := below_g0 hb8 k7
        have hz10 := hb9.size
        have hO7 := hOj.g0 k7
        refine st (s_faddr fld35_1 rfl ?_)
        refine st (s_iaddr arr33 rfl rfl (by omega) (by omega) ?_)
        refine st0 (s_storeK one3 rfl rfl (hBj.g0 k7) (by omega) (by omega) ?_)
        intro w10 hB3 k8 hs3
        have hb10 := below_g hb9 k8 (by omega)
        have hO8 := Own.keptN node_flat hO7 k8 hn1
        refine r_end ?_
        refine n_block ?_
        refine n_then ?_
        refine w_region ?_
        refine st (s_move rfl ?_)
        refine st (s_add rfl rfl (by omega) ?_)
        refine st (s_assign rfl ?_)
        refine r_end ?_
        exact n_round (((k + 1)), ((if k = 0 then innN L n k else a)), ((if k = 1 then innN L n k else b)), ((if k = 2 then innN L n k else c)), ((if k = 3 then innN L n k else e))) ⟨hb10, by omega, sel4_step (by omega) (by omega) ha rfl, hB3, hO8⟩ (by omega) (by exact ⟨rfl, rfl, rfl, rfl, rfl, rfl, trivial⟩)
      · refine w_exit' ?_
        refine n_then_exit ?_
        refine n_then_exit ?_
        refine n_block_exit ?_
        refine n_then ?_
        refine w_seq ?_
        refine w_region ?_
        refine st (s_move rfl ?_)
        refine st (s_loadW row35 rfl hBj.range rfl ?_)
        refine st (s_bslice (ps := [(0, .tmp 39)]) (ccs := [#[.int .i64 ((ix L (n - 1)).lv - 1), .int .i64 a, .int .i64 b, .int .i64 c, .int .i64 e]]) (e := 35) (cells := [.int .i64 ((ix L (n - 1)).lv - 1), .int .i64 a, .int .i64 b, .int .i64 c, .int .i64 e]) rfl rfl (by kernel_rfl) (by decide) nz35 ?_)
        intro g2 w11 hg2 hB4 k9 hs4
        have hb11 := below_g0 hb8 k9
        have hz11 := hb11.size
        have hO9 := hOj.g0 k9
        have hS1 := lit_nodes (F := fun _ => False) ([⟨((ix L (n - 1)).lv - 1), a, b, c, e⟩] : List Nd) hB4 (fun h => h) rfl (by first | decide | simp)
        refine st (s_append (K := Kd.node) sl22 rfl rfl hO9 (lit_nodes (F := Out (fun _ => False) vk) ([⟨((ix L (n - 1)).lv - 1), a, b, c, e⟩] : List Nd) hB4 (fun h => h.elim id (fun h => by have h9 := (hOj.lt _ h).2; omega)) rfl (by first | decide | simp)) node_ones (by simp; omega) (by simp; omega) (by first | exact Nat.le_refl _ | omega) (fun _ h => h.elim) ?_)
        intro v3 w12 hO10 k10 hr3
        have hn2 := own_app hn1 hr3 (by have := (hBj.g0 k9).lt; omega)
        have hb12 := hb11.grown k10 hb11.size (fun k_ hk_ => (hO9.lt k_ hk_).1)
        have hz12 := hb12.size
        refine st (s_assign rfl ?_)
        refine r_end ?_
        refine n_then ?_
        refine w_region ?_
        refine st (s_move rfl ?_)
        refine st (s_len sl22 rfl hO10.sl ?_)
        refine st (s_assign rfl ?_)
        refine r_end ?_
        refine n_block ?_
        have hX : (⟨(ix L (n - 1)).lv - 1, a, b, c, e⟩ : Nd) = innX L n := innX_eq (fun j j0 j1 => ha j j0 (by omega))
        have hL9 := inn_loose hLok (by omega) (by omega) hLv
        have hl9 : ((L ++ [innX L n]).length : Int) = L.length + 1 := by simp
        have hi9 : (ix (L ++ [innX L n]) ((L.length : Int) + 1 - 1)) = innX L n := by rw [show (L.length : Int) + 1 - 1 = L.length by omega]; unfold ix; simp
        have hx9 : (innX L n).lv = (ix L (n - 1)).lv - 1 := rfl
        exact n_round ((((L ++ ([⟨((ix L (n - 1)).lv - 1), a, b, c, e⟩] : List Nd)).length : Int)), (L ++ ([⟨((ix L (n - 1)).lv - 1), a, b, c, e⟩] : List Nd)), (v3)) ⟨hb12, by dsimp only; rw [hX]; omega, by dsimp only; rw [hX]; exact hL9, by dsimp only; rw [hX, shr_step hLok (by omega) (by omega) h2, hT], by dsimp only; rw [hX, hl9, hi9, hx9]; omega, hO10⟩ (by dsimp only; rw [hX, hl9, hi9, hx9]; omega) (by exact ⟨rfl, rfl, rfl, rfl, trivial⟩)
    · refine w_exit' ?_
      refine n_then_exit ?_
      refine n_then_exit ?_
      refine n_block_exit ?_
      refine n_then ?_
      refine w_seq ?_
      refine w_region ?_
      refine st (s_move rfl ?_)
      refine st (s_move rfl ?_)
      refine st (s_assign rfl ?_)
      refine st (s_assign rfl ?_)
      refine r_end ?_
      refine n_then ?_
      refine w_ret2 rfl rfl rfl ?_
      obtain ⟨e1, e2⟩ := shr_end hLok (by omega) (by omega) h2 hT hemp.1
      exact ⟨_, rfl, hb5, _, _, _, rfl, hO4, hLok, by omega, by omega, e1, e2, by omega⟩
end Go.Proofs.Ytdeiiagkbbimhaa
