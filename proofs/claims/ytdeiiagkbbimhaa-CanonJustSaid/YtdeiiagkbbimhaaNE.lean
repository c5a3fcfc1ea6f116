/- Part of the proof that is named in YtdeiiagkbbimhaaNRowCanJust: a library for walks, or a function's walk. -/
import Derived.Test.YtdeiiagkbbimhaaND
set_option maxRecDepth 20000
set_option linter.unusedSimpArgs false
set_option linter.unusedVariables false
namespace Go.Proofs.Ytdeiiagkbbimhaa
open Go.RowKit Go.Gw
theorem conb_any {va : Value} {l : List Bool} {b : Bool} {F : Nat → Prop} {w : World} (hl : Sl Kd.bool w F va l) :
    Calls Try.prog 26 [va, .bool b].toArray w (Pure w fun v _ => v = .bool (decide (b ∈ l))) := by
  have hb0 := Below.refl w.heap.size w
  have hln1 := hl.lenle
  refine enter Try.func26 rfl rfl ?_
  refine w_seq ?_
  refine w_region ?_
  refine st (s_assign rfl ?_)
  refine r_end ?_
  refine n_then ?_
  refine w_seq ?_
  refine w_region ?_
  refine st (s_move rfl ?_)
  refine st (s_move rfl ?_)
  refine st (s_call fn38 rfl (idxb_any (b := b) (hl.at0 hb0)) ?_)
  rintro _ w1 ⟨hq1, i1, rfl, hi1⟩
  have k1 := grown_of_below hq1 none
  have hb1 := below_g0 hb0 k1
  have hz1 := hb1.size
  refine st (s_ge rfl rfl ?_)
  refine st (s_assign rfl ?_)
  refine r_end ?_
  refine n_then ?_
  refine w_ret1 rfl rfl ?_
  exact ⟨_, rfl, hb1, by rw [hi1]⟩

theorem empties_any {va : Value} {l : List Nd} {F : Nat → Prop} {w : World} (hl : Sl Kd.node w F va l) (hl_ok : looseB l = true) (hll : l.length ≤ 1000000) :
    Calls Try.prog 29 [va].toArray w (Pure w fun v w' => Sl Kd.bool w' (fun _ => False) v (emptL l)) := by
  have hb0 := Below.refl w.heap.size w
  have hln1 := hl.lenle
  refine enter Try.func29 rfl rfl ?_
  refine w_seq ?_
  refine w_region ?_
  refine st (s_assign rfl ?_)
  refine r_end ?_
  refine n_then ?_
  refine w_seq ?_
  refine w_region ?_
  refine st (s_move rfl ?_)
  refine st (s_len sl22 rfl (hl.at0 hb0) ?_)
  refine st (s_add rfl rfl (by omega) ?_)
  refine st (s_make (K := Kd.bool) (base := w.heap.size) (F := (fun _ => False)) sl43 rfl (by omega) (by omega) (by omega) (fun _ _ => ⟨rfl, trivial⟩) (by omega) (fun _ h => h.elim) ?_)
  intro v1 w1 hO1 k1
  have hb1 := below_g0 hb0 k1
  have hz1 := hb1.size
  refine st (s_assign rfl ?_)
  refine r_end ?_
  refine n_then ?_
  refine w_seq ?_
  refine w_region ?_
  refine st (s_move rfl ?_)
  refine st (s_oidx sl43 rfl rfl hO1 (by omega) (by first | (rw [List.length_replicate]; omega) | (rw [partE_length l i hi.1 (by omega)]; omega)) ?_)
  intro g1 hg1 hl_1 hl_2
  refine st0 (s_ostore one4 rfl rfl rfl rfl hO1 hg1 (by omega) (by first | (rw [List.length_replicate]; omega) | (rw [partE_length l i hi.1 (by omega)]; omega)) ⟨rfl, trivial⟩ ?_)
  intro w2 hO2 k2 hs1
  have hb2 := below_g hb1 k2 (by omega)
  refine r_end ?_
  refine n_then ?_
  refine w_seq ?_
  refine w_seq ?_
  refine w_region ?_
  refine st (s_assign rfl ?_)
  refine r_end ?_
  refine n_then ?_
  refine w_block ?_
  refine w_loop (α := Int) (fun (i : Int) => [(0, va), (2, .slice none 0 0), (3, v1), (4, .int .i64 i)]) (fun (i : Int) W => Below w.heap.size w W ∧ (0 ≤ i ∧ i ≤ l.length) ∧ (Own Kd.bool 4 w.heap.size W (fun _ => False) v1 (partE l i))) (fun (i : Int) => (l.length - i).toNat) (0) ⟨hb2, by omega, by rw [← partE_zero]; exact hO2⟩ (by exact ⟨rfl, rfl, rfl, rfl, trivial⟩) ?_
  rintro i w3 ⟨hb3, hi, hO⟩
  have hz2 := hb3.size
  refine w_seq ?_
  refine w_seq ?_
  refine w_region ?_
  refine st (s_move rfl ?_)
  refine st (s_move rfl ?_)
  refine st (s_len sl22 rfl (hl.at0 hb3) ?_)
  refine st (s_lt rfl rfl ?_)
  refine r_end ?_
  refine n_then ?_
  refine w_condP rfl (fun h1 => ?_) (fun h1 => ?_)
  · have hlt := h1
    refine w_skip' ?_
    refine n_then ?_
    refine w_seq ?_
    refine w_block ?_
    refine w_seq ?_
    refine w_region ?_
    refine st (s_assign rfl ?_)
    refine r_end ?_
    refine n_then ?_
    refine w_seq ?_
    refine w_seq ?_
    refine w_region ?_
    refine st (s_assign rfl ?_)
    refine r_end ?_
    refine n_then ?_
    refine w_block ?_
    refine w_loop (α := Int × Bool) (fun ((k, em) : Int × Bool) => [(0, va), (2, .slice none 0 0), (3, v1), (4, .int .i64 i), (5, .bool em), (6, .int .i64 k)]) (fun ((k, em) : Int × Bool) W => Below w.heap.size w W ∧ (0 ≤ k ∧ k ≤ 4) ∧ (em = emptK (ix l i) (partE l i) k) ∧ (Own Kd.bool 4 w.heap.size W (fun _ => False) v1 (partE l i))) (fun ((k, em) : Int × Bool) => (4 - k).toNat) ((0), (true)) ⟨hb3, by omega, by rw [emptK_zero], hO⟩ (by exact ⟨rfl, rfl, rfl, rfl, rfl, rfl, trivial⟩) ?_
    rintro ⟨k, em⟩ w4 ⟨hb4, hk, he, hO2⟩
    dsimp only at *
    have hz3 := hb4.size
    refine w_seq ?_
    refine w_seq ?_
    refine w_region ?_
    refine st (s_move rfl ?_)
    refine st (s_lt rfl rfl ?_)
    refine r_end ?_
    refine n_then ?_
    refine w_condP rfl (fun h2 => ?_) (fun h2 => ?_)
    · refine w_skip' ?_
      refine n_then ?_
      refine w_seq ?_
      refine w_block ?_
      refine w_seq ?_
      refine w_region ?_
      refine st (s_move rfl ?_)
      refine st (s_move rfl ?_)
      refine st (s_move rfl ?_)
      refine st (s_idx sl22 rfl rfl (hl.at0 hb4) (by omega) (by omega) ?_)
      rintro b1 o1 _ ⟨rfl, _⟩ hc1 hF1 hlt1
      have hl_3 := Loc.lt hF1
      refine st (s_faddr fld35_1 rfl ?_)
      refine st (s_iaddr arr33 rfl rfl (by omega) (by omega) ?_)
      refine st (s_load4 one3 rfl hc1 (j := 1) rfl rfl (by omega) (by omega) ?_)
      refine st (s_assign rfl ?_)
      refine r_end ?_
      refine n_then ?_
      refine w_region ?_
      refine st (s_move rfl ?_)
      refine st (s_move rfl ?_)
      refine r_case 32 rfl (fun h3 => ?_) (fun h3 => ?_)
      · refine stg (s_move rfl ?_)
        refine stg (s_eq rfl rfl ?_)
        refine stg (s_move rfl ?_)
        refine r_caseP 35 rfl (fun h4 => ?_) (fun h4 => ?_)
        · refine s_pass rfl rfl ?_
          refine s_pass rfl rfl ?_
          refine s_pass rfl rfl ?_
          refine s_pass rfl rfl ?_
          refine s_pass rfl rfl ?_
          refine s_pass rfl rfl ?_
          refine s_pass rfl rfl ?_
          refine s_passU rfl rfl ?_
          refine s_passU rfl rfl ?_
          refine s_passU rfl rfl ?_
          refine s_passU rfl rfl ?_
          refine s_pass rfl rfl ?_
          refine stg (s_pick rfl rfl ?_)
          refine st (s_pick rfl rfl ?_)
          refine st (s_assign rfl ?_)
          refine r_end ?_
          refine n_block ?_
          refine n_then ?_
          refine w_region ?_
          refine st (s_move rfl ?_)
          refine st (s_add rfl rfl (by omega) ?_)
          refine st (s_assign rfl ?_)
          refine r_end ?_
          exact n_round (((k + 1)), (true)) ⟨hb4, by omega, by rw [emptK_step _ _ _ hk.1 (by omega), ← he]; simp [Nd.kid, h1, h2, h3, h4], hO2⟩ (by omega) (by exact ⟨rfl, rfl, rfl, rfl, rfl, rfl, trivial⟩)
        · refine stg (s_move rfl ?_)
          refine stg (s_move rfl ?_)
          refine stg (s_idx sl22 rfl rfl (hl.at0 hb4) (by omega) (by omega) ?_)
          rintro b2 o2 _ ⟨rfl, _⟩ hc2 hF2 hlt2
          have hl_4 := Loc.lt hF2
          refine stg (s_faddr fld35_0 rfl ?_)
          refine stg (s_load one3 rfl hc2 (j := 0) rfl ?_)
          refine stg (s_gt rfl rfl ?_)
          refine stg (s_move rfl ?_)
          refine r_caseP 42 rfl (fun h5 => ?_) (fun h5 => ?_)
          · have hkid := kid_in hl_ok (i := i) (k := k) hi.1 hlt hk.1 (by omega) (by omega) (by simpa [Nd.kid] using h4)
            unfold Nd.kid at hkid
            have hpl := partE_length l i hi.1 (by omega)
            refine stg (s_move rfl ?_)
            refine stg (s_move rfl ?_)
            refine stg (s_idx sl43 rfl rfl hO2.sl (by omega) (by omega) ?_)
            rintro b3 o3 _ ⟨rfl, _⟩ hc3 hF3 hlt3
            refine stg (s_load one4 rfl hc3 (j := 0) rfl ?_)
            refine stg (s_pick rfl rfl ?_)
            refine stg (s_pick rfl rfl ?_)
            refine st (s_pick rfl rfl ?_)
            refine st (s_assign rfl ?_)
            refine r_end ?_
            refine n_block ?_
            refine n_then ?_
            refine w_region ?_
            refine st (s_move rfl ?_)
            refine st (s_add rfl rfl (by omega) ?_)
            refine st (s_assign rfl ?_)
            refine r_end ?_
            exact n_round (((k + 1)), ((ix (partE l i) (sel4 ((ix l i).k0) ((ix l i).k1) ((ix l i).k2) ((ix l i).k3) k)))) ⟨hb4, by omega, by rw [emptK_step _ _ _ hk.1 (by omega), ← he]; simp [Nd.kid, h2, h3, h4, h5], hO2⟩ (by omega) (by exact ⟨rfl, rfl, rfl, rfl, rfl, rfl, trivial⟩)
          · refine s_pass rfl rfl ?_
            refine s_pass rfl rfl ?_
            refine s_pass rfl rfl ?_
            refine s_pass rfl rfl ?_
            refine stg (s_pick rfl rfl ?_)
            refine stg (s_pick rfl rfl ?_)
            refine st (s_pick rfl rfl ?_)
            refine st (s_assign rfl ?_)
            refine r_end ?_
            refine n_block ?_
            refine n_then ?_
            refine w_region ?_
            refine st (s_move rfl ?_)
            refine st (s_add rfl rfl (by omega) ?_)
            refine st (s_assign rfl ?_)
            refine r_end ?_
            exact n_round (((k + 1)), (false)) ⟨hb4, by omega, by rw [emptK_step _ _ _ hk.1 (by omega), ← he]; simp [Nd.kid, h2, h3, h4, h5], hO2⟩ (by omega) (by exact ⟨rfl, rfl, rfl, rfl, rfl, rfl, trivial⟩)
      · refine s_pass rfl rfl ?_
        refine s_pass rfl rfl ?_
        refine s_pass rfl rfl ?_
        refine s_passU rfl rfl ?_
        refine s_passU rfl rfl ?_
        refine s_passU rfl rfl ?_
        refine s_passU rfl rfl ?_
        refine s_passU rfl rfl ?_
        refine s_passU rfl rfl ?_
        refine s_passU rfl rfl ?_
        refine s_passU rfl rfl ?_
        refine s_passU rfl rfl ?_
        refine s_passU rfl rfl ?_
        refine s_passU rfl rfl ?_
        refine s_passU rfl rfl ?_
        refine s_pass rfl rfl ?_
        refine st (s_pick rfl rfl ?_)
        refine st (s_assign rfl ?_)
        refine r_end ?_
        refine n_block ?_
        refine n_then ?_
        refine w_region ?_
        refine st (s_move rfl ?_)
        refine st (s_add rfl rfl (by omega) ?_)
        refine st (s_assign rfl ?_)
        refine r_end ?_
        exact n_round (((k + 1)), (false)) ⟨hb4, by omega, by rw [emptK_step _ _ _ hk.1 (by omega), ← he]; simp [Nd.kid, h1, h2, h3], hO2⟩ (by omega) (by exact ⟨rfl, rfl, rfl, rfl, rfl, rfl, trivial⟩)
    · refine w_exit' ?_
      refine n_then_exit ?_
      refine n_then_exit ?_
      refine n_block_exit ?_
      refine n_then ?_
      refine w_region ?_
      refine st (s_move rfl ?_)
      refine st (s_move rfl ?_)
      refine st (s_add rfl rfl (by omega) ?_)
      refine st (s_move rfl ?_)
      refine st (s_oidx sl43 rfl rfl hO2 (by omega) (by first | (rw [List.length_replicate]; omega) | (rw [partE_length l i hi.1 (by omega)]; omega)) ?_)
      intro g2 hg2 hl_5 hl_6
      refine st0 (s_ostore one4 rfl rfl rfl rfl hO2 hg2 (by omega) (by first | (rw [List.length_replicate]; omega) | (rw [partE_length l i hi.1 (by omega)]; omega)) ⟨rfl, trivial⟩ ?_)
      intro w5 hO3 k3 hs2
      have hb5 := below_g hb4 k3 (by omega)
      refine r_end ?_
      refine n_block ?_
      refine n_then ?_
      refine w_region ?_
      refine st (s_move rfl ?_)
      refine st (s_add rfl rfl (by omega) ?_)
      refine st (s_assign rfl ?_)
      refine r_end ?_
      exact n_round ((i + 1)) ⟨hb5, by omega, by rw [← partE_set l i hi.1 hlt (okAt_kids hl_ok hi.1 hlt) (lv_in hl_ok hi.1 hlt).1, show (4 : Int) = k by omega, ← he]; exact hO3⟩ (by omega) (by exact ⟨rfl, rfl, rfl, rfl, trivial⟩)
  · refine w_exit' ?_
    refine n_then_exit ?_
    refine n_then_exit ?_
    refine n_block_exit ?_
    refine n_then ?_
    refine w_seq ?_
    refine w_region ?_
    refine st (s_move rfl ?_)
    refine st (s_assign rfl ?_)
    refine r_end ?_
    refine n_then ?_
    refine w_ret1 rfl rfl ?_
    have e : i = (l.length : Int) := by omega
    refine ⟨_, rfl, hb3, ?_⟩
    rw [← partE_end l, ← e]
    exact hO.sl

theorem rempty_any {va : Value} {l : List Nd} {F : Nat → Prop} {w : World} (hl : Sl Kd.node w F va l) {n : Int} (hl_ok : looseB l = true) (hll : l.length ≤ 1000000) (h0 : 0 ≤ n) (h1 : n ≤ l.length) :
    Calls Try.prog 16 [va, .int .i64 n].toArray w (Pure w fun v _ => v = .bool (!(ix (hasL l) n))) := by
  have hb0 := Below.refl w.heap.size w
  have hln1 := hl.lenle
  have hlen := emptL_length l
  refine enter Try.func16 rfl rfl ?_
  refine w_seq ?_
  refine w_region ?_
  refine st (s_assign rfl ?_)
  refine r_end ?_
  refine n_then ?_
  refine w_seq ?_
  refine w_region ?_
  refine st (s_move rfl ?_)
  refine st (s_call fn29 rfl (empties_any (hl.at0 hb0) hl_ok hll) ?_)
  rintro v1 w1 ⟨hq1, hS1⟩
  have k1 := grown_of_below hq1 none
  have hz1 := hq1.size
  have hb1 := below_g0 hb0 k1
  have hz2 := hb1.size
  refine st (s_move rfl ?_)
  refine st (s_idx sl43 rfl rfl hS1 (by omega) (by omega) ?_)
  rintro b1 o1 _ ⟨rfl, _⟩ hc1 hF1 hlt1
  refine st (s_load one4 rfl hc1 (j := 0) rfl ?_)
  refine st (s_assign rfl ?_)
  refine r_end ?_
  refine n_then ?_
  refine w_ret1 rfl rfl ?_
  exact ⟨_, rfl, hb1, by rw [emptL_at l n h0 h1]⟩

theorem rhollow_any {va : Value} {l : List Nd} {F : Nat → Prop} {w : World} (hl : Sl Kd.node w F va l) {n : Int} (hl_ok : looseB l = true) (hll : l.length ≤ 1000000) (h0 : 0 ≤ n) (h1 : n ≤ l.length) :
    Calls Try.prog 18 [va, .int .i64 n].toArray w (Pure w fun v _ => v = .bool (hollowB l n)) := by
  have hb0 := Below.refl w.heap.size w
  have hln1 := hl.lenle
  have hlen := emptL_length l
  refine enter Try.func18 rfl rfl ?_
  refine w_seq ?_
  refine w_region ?_
  refine st (s_assign rfl ?_)
  refine r_end ?_
  refine n_then ?_
  refine w_seq ?_
  refine w_seq ?_
  refine w_region ?_
  refine st (s_move rfl ?_)
  refine st (s_eq rfl rfl ?_)
  refine st (s_move rfl ?_)
  refine r_caseP 12 rfl (fun h1 => ?_) (fun h1 => ?_)
  · refine s_pass rfl rfl ?_
    refine s_pass rfl rfl ?_
    refine s_pass rfl rfl ?_
    refine s_pass rfl rfl ?_
    refine s_pass rfl rfl ?_
    refine s_pass rfl rfl ?_
    refine s_pass rfl rfl ?_
    refine st (s_pick rfl rfl ?_)
    refine r_end ?_
    refine n_then ?_
    refine w_condT rfl ?_
    refine w_seq ?_
    refine w_region ?_
    refine st (s_assign rfl ?_)
    refine r_end ?_
    refine n_then ?_
    refine w_ret1 rfl rfl ?_
    exact ⟨_, rfl, hb0, by rw [hollow_no]; rintro ⟨e1, e2, e3⟩; omega⟩
  · have hlv := (lv_in hl_ok (i := n - 1) (by omega) (by omega)).1
    refine stg (s_move rfl ?_)
    refine stg (s_move rfl ?_)
    refine stg (s_sub rfl rfl (by omega) ?_)
    refine stg (s_idx sl22 rfl rfl (hl.at0 hb0) (by omega) (by omega) ?_)
    rintro b1 o1 _ ⟨rfl, _⟩ hc1 hF1 hlt1
    have hl_1 := Loc.lt hF1
    refine stg (s_faddr fld35_0 rfl ?_)
    refine stg (s_load one3 rfl hc1 (j := 0) rfl ?_)
    refine stg (s_lt rfl rfl ?_)
    refine st (s_pick rfl rfl ?_)
    refine r_end ?_
    refine n_then ?_
    refine w_condP rfl (fun h2 => ?_) (fun h2 => ?_)
    · refine w_seq ?_
      refine w_region ?_
      refine st (s_assign rfl ?_)
      refine r_end ?_
      refine n_then ?_
      refine w_ret1 rfl rfl ?_
      exact ⟨_, rfl, hb0, by rw [hollow_no]; rintro ⟨e1, e2, e3⟩; omega⟩
    · refine w_skip' ?_
      refine n_then ?_
      refine w_seq ?_
      refine w_region ?_
      refine st (s_move rfl ?_)
      refine st (s_call fn29 rfl (empties_any (hl.at0 hb0) hl_ok hll) ?_)
      rintro v1 w1 ⟨hq1, hS1⟩
      have k1 := grown_of_below hq1 none
      have hz1 := hq1.size
      have hb1 := below_g0 hb0 k1
      have hz2 := hb1.size
      refine st (s_assign rfl ?_)
      refine r_end ?_
      refine n_then ?_
      refine w_seq ?_
      refine w_seq ?_
      refine w_region ?_
      refine st (s_assign rfl ?_)
      refine r_end ?_
      refine n_then ?_
      refine w_block ?_
      refine w_loop (α := Int) (fun (k : Int) => [(0, va), (1, .int .i64 n), (5, v1), (6, .int .i64 k)]) (fun (k : Int) W => Below w.heap.size w W ∧ (0 ≤ k ∧ k ≤ 4) ∧ (∀ k' : Int, 0 ≤ k' → k' < k → holK l n k') ∧ (Sl Kd.bool W (fun _ => False) v1 (emptL l))) (fun (k : Int) => (4 - k).toNat) (0) ⟨hb1, by omega, fun k' _ _ => by omega, hS1⟩ (by exact ⟨rfl, rfl, rfl, rfl, trivial⟩) ?_
      rintro k w2 ⟨hb2, hk, ha, hS2⟩
      have hz3 := hb2.size
      refine w_seq ?_
      refine w_seq ?_
      refine w_region ?_
      refine st (s_move rfl ?_)
      refine st (s_lt rfl rfl ?_)
      refine r_end ?_
      refine n_then ?_
      refine w_condP rfl (fun h3 => ?_) (fun h3 => ?_)
      · refine w_skip' ?_
        refine n_then ?_
        refine w_seq ?_
        refine w_block ?_
        refine w_seq ?_
        refine w_region ?_
        refine st (s_move rfl ?_)
        refine st (s_move rfl ?_)
        refine st (s_sub rfl rfl (by omega) ?_)
        refine st (s_move rfl ?_)
        refine st (s_idx sl22 rfl rfl (hl.at0 hb2) (by omega) (by omega) ?_)
        rintro b2 o2 _ ⟨rfl, _⟩ hc2 hF2 hlt2
        have hl_2 := Loc.lt hF2
        refine st (s_faddr fld35_1 rfl ?_)
        refine st (s_iaddr arr33 rfl rfl (by omega) (by omega) ?_)
        refine st (s_load4 one3 rfl hc2 (j := 1) rfl rfl (by omega) (by omega) ?_)
        refine st (s_assign rfl ?_)
        refine r_end ?_
        refine n_then ?_
        refine w_seq ?_
        refine w_region ?_
        refine st (s_assign rfl ?_)
        refine r_end ?_
        refine n_then ?_
        refine w_block ?_
        refine w_loop (α := Int) (fun (j : Int) => [(0, va), (1, .int .i64 n), (5, v1), (6, .int .i64 k), (7, .int .i64 (sel4 ((ix l (n - 1)).k0) ((ix l (n - 1)).k1) ((ix l (n - 1)).k2) ((ix l (n - 1)).k3) k)), (8, .int .i64 j)]) (fun (j : Int) W => Below w.heap.size w W ∧ (0 ≤ j ∧ j ≤ 4) ∧ (∀ j' : Int, 0 ≤ j' → j' < j → j' ≠ 3 - k → hasK (ix l ((ix l (n - 1)).kid k - 1)) (hasL l) ((ix l ((ix l (n - 1)).kid k - 1)).kid j') = false) ∧ (Sl Kd.bool W (fun _ => False) v1 (emptL l))) (fun (j : Int) => (4 - j).toNat) (0) ⟨hb2, by omega, fun j' _ _ _ => by omega, hS2⟩ (by exact ⟨rfl, rfl, rfl, rfl, rfl, rfl, trivial⟩) ?_
        rintro j w3 ⟨hb3, hj, hb, hS3⟩
        have hz4 := hb3.size
        have hkid0 : (ix l (n - 1)).kid k ≠ 0 → _ := fun e => kid_in hl_ok (i := n - 1) (k := k) (by omega) (by omega) hk.1 (by omega) (by omega) e
        refine w_seq ?_
        refine w_seq ?_
        refine w_region ?_
        refine st (s_move rfl ?_)
        refine st (s_lt rfl rfl ?_)
        refine st (s_move rfl ?_)
        refine r_caseP 37 rfl (fun h4 => ?_) (fun h4 => ?_)
        · refine stg (s_move rfl ?_)
          refine stg (s_gt rfl rfl ?_)
          refine st (s_pick rfl rfl ?_)
          refine r_end ?_
          refine n_then ?_
          refine w_condP rfl (fun h5 => ?_) (fun h5 => ?_)
          · have hkid := hkid0 (by unfold Nd.kid; omega)
            unfold Nd.kid at hkid
            refine w_skip' ?_
            refine n_then ?_
            refine w_seq ?_
            refine w_block ?_
            refine w_seq ?_
            refine w_region ?_
            refine st (s_move rfl ?_)
            refine st (s_move rfl ?_)
            refine st (s_sub rfl rfl (by omega) ?_)
            refine st (s_move rfl ?_)
            refine st (s_idx sl22 rfl rfl (hl.at0 hb3) (by omega) (by omega) ?_)
            rintro b3 o3 _ ⟨rfl, _⟩ hc3 hF3 hlt3
            have hl_3 := Loc.lt hF3
            refine st (s_faddr fld35_1 rfl ?_)
            refine st (s_iaddr arr33 rfl rfl (by omega) (by omega) ?_)
            refine st (s_load4 one3 rfl hc3 (j := 1) rfl rfl (by omega) (by omega) ?_)
            refine st (s_assign rfl ?_)
            refine r_end ?_
            refine n_then ?_
            refine w_seq ?_
            refine w_region ?_
            refine st (s_move rfl ?_)
            refine st (s_move rfl ?_)
            refine st (s_sub rfl rfl (by omega) ?_)
            refine st (s_ne rfl rfl ?_)
            refine st (s_move rfl ?_)
            refine r_caseP 55 rfl (fun h6 => ?_) (fun h6 => ?_)
            · refine stg (s_move rfl ?_)
              refine stg (s_move rfl ?_)
              refine stg (s_sub rfl rfl (by omega) ?_)
              refine stg (s_idx sl22 rfl rfl (hl.at0 hb3) (by omega) (by omega) ?_)
              rintro b4 o4 _ ⟨rfl, _⟩ hc4 hF4 hlt4
              have hl_4 := Loc.lt hF4
              refine stg (s_faddr fld35_0 rfl ?_)
              refine stg (s_load one3 rfl hc4 (j := 0) rfl ?_)
              refine stg (s_eq rfl rfl ?_)
              refine stg (s_move rfl ?_)
              refine r_caseP 63 rfl (fun h7 => ?_) (fun h7 => ?_)
              · refine stg (s_move rfl ?_)
                refine stg (s_ne rfl rfl ?_)
                refine stg (s_pick rfl rfl ?_)
                refine stg (s_move rfl ?_)
                refine r_caseP 67 rfl (fun h8 => ?_) (fun h8 => ?_)
                · refine s_pass rfl rfl ?_
                  refine s_pass rfl rfl ?_
                  refine s_pass rfl rfl ?_
                  refine s_pass rfl rfl ?_
                  refine s_pass rfl rfl ?_
                  refine s_pass rfl rfl ?_
                  refine s_pass rfl rfl ?_
                  refine s_pass rfl rfl ?_
                  refine s_passU rfl rfl ?_
                  refine s_passU rfl rfl ?_
                  refine s_passU rfl rfl ?_
                  refine s_passU rfl rfl ?_
                  refine s_passU rfl rfl ?_
                  refine s_pass rfl rfl ?_
                  refine stg (s_pick rfl rfl ?_)
                  refine st (s_pick rfl rfl ?_)
                  refine r_end ?_
                  refine n_then ?_
                  refine w_condT rfl ?_
                  refine w_seq ?_
                  refine w_region ?_
                  refine st (s_assign rfl ?_)
                  refine r_end ?_
                  refine n_then ?_
                  refine w_ret1 rfl rfl ?_
                  refine ⟨_, rfl, hb3, ?_⟩
                  rw [hollow_no]
                  rintro ⟨e1, e2, e3⟩
                  have e4 := e3 k (by omega) (by omega) (by unfold Nd.kid; omega) j (by omega) (by omega) (by omega)
                  rw [hasK_yes (by unfold Nd.kid; omega) (by unfold Nd.kid; first | exact .inl (by omega) | exact .inr (by assumption))] at e4
                  cases e4
                · refine stg (s_move rfl ?_)
                  refine stg (s_move rfl ?_)
                  refine stg (s_sub rfl rfl (by omega) ?_)
                  refine stg (s_idx sl22 rfl rfl (hl.at0 hb3) (by omega) (by omega) ?_)
                  rintro b5 o5 _ ⟨rfl, _⟩ hc5 hF5 hlt5
                  have hl_5 := Loc.lt hF5
                  refine stg (s_faddr fld35_0 rfl ?_)
                  refine stg (s_load one3 rfl hc5 (j := 0) rfl ?_)
                  refine stg (s_gt rfl rfl ?_)
                  refine stg (s_move rfl ?_)
                  refine r_caseP 75 rfl (fun h9 => ?_) (fun h9 => ?_)
                  · have hkid2 : (ix l ((ix l (n - 1)).kid k - 1)).kid j ≠ 0 → _ := fun e => kid_in hl_ok (by unfold Nd.kid; omega) (by unfold Nd.kid; omega) hj.1 (by omega) (by unfold Nd.kid; omega) e
                    unfold Nd.kid at hkid2
                    refine stg (s_move rfl ?_)
                    refine stg (s_move rfl ?_)
                    refine stg (s_idx sl43 rfl rfl hS3 (by omega) (by omega) ?_)
                    rintro b6 o6 _ ⟨rfl, _⟩ hc6 hF6 hlt6
                    refine stg (s_load one4 rfl hc6 (j := 0) rfl ?_)
                    refine stg (s_not rfl ?_)
                    refine stg (s_pick rfl rfl ?_)
                    refine stg (s_pick rfl rfl ?_)
                    refine st (s_pick rfl rfl ?_)
                    refine r_end ?_
                    refine n_then ?_
                    refine w_cond rfl (fun h10 => ?_) (fun h10 => ?_)
                    · rw [emptL_at l _ (by omega) (by omega), Bool.not_not] at h10
                      have hg0 := hasL_nz h10
                      refine w_seq ?_
                      refine w_region ?_
                      refine st (s_assign rfl ?_)
                      refine r_end ?_
                      refine n_then ?_
                      refine w_ret1 rfl rfl ?_
                      refine ⟨_, rfl, hb3, ?_⟩
                      rw [hollow_no]
                      rintro ⟨e1, e2, e3⟩
                      have e4 := e3 k (by omega) (by omega) (by unfold Nd.kid; omega) j (by omega) (by omega) (by omega)
                      rw [hasK_yes (by unfold Nd.kid; omega) (by unfold Nd.kid; first | exact .inl (by omega) | exact .inr (by assumption))] at e4
                      cases e4
                    · rw [emptL_at l _ (by omega) (by omega), Bool.not_not] at h10
                      refine w_skip' ?_
                      refine n_block ?_
                      refine n_then ?_
                      refine w_region ?_
                      refine st (s_move rfl ?_)
                      refine st (s_add rfl rfl (by omega) ?_)
                      refine st (s_assign rfl ?_)
                      refine r_end ?_
                      exact n_round ((j + 1)) ⟨hb3, by omega, fun j' j0 j1 j2 => if e : j' = j then by rw [e] at j2 ⊢; first | (exfalso; omega) | exact hasK_no (.inl (by unfold Nd.kid; omega)) | exact hasK_no (.inr ⟨by unfold Nd.kid; omega, by unfold Nd.kid; assumption⟩) else hb j' j0 (by omega) j2, hS3⟩ (by omega) (by exact ⟨rfl, rfl, rfl, rfl, rfl, rfl, trivial⟩)
                  · refine s_pass rfl rfl ?_
                    refine s_pass rfl rfl ?_
                    refine s_pass rfl rfl ?_
                    refine s_pass rfl rfl ?_
                    refine s_pass rfl rfl ?_
                    refine stg (s_pick rfl rfl ?_)
                    refine stg (s_pick rfl rfl ?_)
                    refine st (s_pick rfl rfl ?_)
                    refine r_end ?_
                    refine n_then ?_
                    refine w_condF rfl ?_
                    refine w_skip' ?_
                    refine n_block ?_
                    refine n_then ?_
                    refine w_region ?_
                    refine st (s_move rfl ?_)
                    refine st (s_add rfl rfl (by omega) ?_)
                    refine st (s_assign rfl ?_)
                    refine r_end ?_
                    exact n_round ((j + 1)) ⟨hb3, by omega, fun j' j0 j1 j2 => if e : j' = j then by rw [e] at j2 ⊢; first | (exfalso; omega) | exact hasK_no (.inl (by unfold Nd.kid; omega)) | exact hasK_no (.inr ⟨by unfold Nd.kid; omega, by unfold Nd.kid; assumption⟩) else hb j' j0 (by omega) j2, hS3⟩ (by omega) (by exact ⟨rfl, rfl, rfl, rfl, rfl, rfl, trivial⟩)
              · refine s_pass rfl rfl ?_
                refine s_pass rfl rfl ?_
                refine stg (s_pick rfl rfl ?_)
                refine stg (s_move rfl ?_)
                refine stg (s_move rfl ?_)
                refine stg (s_move rfl ?_)
                refine stg (s_sub rfl rfl (by omega) ?_)
                refine stg (s_idx sl22 rfl rfl (hl.at0 hb3) (by omega) (by omega) ?_)
                rintro b7 o7 _ ⟨rfl, _⟩ hc7 hF7 hlt7
                have hl_6 := Loc.lt hF7
                refine stg (s_faddr fld35_0 rfl ?_)
                refine stg (s_load one3 rfl hc7 (j := 0) rfl ?_)
                refine stg (s_gt rfl rfl ?_)
                refine stg (s_move rfl ?_)
                refine r_caseP 75 rfl (fun h11 => ?_) (fun h11 => ?_)
                · have hkid2 : (ix l ((ix l (n - 1)).kid k - 1)).kid j ≠ 0 → _ := fun e => kid_in hl_ok (by unfold Nd.kid; omega) (by unfold Nd.kid; omega) hj.1 (by omega) (by unfold Nd.kid; omega) e
                  unfold Nd.kid at hkid2
                  refine stg (s_move rfl ?_)
                  refine stg (s_move rfl ?_)
                  refine stg (s_idx sl43 rfl rfl hS3 (by omega) (by omega) ?_)
                  rintro b8 o8 _ ⟨rfl, _⟩ hc8 hF8 hlt8
                  refine stg (s_load one4 rfl hc8 (j := 0) rfl ?_)
                  refine stg (s_not rfl ?_)
                  refine stg (s_pick rfl rfl ?_)
                  refine stg (s_pick rfl rfl ?_)
                  refine st (s_pick rfl rfl ?_)
                  refine r_end ?_
                  refine n_then ?_
                  refine w_cond rfl (fun h12 => ?_) (fun h12 => ?_)
                  · rw [emptL_at l _ (by omega) (by omega), Bool.not_not] at h12
                    have hg0 := hasL_nz h12
                    refine w_seq ?_
                    refine w_region ?_
                    refine st (s_assign rfl ?_)
                    refine r_end ?_
                    refine n_then ?_
                    refine w_ret1 rfl rfl ?_
                    refine ⟨_, rfl, hb3, ?_⟩
                    rw [hollow_no]
                    rintro ⟨e1, e2, e3⟩
                    have e4 := e3 k (by omega) (by omega) (by unfold Nd.kid; omega) j (by omega) (by omega) (by omega)
                    rw [hasK_yes (by unfold Nd.kid; omega) (by unfold Nd.kid; first | exact .inl (by omega) | exact .inr (by assumption))] at e4
                    cases e4
                  · rw [emptL_at l _ (by omega) (by omega), Bool.not_not] at h12
                    refine w_skip' ?_
                    refine n_block ?_
                    refine n_then ?_
                    refine w_region ?_
                    refine st (s_move rfl ?_)
                    refine st (s_add rfl rfl (by omega) ?_)
                    refine st (s_assign rfl ?_)
                    refine r_end ?_
                    exact n_round ((j + 1)) ⟨hb3, by omega, fun j' j0 j1 j2 => if e : j' = j then by rw [e] at j2 ⊢; first | (exfalso; omega) | exact hasK_no (.inl (by unfold Nd.kid; omega)) | exact hasK_no (.inr ⟨by unfold Nd.kid; omega, by unfold Nd.kid; assumption⟩) else hb j' j0 (by omega) j2, hS3⟩ (by omega) (by exact ⟨rfl, rfl, rfl, rfl, rfl, rfl, trivial⟩)
                · refine s_pass rfl rfl ?_
                  refine s_pass rfl rfl ?_
                  refine s_pass rfl rfl ?_
                  refine s_pass rfl rfl ?_
                  refine s_pass rfl rfl ?_
                  refine stg (s_pick rfl rfl ?_)
                  refine stg (s_pick rfl rfl ?_)
                  refine st (s_pick rfl rfl ?_)
                  refine r_end ?_
                  refine n_then ?_
                  refine w_condF rfl ?_
                  refine w_skip' ?_
                  refine n_block ?_
                  refine n_then ?_
                  refine w_region ?_
                  refine st (s_move rfl ?_)
                  refine st (s_add rfl rfl (by omega) ?_)
                  refine st (s_assign rfl ?_)
                  refine r_end ?_
                  exact n_round ((j + 1)) ⟨hb3, by omega, fun j' j0 j1 j2 => if e : j' = j then by rw [e] at j2 ⊢; first | (exfalso; omega) | exact hasK_no (.inl (by unfold Nd.kid; omega)) | exact hasK_no (.inr ⟨by unfold Nd.kid; omega, by unfold Nd.kid; assumption⟩) else hb j' j0 (by omega) j2, hS3⟩ (by omega) (by exact ⟨rfl, rfl, rfl, rfl, rfl, rfl, trivial⟩)
            · refine s_pass rfl rfl ?_
              refine s_pass rfl rfl ?_
              refine s_pass rfl rfl ?_
              refine s_pass rfl rfl ?_
              refine s_pass rfl rfl ?_
              refine s_pass rfl rfl ?_
              refine s_pass rfl rfl ?_
              refine s_pass rfl rfl ?_
              refine s_passU rfl rfl ?_
              refine s_passU rfl rfl ?_
              refine s_pass rfl rfl ?_
              refine s_pass rfl rfl ?_
              refine s_passU rfl rfl ?_
              refine s_passU rfl rfl ?_
              refine s_passU rfl rfl ?_
              refine s_passU rfl rfl ?_
              refine s_passU rfl rfl ?_
              refine s_passU rfl rfl ?_
              refine s_passU rfl rfl ?_
              refine s_passU rfl rfl ?_
              refine s_passU rfl rfl ?_
              refine s_passU rfl rfl ?_
              refine s_passU rfl rfl ?_
              refine s_passU rfl rfl ?_
              refine s_passU rfl rfl ?_
              refine s_passU rfl rfl ?_
              refine s_pass rfl rfl ?_
              refine st (s_pick rfl rfl ?_)
              refine r_end ?_
              refine n_then ?_
              refine w_condF rfl ?_
              refine w_skip' ?_
              refine n_block ?_
              refine n_then ?_
              refine w_region ?_
              refine st (s_move rfl ?_)
              refine st (s_add rfl rfl (by omega) ?_)
              refine st (s_assign rfl ?_)
              refine r_end ?_
              exact n_round ((j + 1)) ⟨hb3, by omega, fun j' j0 j1 j2 => if e : j' = j then by rw [e] at j2 ⊢; first | (exfalso; omega) | exact hasK_no (.inl (by unfold Nd.kid; omega)) | exact hasK_no (.inr ⟨by unfold Nd.kid; omega, by unfold Nd.kid; assumption⟩) else hb j' j0 (by omega) j2, hS3⟩ (by omega) (by exact ⟨rfl, rfl, rfl, rfl, rfl, rfl, trivial⟩)
          · refine w_exit' ?_
            refine n_then_exit ?_
            refine n_then_exit ?_
            refine n_block_exit ?_
            refine n_block ?_
            refine n_then ?_
            refine w_region ?_
            refine st (s_move rfl ?_)
            refine st (s_add rfl rfl (by omega) ?_)
            refine st (s_assign rfl ?_)
            refine r_end ?_
            exact n_round ((k + 1)) ⟨hb3, by omega, fun k' k0 k1 => if e : k' = k then by rw [e]; intro e2 j' j0 j1 j2; exact hb j' j0 (by first | omega | (have := hkid0 e2; unfold Nd.kid at this; omega)) j2 else ha k' k0 (by omega), hS3⟩ (by omega) (by exact ⟨rfl, rfl, rfl, rfl, trivial⟩)
        · refine s_pass rfl rfl ?_
          refine s_pass rfl rfl ?_
          refine st (s_pick rfl rfl ?_)
          refine r_end ?_
          refine n_then ?_
          refine w_condF rfl ?_
          refine w_exit' ?_
          refine n_then_exit ?_
          refine n_then_exit ?_
          refine n_block_exit ?_
          refine n_block ?_
          refine n_then ?_
          refine w_region ?_
          refine st (s_move rfl ?_)
          refine st (s_add rfl rfl (by omega) ?_)
          refine st (s_assign rfl ?_)
          refine r_end ?_
          exact n_round ((k + 1)) ⟨hb3, by omega, fun k' k0 k1 => if e : k' = k then by rw [e]; intro e2 j' j0 j1 j2; exact hb j' j0 (by first | omega | (have := hkid0 e2; unfold Nd.kid at this; omega)) j2 else ha k' k0 (by omega), hS3⟩ (by omega) (by exact ⟨rfl, rfl, rfl, rfl, trivial⟩)
      · refine w_exit' ?_
        refine n_then_exit ?_
        refine n_then_exit ?_
        refine n_block_exit ?_
        refine n_then ?_
        refine w_seq ?_
        refine w_region ?_
        refine st (s_assign rfl ?_)
        refine r_end ?_
        refine n_then ?_
        refine w_ret1 rfl rfl ?_
        exact ⟨_, rfl, hb2, by rw [(hollowB_iff l n).2]; exact ⟨by omega, by omega, fun k k0 k1 => ha k k0 (by omega)⟩⟩
end Go.Proofs.Ytdeiiagkbbimhaa
